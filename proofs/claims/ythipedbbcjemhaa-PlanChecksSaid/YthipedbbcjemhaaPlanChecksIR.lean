/- Part of the proof; written by a program out of the texts in wip/. -/
import Derived.Test.YthipedbbcjemhaaPlanChecksE32
import Derived.Test.YthipedbbcjemhaaProg
import Derived.KernelRfl
namespace Go.Eng
open Go Go.Proofs
set_option maxRecDepth 100000
set_option linter.unusedVariables false
set_option linter.unusedSimpArgs false
def q (i:Ins):IOp:=⟨none,i,[],none⟩
def mv (d x:Nat):IOp:=⟨none,.val d .mov [.t x],[],none⟩
def ki (n:Int):IX:=.k (.p (.int .i64 n))
def o6_0:List IOp:=[q (.boxL 5 (.t 0)),
 q (.boxL 6 (.t 1)),
 q (.val 10 .mov [.k (.p (.bool false))])]
def r6_0:IC:=(.reg o6_0 [2,3,4,5,6])
def o6_1:List IOp:=[q (.load 23 (.t 5) 2 true),
 q (.load 24 (.t 6) 2 true),
 mv 25 2,
 q (.call (some 26) 8 [.t 23,.t 24,.t 25]),
 q (.val 27 .mov [ki 0])]
def r6_1:IC:=(.reg o6_1 [2,3,4,26,27])
def o6_2:List IOp:=[q (.val 28 (.bin .lss) [.t 27,ki 3])]
def r6_2:IC:=(.reg o6_2 [2,3,4,26,27,28])
def o6_3:List IOp:=[q (.val 29 (.idx 3 2 true) [.t 26,.t 27]),
 q (.newL 12 [.p (.sl 1 true []),.p (.sl 4 true [])]),
 q (.store (.t 12) (.t 29) 2)]
def r6_3:IC:=(.reg o6_3 [2,3,4,12,26,27])
def o6_4:List IOp:=[q (.load 31 (.t 12) 2 true),
 q (.call (some 32) 16 [.t 31]),
 mv 30 32,
 q (.val 33 (.ext 0) [.t 30]),
 q (.val 34 (.ext 1) [.t 30]),
 mv 13 33,
 mv 14 34]
def r6_4:IC:=(.reg o6_4 [2,3,4,12,13,14,26,27])
def o6_5:List IOp:=[q (.load 36 (.t 12) 2 true),
 q (.call (some 37) 17 [.t 36]),
 mv 35 37,
 q (.val 38 (.ext 0) [.t 35]),
 q (.val 39 (.ext 1) [.t 35]),
 mv 15 38,
 mv 16 39]
def r6_5:IC:=(.reg o6_5 [2,3,4,12,13,14,15,16,26,27])
def o6_6:List IOp:=[mv 40 13,
 mv 41 15,
 ⟨none,.val 42 (.bin .neq) [.t 40,.t 41],[0,1],none⟩,
 ⟨none,.val 43 .mov [.t 42],[0,1,2],none⟩,
 ⟨(some (43,false)),.val 44 .mov [.t 14],[0,1,2,3],none⟩,
 ⟨(some (43,false)),.val 45 .mov [.t 16],[0,1,2,3],none⟩,
 ⟨(some (43,false)),.val 46 (.bin .neq) [.t 44,.t 45],[0,1,2,3,4,5],none⟩,
 ⟨none,.val 47 .pick [.t 43,.k (.p (.bool true)),.t 46],[0,1,2,3,4,5,6],none⟩,
 ⟨none,.val 48 .mov [.t 47],[0,1,2,3,4,5,6,7],none⟩,
 ⟨(some (48,false)),.loadL 49 (.t 12) 2 true,[0,1,2,3,4,5,6,7,8],none⟩,
 ⟨(some (48,false)),.callP 50 18 [.t 49],[0,1,2,3,4,5,6,7,8,9],none⟩,
 ⟨(some (48,false)),.loadL 51 (.t 12) 2 true,[0,1,2,3,4,5,6,7,8],none⟩,
 ⟨(some (48,false)),.callP 52 19 [.t 51],[0,1,2,3,4,5,6,7,8,9,10,11],none⟩,
 ⟨(some (48,false)),.val 53 (.bin .neq) [.t 50,.t 52],[0,1,2,3,4,5,6,7,8,9,10,11,12],none⟩,
 ⟨none,.val 54 .pick [.t 48,.k (.p (.bool true)),.t 53],[0,1,2,3,4,5,6,7,8,9,10,11,12,13],none⟩]
def r6_6:IC:=(.regD o6_6 [2,3,4,12,26,27,54])
def o6_7:List IOp:=[q (.val 10 .mov [.k (.p (.bool false))])]
def r6_7:IC:=(.reg o6_7 [10])
def o6_8:List IOp:=[mv 55 3,
 mv 56 4,
 q (.val 57 (.build [.p (.int .i64 0),.p (.int .i64 0)] [(0,1),(1,1)]) [.t 55,.t 56]),
 mv 58 2,
 q (.val 59 (.conv .i64) [.t 58]),
 q (.val 60 (.bin .rem) [.t 59,ki 13]),
 mv 61 2,
 q (.val 62 (.conv .i64) [.t 61]),
 q (.val 63 (.bin .rem) [.t 62,ki 5]),
 q (.val 64 (.build [.p (.int .i64 0),.p (.int .i64 0)] [(0,1),(1,1)]) [.t 60,.t 63]),
 q (.val 65 (.build [.p (.int .i64 0),.p (.int .i64 0)] [(0,1),(1,1)]) [ki 0,ki 0]),
 q (.val 66 (.build [.p (.int .i64 0),.p (.int .i64 0),.p (.int .i64 0),.p (.int .i64 0),.p (.int .i64 0),.p (.int .i64 0)] [(0,2),(2,2),(4,2)]) [.t 57,.t 64,.t 65]),
 q (.val 67 .mov [ki 0])]
def r6_8:IC:=(.reg o6_8 [2,3,4,12,26,27,66,67])
def o6_9:List IOp:=[q (.val 68 (.bin .lss) [.t 67,ki 3])]
def r6_9:IC:=(.reg o6_9 [2,3,4,12,26,27,66,67,68])
def o6_10:List IOp:=[q (.val 69 (.idx 3 2 true) [.t 66,.t 67]),
 q (.newL 18 [.p (.int .i64 0),.p (.int .i64 0)]),
 q (.store (.t 18) (.t 69) 2)]
def r6_10:IC:=(.reg o6_10 [2,3,4,12,18,26,27,66,67])
def o6_11:List IOp:=[q (.load 71 (.t 12) 2 true),
 q (.val 72 (.iaddr 2 1) [.t 18,ki 0]),
 q (.load 73 (.t 72) 1 false),
 q (.val 74 (.iaddr 2 1) [.t 18,ki 1]),
 q (.load 75 (.t 74) 1 false),
 q (.call (some 76) 20 [.t 71,.t 73,.t 75]),
 mv 70 76,
 q (.val 77 (.ext 0) [.t 70]),
 q (.val 78 (.ext 1) [.t 70]),
 q (.newL 19 [.p (.int .i64 0),.p (.int .i64 0),.p (.int .i64 0)]),
 q (.store (.t 19) (.t 77) 3),
 mv 20 78]
def r6_11:IC:=(.reg o6_11 [2,3,4,12,18,19,20,26,27,66,67])
def o6_12:List IOp:=[q (.load 80 (.t 12) 2 true),
 q (.val 81 (.iaddr 2 1) [.t 18,ki 0]),
 q (.load 82 (.t 81) 1 false),
 q (.val 83 (.iaddr 2 1) [.t 18,ki 1]),
 q (.load 84 (.t 83) 1 false),
 q (.call (some 85) 21 [.t 80,.t 82,.t 84]),
 mv 79 85,
 q (.val 86 (.ext 0) [.t 79]),
 q (.val 87 (.ext 1) [.t 79]),
 q (.newL 21 [.p (.int .i64 0),.p (.int .i64 0),.p (.int .i64 0)]),
 q (.store (.t 21) (.t 86) 3),
 mv 22 87]
def r6_12:IC:=(.reg o6_12 [2,3,4,12,19,20,21,22,26,27,66,67])
def o6_13:List IOp:=[q (.load 88 (.t 19) 3 true),
 q (.load 89 (.t 21) 3 true),
 q (.val 90 (.eqS true [true,true,true]) [.t 88,.t 89]),
 mv 91 90,
 ⟨(some (91,false)),.val 92 .mov [.t 20],[],none⟩,
 ⟨(some (91,false)),.val 93 .mov [.t 22],[],none⟩,
 ⟨(some (91,false)),.val 94 (.bin .neq) [.t 92,.t 93],[],none⟩,
 q (.val 95 .pick [.t 91,.k (.p (.bool true)),.t 94])]
def r6_13:IC:=(.reg o6_13 [2,3,4,12,26,27,66,67,95])
def o6_14:List IOp:=[q (.val 10 .mov [.k (.p (.bool false))])]
def r6_14:IC:=(.reg o6_14 [10])
def o6_15:List IOp:=[q (.val 96 (.bin .add) [.t 67,ki 1]),
 mv 67 96]
def r6_15:IC:=(.reg o6_15 [2,3,4,12,26,27,66,67])
def l6_2:IC:=(.seq r6_9 (.seq (.cond (.t 68) .skip (.kp [2,3,4,26,27] (.exit 2))) (.kp [2,3,4,12,26,27,66,67] (.seq (.block 3 (.seq r6_10 (.seq r6_11 (.seq r6_12 (.seq r6_13 (.cond (.t 95) (.seq r6_14 .ret) .skip)))))) (.kp [2,3,4,12,26,27,66,67] r6_15)))))
def o6_16:List IOp:=[q (.val 97 (.bin .add) [.t 27,ki 1]),
 mv 27 97]
def r6_16:IC:=(.reg o6_16 [2,3,4,26,27])
def l6_1:IC:=(.seq r6_2 (.seq (.cond (.t 28) .skip (.kp [] (.exit 0))) (.kp [2,3,4,26,27] (.seq (.block 1 (.seq r6_3 (.seq r6_4 (.seq r6_5 (.seq (.seq r6_6 (.cond (.t 54) (.seq r6_7 .ret) .skip)) (.kp [2,3,4,12,26,27] (.seq r6_8 (.block 2 (.loop l6_2))))))))) (.kp [2,3,4,26,27] r6_16)))))
def o6_17:List IOp:=[q (.call (some 98) 15 []),
 mv 10 98]
def r6_17:IC:=(.reg o6_17 [10])
def b6:IC:=(.seq r6_0 (.seq (.seq r6_1 (.block 0 (.loop l6_1))) (.seq r6_17 .ret)))
def i6:IFn:=⟨5,99,b6,[.tmp 10]⟩
def o8_0:List IOp:=[q (.boxL 3 (.t 0)),
 q (.boxL 4 (.t 1)),
 q (.newL 6 [.p (.sl 1 true []),.p (.sl 4 true []),.p (.sl 1 true []),.p (.sl 4 true []),.p (.sl 1 true []),.p (.sl 4 true [])])]
def r8_0:IC:=(.reg o8_0 [2,3,4,6])
def o8_1:List IOp:=[q (.load 9 (.t 3) 2 true),
 q (.call (some 10) 10 [.t 9]),
 q (.newL 7 [.p (.sl 1 true []),.p (.sl 4 true [])]),
 q (.store (.t 7) (.t 10) 2)]
def r8_1:IC:=(.reg o8_1 [2,4,6,7])
def o8_2:List IOp:=[q (.val 11 (.faddr 0) [.t 4]),
 ⟨none,.loadL 12 (.t 11) 1 false,[0],none⟩,
 q (.val 13 (.faddr 0) [.t 4]),
 ⟨none,.loadL 14 (.t 13) 1 false,[2],none⟩,
 ⟨none,.val 15 .len [.t 14],[2,3],none⟩,
 ⟨none,.val 16 .min [.t 15,ki 13],[2,3,4],none⟩,
 ⟨none,.val 17 (.slice 1 false true false) [.t 12,.t 16],[0,1,2,3,4,5],none⟩,
 q (.val 18 (.faddr 1) [.t 4]),
 ⟨none,.loadL 19 (.t 18) 1 false,[7],none⟩,
 q (.val 20 (.faddr 1) [.t 4]),
 ⟨none,.loadL 21 (.t 20) 1 false,[9],none⟩,
 ⟨none,.val 22 .len [.t 21],[9,10],none⟩,
 ⟨none,.val 23 .min [.t 22,ki 200],[9,10,11],none⟩,
 ⟨none,.val 24 (.slice 4 false true false) [.t 19,.t 23],[7,8,9,10,11,12],none⟩,
 ⟨none,.val 25 (.faddr 0) [.t 4],[0,1,2,3,4,5,6,7,8,9,10],none⟩,
 ⟨none,.store (.t 25) (.t 17) 1,[0,1,2,3,4,5,6,7,8,9,10,14],none⟩,
 ⟨none,.val 26 (.faddr 1) [.t 4],[0,1,2,3,4,5,6,7,8,9,10,11,12,13,14,15],none⟩,
 ⟨none,.store (.t 26) (.t 24) 1,[0,1,2,3,4,5,6,7,8,9,10,11,12,13,14,15,16],none⟩]
def r8_2:IC:=(.regD o8_2 [2,4,6,7])
def o8_3:List IOp:=[q (.litP 27 1 []),
 q (.val 28 (.faddr 0) [.t 7]),
 ⟨none,.loadL 29 (.t 28) 1 false,[1],none⟩,
 ⟨none,.appN 30 (.t 27) (.t 29) 1 8,[0,1,2],none⟩,
 q (.litP 31 4 []),
 q (.val 32 (.faddr 1) [.t 7]),
 ⟨none,.loadL 33 (.t 32) 1 false,[5],none⟩,
 ⟨none,.appN 34 (.t 31) (.t 33) 4 32,[0,1,2,3,4,5,6],none⟩,
 ⟨none,.val 35 (.build [.p (.sl 1 true []),.p (.sl 4 true [])] [(0,1),(1,1)]) [.t 30,.t 34],[0,1,2,3,4,5,6,7],none⟩,
 q (.newL 8 [.p (.sl 1 true []),.p (.sl 4 true [])]),
 ⟨none,.store (.t 8) (.t 35) 2,[0,1,2,3,4,5,6,7,8,9],none⟩]
def r8_3:IC:=(.regD o8_3 [2,4,6,7,8])
def o8_4:List IOp:=[q (.val 36 (.faddr 1) [.t 8]),
 q (.load 37 (.t 36) 1 false),
 q (.val 38 .len [.t 37]),
 q (.val 39 (.bin .gtr) [.t 38,ki 0]),
 mv 40 39,
 ⟨(some (40,true)),.val 41 (.faddr 1) [.t 4],[],none⟩,
 ⟨(some (40,true)),.load 42 (.t 41) 1 false,[],none⟩,
 ⟨(some (40,true)),.val 43 .len [.t 42],[],none⟩,
 ⟨(some (40,true)),.val 44 (.bin .gtr) [.t 43,ki 0],[],none⟩,
 q (.val 45 .pick [.t 40,.t 44,.k (.p (.bool false))]),
 mv 46 45,
 ⟨(some (46,true)),.val 47 .mov [.t 2],[],none⟩,
 ⟨(some (46,true)),.val 48 (.bin .rem) [.t 47,.k (.p (.int .u8 2))],[],none⟩,
 ⟨(some (46,true)),.val 49 (.bin .eql) [.t 48,.k (.p (.int .u8 0))],[],none⟩,
 q (.val 50 .pick [.t 46,.t 49,.k (.p (.bool false))])]
def r8_4:IC:=(.reg o8_4 [2,4,6,7,8,50])
def o8_5:List IOp:=[q (.val 51 (.faddr 1) [.t 8]),
 ⟨none,.loadL 52 (.t 51) 1 false,[0],none⟩,
 mv 53 2,
 ⟨none,.val 54 (.conv .i64) [.t 53],[2],none⟩,
 q (.val 55 (.faddr 1) [.t 8]),
 ⟨none,.loadL 56 (.t 55) 1 false,[4],none⟩,
 ⟨none,.val 57 .len [.t 56],[4,5],none⟩,
 ⟨none,.val 58 (.bin .rem) [.t 54,.t 57],[2,3,4,5,6],none⟩,
 q (.val 59 (.faddr 1) [.t 4]),
 ⟨none,.loadL 60 (.t 59) 1 false,[8],none⟩,
 ⟨none,.val 61 (.iaddrS 4) [.t 60,ki 0],[8,9],none⟩,
 ⟨none,.loadH 62 (.t 61) 4 true,[8,9,10],none⟩,
 ⟨none,.val 63 (.iaddrS 4) [.t 52,.t 58],[0,1,2,3,4,5,6,7,8,9,10,11],none⟩,
 ⟨none,.storeH (.t 63) (.t 62) 4,[0,1,2,3,4,5,6,7,8,9,10,11,12],none⟩]
def r8_5:IC:=(.regD o8_5 [4,6,7,8])
def o8_6:List IOp:=[q (.val 64 (.faddr 0) [.t 8]),
 q (.load 65 (.t 64) 1 false),
 q (.val 66 .len [.t 65]),
 q (.val 67 (.bin .gtr) [.t 66,ki 0]),
 mv 68 67,
 ⟨(some (68,true)),.val 69 (.faddr 0) [.t 4],[],none⟩,
 ⟨(some (68,true)),.load 70 (.t 69) 1 false,[],none⟩,
 ⟨(some (68,true)),.val 71 .len [.t 70],[],none⟩,
 ⟨(some (68,true)),.val 72 (.bin .gtr) [.t 71,ki 0],[],none⟩,
 q (.val 73 .pick [.t 68,.t 72,.k (.p (.bool false))])]
def r8_6:IC:=(.reg o8_6 [2,4,6,7,8,73])
def o8_7:List IOp:=[q (.val 74 (.faddr 0) [.t 8]),
 ⟨none,.loadL 75 (.t 74) 1 false,[0],none⟩,
 mv 76 2,
 ⟨none,.val 77 (.conv .i64) [.t 76],[2],none⟩,
 q (.val 78 (.faddr 0) [.t 8]),
 ⟨none,.loadL 79 (.t 78) 1 false,[4],none⟩,
 ⟨none,.val 80 .len [.t 79],[4,5],none⟩,
 ⟨none,.val 81 (.bin .rem) [.t 77,.t 80],[2,3,4,5,6],none⟩,
 q (.val 82 (.faddr 0) [.t 4]),
 ⟨none,.loadL 83 (.t 82) 1 false,[8],none⟩,
 ⟨none,.val 84 (.iaddrS 1) [.t 83,ki 0],[8,9],none⟩,
 ⟨none,.loadH 85 (.t 84) 1 false,[8,9,10],none⟩,
 ⟨none,.val 86 (.iaddrS 1) [.t 75,.t 81],[0,1,2,3,4,5,6,7,8,9,10,11],none⟩,
 ⟨none,.storeH (.t 86) (.t 85) 1,[0,1,2,3,4,5,6,7,8,9,10,11,12],none⟩]
def r8_7:IC:=(.regD o8_7 [4,6,7,8])
def o8_8:List IOp:=[q (.load 87 (.t 7) 2 true),
 q (.load 88 (.t 4) 2 true),
 q (.load 89 (.t 8) 2 true),
 q (.val 90 (.build [.p (.sl 1 true []),.p (.sl 4 true []),.p (.sl 1 true []),.p (.sl 4 true []),.p (.sl 1 true []),.p (.sl 4 true [])] [(0,2),(2,2),(4,2)]) [.t 87,.t 88,.t 89]),
 q (.store (.t 6) (.t 90) 6)]
def r8_8:IC:=(.reg o8_8 [6])
def b8:IC:=(.seq r8_0 (.seq r8_1 (.seq r8_2 (.seq r8_3 (.seq (.seq r8_4 (.cond (.t 50) r8_5 (.seq r8_6 (.cond (.t 73) r8_7 .skip)))) (.kp [4,6,7,8] (.seq r8_8 .ret)))))))
def i8:IFn:=⟨3,91,b8,[.cell 6 6 true]⟩
def o10_0:List IOp:=[q (.boxL 1 (.t 0)),
 q (.newL 2 [.p (.sl 1 true []),.p (.sl 4 true [])])]
def r10_0:IC:=(.reg o10_0 [1,2])
def o10_1:List IOp:=[q (.newL 3 [.p (.sl 1 true []),.p (.sl 4 true [])])]
def r10_1:IC:=(.reg o10_1 [1,2,3])
def o10_2:List IOp:=[q (.val 4 .mov [ki 0])]
def r10_2:IC:=(.reg o10_2 [1,2,3,4])
def o10_3:List IOp:=[mv 9 4,
 q (.val 10 (.faddr 0) [.t 1]),
 q (.load 11 (.t 10) 1 false),
 q (.val 12 .len [.t 11]),
 q (.val 13 (.bin .lss) [.t 9,.t 12]),
 mv 14 13,
 ⟨(some (14,true)),.val 15 .mov [.t 4],[],none⟩,
 ⟨(some (14,true)),.val 16 (.bin .lss) [.t 15,ki 5],[],none⟩,
 q (.val 17 .pick [.t 14,.t 16,.k (.p (.bool false))])]
def r10_3:IC:=(.reg o10_3 [1,2,3,4,17])
def o10_5:List IOp:=[q (.val 20 (.faddr 0) [.t 3]),
 ⟨none,.loadL 21 (.t 20) 1 false,[0],none⟩,
 q (.litP 22 1 [ki 4,ki 6,ki 8,ki 12,ki 3,ki 5,ki 10,ki 24]),
 q (.val 23 (.faddr 0) [.t 1]),
 ⟨none,.loadL 24 (.t 23) 1 false,[3],none⟩,
 mv 25 4,
 ⟨none,.val 26 (.iaddrS 1) [.t 24,.t 25],[3,4,5],none⟩,
 ⟨none,.loadH 27 (.t 26) 1 false,[3,4,5,6],none⟩,
 ⟨none,.val 28 (.bin .rem) [.t 27,.k (.p (.int .u8 8))],[3,4,5,6,7],none⟩,
 ⟨none,.val 29 (.iaddrS 1) [.t 22,.t 28],[2,3,4,5,6,7,8],none⟩,
 ⟨none,.loadH 30 (.t 29) 1 false,[2,3,4,5,6,7,8,9],none⟩,
 ⟨none,.litP 31 1 [.t 30],[2,3,4,5,6,7,8,9,10],none⟩,
 ⟨none,.app 32 (.t 21) (.t 31) 1 8,[0,1,2,3,4,5,6,7,8,9,10,11],none⟩,
 ⟨none,.val 33 (.faddr 0) [.t 3],[0,1,2,3,4,5,6,7,8,9,10,11,12],none⟩,
 ⟨none,.store (.t 33) (.t 32) 1,[0,1,2,3,4,5,6,7,8,9,10,11,12,13],none⟩]
def r10_5:IC:=(.regD o10_5 [1,2,3,4])
def o10_4:List IOp:=[mv 18 4,
 q (.val 19 (.bin .add) [.t 18,ki 1]),
 mv 4 19]
def r10_4:IC:=(.reg o10_4 [1,2,3,4])
def l10_1:IC:=(.seq (.seq r10_3 (.cond (.t 17) .skip (.kp [1,2,3] (.exit 0)))) (.kp [1,2,3,4] (.seq (.block 1 r10_5) r10_4)))
def o10_6:List IOp:=[q (.val 5 .mov [ki 0])]
def r10_6:IC:=(.reg o10_6 [1,2,3,5])
def o10_7:List IOp:=[mv 34 5,
 q (.val 35 (.faddr 1) [.t 1]),
 q (.load 36 (.t 35) 1 false),
 q (.val 37 .len [.t 36]),
 q (.val 38 (.bin .lss) [.t 34,.t 37]),
 mv 39 38,
 ⟨(some (39,true)),.val 40 .mov [.t 5],[],none⟩,
 ⟨(some (39,true)),.val 41 (.bin .lss) [.t 40,ki 12],[],none⟩,
 q (.val 42 .pick [.t 39,.t 41,.k (.p (.bool false))]),
 mv 43 42,
 ⟨(some (43,true)),.val 44 (.faddr 0) [.t 3],[],none⟩,
 ⟨(some (43,true)),.load 45 (.t 44) 1 false,[],none⟩,
 ⟨(some (43,true)),.val 46 .len [.t 45],[],none⟩,
 ⟨(some (43,true)),.val 47 (.bin .gtr) [.t 46,ki 0],[],none⟩,
 q (.val 48 .pick [.t 43,.t 47,.k (.p (.bool false))])]
def r10_7:IC:=(.reg o10_7 [1,2,3,5,48])
def o10_9:List IOp:=[q (.val 51 (.faddr 1) [.t 1]),
 q (.load 52 (.t 51) 1 false),
 mv 53 5,
 q (.val 54 (.iaddrS 4) [.t 52,.t 53]),
 q (.load 55 (.t 54) 4 true),
 q (.newL 6 [.p (.int .u8 0),.p (.int .u8 0),.p (.int .u8 0),.p (.int .u8 0)]),
 q (.store (.t 6) (.t 55) 4)]
def r10_9:IC:=(.reg o10_9 [1,2,3,5,6])
def o10_10:List IOp:=[q (.val 56 (.iaddr 4 1) [.t 6,ki 0]),
 q (.load 57 (.t 56) 1 false),
 q (.val 58 (.conv .i64) [.t 57]),
 q (.val 59 (.faddr 0) [.t 3]),
 q (.load 60 (.t 59) 1 false),
 q (.val 61 .len [.t 60]),
 q (.val 62 (.bin .rem) [.t 58,.t 61]),
 mv 7 62]
def r10_10:IC:=(.reg o10_10 [1,2,3,5,6,7])
def o10_11:List IOp:=[q (.val 63 (.faddr 0) [.t 3]),
 q (.load 64 (.t 63) 1 false),
 mv 65 7,
 q (.val 66 (.iaddrS 1) [.t 64,.t 65]),
 q (.load 67 (.t 66) 1 false),
 mv 8 67]
def r10_11:IC:=(.reg o10_11 [1,2,3,5,6,7,8])
def o10_12:List IOp:=[q (.val 68 (.faddr 1) [.t 3]),
 ⟨none,.loadL 69 (.t 68) 1 false,[0],none⟩,
 mv 70 7,
 q (.val 71 (.iaddr 4 1) [.t 6,ki 1]),
 ⟨none,.loadL 72 (.t 71) 1 false,[3],none⟩,
 ⟨none,.val 73 (.bin .rem) [.t 72,.k (.p (.int .u8 4))],[3,4],none⟩,
 ⟨none,.val 74 (.conv .i64) [.t 73],[3,4,5],none⟩,
 q (.val 75 (.iaddr 4 1) [.t 6,ki 2]),
 ⟨none,.loadL 76 (.t 75) 1 false,[7],none⟩,
 ⟨none,.val 77 (.conv .i64) [.t 76],[7,8],none⟩,
 mv 78 8,
 ⟨none,.val 79 (.bin .rem) [.t 77,.t 78],[7,8,9,10],none⟩,
 q (.val 80 (.iaddr 4 1) [.t 6,ki 3]),
 ⟨none,.loadL 81 (.t 80) 1 false,[12],none⟩,
 ⟨none,.val 82 (.conv .i64) [.t 81],[12,13],none⟩,
 mv 83 8,
 ⟨none,.val 84 (.bin .rem) [.t 82,.t 83],[12,13,14,15],none⟩,
 ⟨none,.val 85 (.bin .rem) [.t 84,ki 4],[12,13,14,15,16],none⟩,
 mv 86 8,
 ⟨none,.val 87 (.bin .rem) [.t 85,.t 86],[12,13,14,15,16,17,18],none⟩,
 ⟨none,.val 88 (.bin .add) [ki 1,.t 87],[12,13,14,15,16,17,18,19],none⟩,
 ⟨none,.val 89 (.build [.p (.int .i64 0),.p (.int .i64 0),.p (.int .i64 0),.p (.int .i64 0)] [(0,1),(1,1),(2,1),(3,1)]) [.t 70,.t 74,.t 79,.t 88],[2,3,4,5,6,7,8,9,10,11,12,13,14,15,16,17,18,19,20],none⟩,
 ⟨none,.litP 90 4 [.t 89],[2,3,4,5,6,7,8,9,10,11,12,13,14,15,16,17,18,19,20,21],none⟩,
 ⟨none,.app 91 (.t 69) (.t 90) 4 32,[0,1,2,3,4,5,6,7,8,9,10,11,12,13,14,15,16,17,18,19,20,21,22],none⟩,
 ⟨none,.val 92 (.faddr 1) [.t 3],[0,1,2,3,4,5,6,7,8,9,10,11,12,13,14,15,16,17,18,19,20,21,22,23],none⟩,
 ⟨none,.store (.t 92) (.t 91) 1,[0,1,2,3,4,5,6,7,8,9,10,11,12,13,14,15,16,17,18,19,20,21,22,23,24],none⟩]
def r10_12:IC:=(.regD o10_12 [1,2,3,5])
def o10_8:List IOp:=[mv 49 5,
 q (.val 50 (.bin .add) [.t 49,ki 1]),
 mv 5 50]
def r10_8:IC:=(.reg o10_8 [1,2,3,5])
def l10_2:IC:=(.seq (.seq r10_7 (.cond (.t 48) .skip (.kp [2,3] (.exit 2)))) (.kp [1,2,3,5] (.seq (.block 3 (.seq r10_9 (.seq r10_10 (.seq r10_11 r10_12)))) r10_8)))
def o10_13:List IOp:=[q (.load 93 (.t 3) 2 true),
 q (.store (.t 2) (.t 93) 2)]
def r10_13:IC:=(.reg o10_13 [2])
def b10:IC:=(.seq r10_0 (.seq r10_1 (.seq (.seq r10_2 (.block 0 (.loop l10_1))) (.seq (.seq r10_6 (.block 2 (.loop l10_2))) (.seq r10_13 .ret)))))
def i10:IFn:=⟨1,94,b10,[.cell 2 2 true]⟩
def o11_0:List IOp:=[q (.boxL 5 (.t 0)),
 q (.val 10 .mov [.k (.p (.bool false))]),
 q (.val 11 .mov [ki 0])]
def r11_0:IC:=(.reg o11_0 [1,2,3,4,5])
def o11_1:List IOp:=[q (.load 13 (.t 5) 2 true),
 q (.call (some 14) 18 [.t 13]),
 mv 12 14]
def r11_1:IC:=(.reg o11_1 [1,2,3,4,5,12])
def o11_2:List IOp:=[mv 15 12,
 q (.val 16 (.bin .neq) [.t 15,ki 0])]
def r11_2:IC:=(.reg o11_2 [1,2,3,4,5,12,16])
def o11_3:List IOp:=[mv 17 12,
 q (.val 10 .mov [.k (.p (.bool false))]),
 mv 11 17]
def r11_3:IC:=(.reg o11_3 [10,11])
def o11_4:List IOp:=[mv 18 1,
 q (.val 19 (.bin .lss) [.t 18,ki 0]),
 mv 20 19,
 ⟨(some (20,false)),.val 21 .mov [.t 1],[],none⟩,
 ⟨(some (20,false)),.val 22 (.faddr 0) [.t 5],[],none⟩,
 ⟨(some (20,false)),.load 23 (.t 22) 1 false,[],none⟩,
 ⟨(some (20,false)),.val 24 .len [.t 23],[],none⟩,
 ⟨(some (20,false)),.val 25 (.bin .geq) [.t 21,.t 24],[],none⟩,
 q (.val 26 .pick [.t 20,.k (.p (.bool true)),.t 25]),
 mv 27 26,
 ⟨(some (27,false)),.val 28 .mov [.t 3],[],none⟩,
 ⟨(some (27,false)),.val 29 (.bin .lss) [.t 28,ki 0],[],none⟩,
 q (.val 30 .pick [.t 27,.k (.p (.bool true)),.t 29]),
 mv 31 30,
 ⟨(some (31,false)),.val 32 .mov [.t 3],[],none⟩,
 ⟨(some (31,false)),.val 33 (.faddr 0) [.t 5],[],none⟩,
 ⟨(some (31,false)),.load 34 (.t 33) 1 false,[],none⟩,
 ⟨(some (31,false)),.val 35 .len [.t 34],[],none⟩,
 ⟨(some (31,false)),.val 36 (.bin .geq) [.t 32,.t 35],[],none⟩,
 q (.val 37 .pick [.t 31,.k (.p (.bool true)),.t 36])]
def r11_4:IC:=(.reg o11_4 [1,2,3,4,5,37])
def o11_5:List IOp:=[q (.val 10 .mov [.k (.p (.bool false))]),
 q (.val 11 .mov [ki 2])]
def r11_5:IC:=(.reg o11_5 [10,11])
def o11_6:List IOp:=[q (.load 38 (.t 5) 2 true),
 mv 39 1,
 mv 40 2,
 q (.call (some 41) 28 [.t 38,.t 39,.t 40]),
 q (.val 42 .not [.t 41]),
 mv 43 42,
 ⟨(some (43,false)),.load 44 (.t 5) 2 true,[],none⟩,
 ⟨(some (43,false)),.val 45 .mov [.t 3],[],none⟩,
 ⟨(some (43,false)),.val 46 .mov [.t 4],[],none⟩,
 ⟨(some (43,false)),.call (some 47) 28 [.t 44,.t 45,.t 46],[],none⟩,
 ⟨(some (43,false)),.val 48 .not [.t 47],[],none⟩,
 q (.val 49 .pick [.t 43,.k (.p (.bool true)),.t 48]),
 mv 50 49,
 ⟨(some (50,false)),.val 51 .mov [.t 1],[],none⟩,
 ⟨(some (50,false)),.val 52 .mov [.t 3],[],none⟩,
 ⟨(some (50,false)),.val 53 (.bin .eql) [.t 51,.t 52],[],none⟩,
 ⟨(some (50,false)),.val 54 .mov [.t 53],[],none⟩,
 ⟨(some (54,true)),.val 55 .mov [.t 2],[],none⟩,
 ⟨(some (54,true)),.val 56 .mov [.t 4],[],none⟩,
 ⟨(some (54,true)),.val 57 (.bin .neq) [.t 55,.t 56],[],none⟩,
 ⟨(some (50,false)),.val 58 .pick [.t 54,.t 57,.k (.p (.bool false))],[],none⟩,
 q (.val 59 .pick [.t 50,.k (.p (.bool true)),.t 58])]
def r11_6:IC:=(.reg o11_6 [1,2,3,4,5,59])
def o11_7:List IOp:=[q (.val 10 .mov [.k (.p (.bool false))]),
 q (.val 11 .mov [ki 2])]
def r11_7:IC:=(.reg o11_7 [10,11])
def o11_8:List IOp:=[q (.load 60 (.t 5) 2 true),
 mv 61 1,
 mv 62 2,
 mv 63 3,
 mv 64 4,
 q (.call (some 65) 29 [.t 60,.t 61,.t 62,.t 63,.t 64]),
 mv 10 65,
 q (.val 11 .mov [ki 0])]
def r11_8:IC:=(.reg o11_8 [10,11])
def b11:IC:=(.seq r11_0 (.seq (.seq r11_1 (.seq r11_2 (.cond (.t 16) (.seq r11_3 .ret) .skip))) (.kp [1,2,3,4,5] (.seq (.seq r11_4 (.cond (.t 37) (.seq r11_5 .ret) .skip)) (.kp [1,2,3,4,5] (.seq (.seq r11_6 (.cond (.t 59) (.seq r11_7 .ret) .skip)) (.kp [1,2,3,4,5] (.seq r11_8 .ret))))))))
def i11:IFn:=⟨5,66,b11,[.tmp 10,.tmp 11]⟩
def o13_0:List IOp:=[q (.boxL 2 (.t 0)),
 q (.val 4 .mov [.k (.p (.bool false))]),
 q (.val 5 .mov [ki 0])]
def r13_0:IC:=(.reg o13_0 [1,2])
def o13_1:List IOp:=[q (.load 13 (.t 2) 2 true),
 q (.call (some 14) 18 [.t 13]),
 mv 6 14]
def r13_1:IC:=(.reg o13_1 [1,2,6])
def o13_2:List IOp:=[mv 15 6,
 q (.val 16 (.bin .neq) [.t 15,ki 0])]
def r13_2:IC:=(.reg o13_2 [1,2,6,16])
def o13_3:List IOp:=[mv 17 6,
 q (.val 4 .mov [.k (.p (.bool false))]),
 mv 5 17]
def r13_3:IC:=(.reg o13_3 [4,5])
def o13_4:List IOp:=[mv 18 1,
 q (.val 19 .len [.t 18]),
 q (.val 20 (.faddr 0) [.t 2]),
 q (.load 21 (.t 20) 1 false),
 q (.val 22 .len [.t 21]),
 q (.val 23 (.bin .neq) [.t 19,.t 22])]
def r13_4:IC:=(.reg o13_4 [1,2,23])
def o13_5:List IOp:=[q (.val 4 .mov [.k (.p (.bool false))]),
 q (.val 5 .mov [ki 2])]
def r13_5:IC:=(.reg o13_5 [4,5])
def o13_6:List IOp:=[mv 24 1,
 q (.val 25 .len [.t 24]),
 q (.val 26 .mov [ki 0])]
def r13_6:IC:=(.reg o13_6 [1,2,24,25,26])
def o13_7:List IOp:=[q (.val 27 (.bin .lss) [.t 26,.t 25])]
def r13_7:IC:=(.reg o13_7 [1,2,24,25,26,27])
def o13_8:List IOp:=[mv 28 26,
 q (.val 29 (.iaddrS 1) [.t 24,.t 26]),
 q (.load 30 (.t 29) 1 false),
 mv 7 28,
 mv 8 30]
def r13_8:IC:=(.reg o13_8 [1,2,7,8,24,25,26])
def o13_9:List IOp:=[q (.load 31 (.t 2) 2 true),
 mv 32 7,
 mv 33 8,
 q (.call (some 34) 28 [.t 31,.t 32,.t 33]),
 q (.val 35 .not [.t 34])]
def r13_9:IC:=(.reg o13_9 [1,2,24,25,26,35])
def o13_10:List IOp:=[q (.val 4 .mov [.k (.p (.bool false))]),
 q (.val 5 .mov [ki 2])]
def r13_10:IC:=(.reg o13_10 [4,5])
def o13_11:List IOp:=[q (.val 36 (.bin .add) [.t 26,ki 1]),
 mv 26 36]
def r13_11:IC:=(.reg o13_11 [1,2,24,25,26])
def l13_1:IC:=(.seq r13_7 (.seq (.cond (.t 27) .skip (.kp [1,2] (.exit 0))) (.kp [1,2,24,25,26] (.seq (.block 1 (.seq r13_8 (.seq r13_9 (.cond (.t 35) (.seq r13_10 .ret) .skip)))) (.kp [1,2,24,25,26] r13_11)))))
def o13_12:List IOp:=[mv 37 1,
 q (.val 38 .len [.t 37]),
 q (.val 39 .mov [ki 0])]
def r13_12:IC:=(.reg o13_12 [1,2,37,38,39])
def o13_13:List IOp:=[q (.val 40 (.bin .lss) [.t 39,.t 38])]
def r13_13:IC:=(.reg o13_13 [1,2,37,38,39,40])
def o13_14:List IOp:=[mv 41 39,
 q (.val 42 (.iaddrS 1) [.t 37,.t 39]),
 q (.load 43 (.t 42) 1 false),
 mv 9 41,
 mv 10 43]
def r13_14:IC:=(.reg o13_14 [1,2,9,10,37,38,39])
def o13_15:List IOp:=[mv 44 1,
 mv 45 9,
 q (.val 46 (.bin .add) [.t 45,ki 1]),
 q (.val 47 (.slice 1 false true false) [.t 44,.t 46]),
 q (.val 48 .len [.t 47]),
 q (.val 49 .mov [ki 0])]
def r13_15:IC:=(.reg o13_15 [1,2,9,10,37,38,39,47,48,49])
def o13_16:List IOp:=[q (.val 50 (.bin .lss) [.t 49,.t 48])]
def r13_16:IC:=(.reg o13_16 [1,2,9,10,37,38,39,47,48,49,50])
def o13_17:List IOp:=[mv 51 49,
 q (.val 52 (.iaddrS 1) [.t 47,.t 49]),
 q (.load 53 (.t 52) 1 false),
 mv 11 51,
 mv 12 53]
def r13_17:IC:=(.reg o13_17 [1,2,9,10,11,12,37,38,39,47,48,49])
def o13_18:List IOp:=[q (.load 54 (.t 2) 2 true),
 mv 55 11,
 mv 56 12,
 mv 57 9,
 mv 58 10,
 q (.call (some 59) 29 [.t 54,.t 55,.t 56,.t 57,.t 58])]
def r13_18:IC:=(.reg o13_18 [1,2,9,10,37,38,39,47,48,49,59])
def o13_19:List IOp:=[q (.val 4 .mov [.k (.p (.bool false))]),
 q (.val 5 .mov [ki 0])]
def r13_19:IC:=(.reg o13_19 [4,5])
def o13_20:List IOp:=[q (.val 60 (.bin .add) [.t 49,ki 1]),
 mv 49 60]
def r13_20:IC:=(.reg o13_20 [1,2,9,10,37,38,39,47,48,49])
def l13_3:IC:=(.seq r13_16 (.seq (.cond (.t 50) .skip (.kp [1,2,37,38,39] (.exit 4))) (.kp [1,2,9,10,37,38,39,47,48,49] (.seq (.block 5 (.seq r13_17 (.seq r13_18 (.cond (.t 59) (.seq r13_19 .ret) .skip)))) (.kp [1,2,9,10,37,38,39,47,48,49] r13_20)))))
def o13_21:List IOp:=[q (.val 61 (.bin .add) [.t 39,ki 1]),
 mv 39 61]
def r13_21:IC:=(.reg o13_21 [1,2,37,38,39])
def l13_2:IC:=(.seq r13_13 (.seq (.cond (.t 40) .skip (.kp [] (.exit 2))) (.kp [1,2,37,38,39] (.seq (.block 3 (.seq r13_14 (.seq r13_15 (.block 4 (.loop l13_3))))) r13_21))))
def o13_22:List IOp:=[q (.val 4 .mov [.k (.p (.bool true))]),
 q (.val 5 .mov [ki 0])]
def r13_22:IC:=(.reg o13_22 [4,5])
def b13:IC:=(.seq r13_0 (.seq (.seq r13_1 (.seq r13_2 (.cond (.t 16) (.seq r13_3 .ret) .skip))) (.kp [1,2] (.seq (.seq r13_4 (.cond (.t 23) (.seq r13_5 .ret) .skip)) (.kp [1,2] (.seq (.seq r13_6 (.block 0 (.loop l13_1))) (.seq (.seq r13_12 (.block 2 (.loop l13_2))) (.seq r13_22 .ret))))))))
def i13:IFn:=⟨2,62,b13,[.tmp 4,.tmp 5]⟩
def o15_0:List IOp:=[q (.val 0 .mov [.k (.p (.bool false))])]
def r15_0:IC:=(.reg o15_0 [])
def o15_1:List IOp:=[q (.call (some 20) 26 [ki 1,ki 20,ki 10000]),
 q (.litP 21 10 [.t 20]),
 q (.call (some 22) 25 [.t 21]),
 mv 19 22,
 q (.val 23 (.ext 0) [.t 19]),
 q (.val 24 (.ext 1) [.t 19]),
 q (.newL 1 [.p (.sl 1 true []),.p (.sl 4 true [])]),
 q (.store (.t 1) (.t 23) 2),
 mv 2 24]
def r15_1:IC:=(.reg o15_1 [1,2])
def o15_2:List IOp:=[q (.call (some 26) 26 [ki 1,ki 8,ki 10000]),
 q (.litP 27 10 [.t 26]),
 q (.call (some 28) 25 [.t 27]),
 mv 25 28,
 q (.val 29 (.ext 0) [.t 25]),
 q (.val 30 (.ext 1) [.t 25]),
 q (.newL 3 [.p (.sl 1 true []),.p (.sl 4 true [])]),
 q (.store (.t 3) (.t 29) 2),
 mv 4 30]
def r15_2:IC:=(.reg o15_2 [1,2,4])
def o15_3:List IOp:=[q (.call (some 32) 26 [ki 1,ki 20,ki 1718]),
 q (.litP 33 10 [.t 32]),
 q (.call (some 34) 25 [.t 33]),
 mv 31 34,
 q (.val 35 (.ext 0) [.t 31]),
 q (.val 36 (.ext 1) [.t 31]),
 q (.newL 5 [.p (.sl 1 true []),.p (.sl 4 true [])]),
 q (.store (.t 5) (.t 35) 2),
 mv 6 36]
def r15_3:IC:=(.reg o15_3 [1,2,4,6])
def o15_4:List IOp:=[q (.call (some 38) 26 [ki 1,ki 20,ki 10000]),
 q (.call (some 39) 26 [ki 2,ki 30,ki 10000]),
 q (.litP 40 10 [.t 38,.t 39]),
 q (.call (some 41) 25 [.t 40]),
 mv 37 41,
 q (.val 42 (.ext 0) [.t 37]),
 q (.val 43 (.ext 1) [.t 37]),
 q (.newL 7 [.p (.sl 1 true []),.p (.sl 4 true [])]),
 q (.store (.t 7) (.t 42) 2),
 mv 8 43]
def r15_4:IC:=(.reg o15_4 [1,2,4,6,7,8])
def o15_5:List IOp:=[q (.call (some 45) 26 [ki 1,ki 40,ki 10000]),
 q (.call (some 46) 26 [ki 2,ki 40,ki 10000]),
 q (.litP 47 10 [.t 45,.t 46]),
 q (.call (some 48) 25 [.t 47]),
 mv 44 48,
 q (.val 49 (.ext 0) [.t 44]),
 q (.val 50 (.ext 1) [.t 44]),
 q (.newL 9 [.p (.sl 1 true []),.p (.sl 4 true [])]),
 q (.store (.t 9) (.t 49) 2),
 mv 10 50]
def r15_5:IC:=(.reg o15_5 [1,2,4,6,7,8,9,10])
def o15_6:List IOp:=[q (.call (some 52) 25 [.k (.p (.sl 10 true []))]),
 mv 51 52,
 q (.val 53 (.ext 0) [.t 51]),
 q (.val 54 (.ext 1) [.t 51]),
 q (.newL 11 [.p (.sl 1 true []),.p (.sl 4 true [])]),
 q (.store (.t 11) (.t 53) 2),
 mv 12 54]
def r15_6:IC:=(.reg o15_6 [1,2,4,6,7,8,9,10,11,12])
def o15_7:List IOp:=[q (.load 56 (.t 7) 2 true),
 q (.call (some 57) 16 [.t 56]),
 mv 55 57,
 q (.val 58 (.ext 0) [.t 55]),
 q (.val 59 (.ext 1) [.t 55]),
 mv 13 58,
 mv 14 59]
def r15_7:IC:=(.reg o15_7 [1,2,4,6,7,8,9,10,11,12,13,14])
def o15_8:List IOp:=[q (.load 61 (.t 11) 2 true),
 q (.call (some 62) 16 [.t 61]),
 mv 60 62,
 q (.val 63 (.ext 0) [.t 60]),
 q (.val 64 (.ext 1) [.t 60]),
 mv 15 63,
 mv 16 64]
def r15_8:IC:=(.reg o15_8 [1,2,4,6,7,8,9,10,12,13,14,15,16])
def o15_9:List IOp:=[q (.litP 65 1 [ki 20]),
 q (.val 66 (.build [.p (.int .i64 0),.p (.int .i64 0),.p (.int .i64 0),.p (.int .i64 0)] [(1,1),(2,1),(3,1)]) [ki 0,ki 0,ki 8]),
 q (.val 67 (.build [.p (.int .i64 0),.p (.int .i64 0),.p (.int .i64 0),.p (.int .i64 0)] [(1,1),(2,1),(3,1)]) [ki 2,ki 8,ki 9]),
 q (.litP 68 4 [.t 66,.t 67]),
 q (.val 69 (.build [.p (.sl 1 true []),.p (.sl 4 true [])] [(0,1),(1,1)]) [.t 65,.t 68]),
 q (.newL 17 [.p (.sl 1 true []),.p (.sl 4 true [])]),
 q (.store (.t 17) (.t 69) 2)]
def r15_9:IC:=(.reg o15_9 [1,2,4,6,7,8,9,10,12,13,14,15,16,17])
def o15_10:List IOp:=[mv 70 2,
 q (.val 71 (.bin .neq) [.t 70,ki 0]),
 mv 72 71,
 ⟨(some (72,false)),.val 73 .mov [.t 8],[],none⟩,
 ⟨(some (72,false)),.val 74 (.bin .neq) [.t 73,ki 0],[],none⟩,
 q (.val 75 .pick [.t 72,.k (.p (.bool true)),.t 74]),
 mv 76 75,
 ⟨(some (76,false)),.val 77 .mov [.t 10],[],none⟩,
 ⟨(some (76,false)),.val 78 (.bin .neq) [.t 77,ki 0],[],none⟩,
 q (.val 79 .pick [.t 76,.k (.p (.bool true)),.t 78]),
 mv 80 79,
 ⟨(some (80,false)),.val 81 .mov [.t 12],[],none⟩,
 ⟨(some (80,false)),.val 82 (.bin .neq) [.t 81,ki 0],[],none⟩,
 q (.val 83 .pick [.t 80,.k (.p (.bool true)),.t 82]),
 mv 84 83,
 ⟨(some (84,false)),.val 85 .mov [.t 14],[],none⟩,
 ⟨(some (84,false)),.val 86 (.bin .neq) [.t 85,ki 0],[],none⟩,
 q (.val 87 .pick [.t 84,.k (.p (.bool true)),.t 86]),
 mv 88 87,
 ⟨(some (88,false)),.val 89 .mov [.t 16],[],none⟩,
 ⟨(some (88,false)),.val 90 (.bin .neq) [.t 89,ki 0],[],none⟩,
 q (.val 91 .pick [.t 88,.k (.p (.bool true)),.t 90]),
 mv 92 91,
 ⟨(some (92,false)),.load 93 (.t 1) 2 true,[],none⟩,
 ⟨(some (92,false)),.load 94 (.t 17) 2 true,[],none⟩,
 ⟨(some (92,false)),.call (some 95) 35 [.t 93,.t 94],[],none⟩,
 ⟨(some (92,false)),.val 96 .not [.t 95],[],none⟩,
 q (.val 97 .pick [.t 92,.k (.p (.bool true)),.t 96])]
def r15_10:IC:=(.reg o15_10 [4,6,7,9,13,15,97])
def o15_11:List IOp:=[q (.val 0 .mov [.k (.p (.bool false))])]
def r15_11:IC:=(.reg o15_11 [0])
def o15_12:List IOp:=[q (.load 98 (.t 7) 2 true),
 q (.call (some 99) 36 [.t 98,ki 0,ki 8]),
 mv 100 99,
 ⟨(some (100,true)),.load 101 (.t 7) 2 true,[],none⟩,
 ⟨(some (100,true)),.call (some 102) 36 [.t 101,ki 0,ki 9],[],none⟩,
 q (.val 103 .pick [.t 100,.t 102,.k (.p (.bool false))]),
 mv 104 103,
 ⟨(some (104,true)),.load 105 (.t 7) 2 true,[],none⟩,
 ⟨(some (104,true)),.call (some 106) 36 [.t 105,ki 0,ki 10],[],none⟩,
 q (.val 107 .pick [.t 104,.t 106,.k (.p (.bool false))]),
 mv 108 107,
 ⟨(some (108,true)),.load 109 (.t 7) 2 true,[],none⟩,
 ⟨(some (108,true)),.call (some 110) 36 [.t 109,ki 0,ki 2],[],none⟩,
 q (.val 111 .pick [.t 108,.t 110,.k (.p (.bool false))]),
 mv 18 111]
def r15_12:IC:=(.reg o15_12 [4,6,9,13,15,18])
def o15_13:List IOp:=[mv 112 4,
 q (.val 113 (.bin .eql) [.t 112,ki 341]),
 mv 114 113,
 ⟨(some (114,true)),.val 115 .mov [.t 6],[],none⟩,
 ⟨(some (114,true)),.val 116 (.bin .eql) [.t 115,ki 342],[],none⟩,
 q (.val 117 .pick [.t 114,.t 116,.k (.p (.bool false))]),
 mv 118 117,
 ⟨(some (118,true)),.val 119 .mov [.t 18],[],none⟩,
 q (.val 120 .pick [.t 118,.t 119,.k (.p (.bool false))]),
 mv 121 120,
 ⟨(some (121,true)),.load 122 (.t 9) 2 true,[],none⟩,
 ⟨(some (121,true)),.litP 123 1 [ki 0,ki 9],[],none⟩,
 ⟨(some (121,true)),.call (some 124) 27 [.t 122,.t 123],[],none⟩,
 q (.val 125 .pick [.t 121,.t 124,.k (.p (.bool false))]),
 mv 126 125,
 ⟨(some (126,true)),.load 127 (.t 9) 2 true,[],none⟩,
 ⟨(some (126,true)),.litP 128 1 [ki 0,ki 8],[],none⟩,
 ⟨(some (126,true)),.call (some 129) 27 [.t 127,.t 128],[],none⟩,
 ⟨(some (126,true)),.val 130 .not [.t 129],[],none⟩,
 q (.val 131 .pick [.t 126,.t 130,.k (.p (.bool false))]),
 mv 132 131,
 ⟨(some (132,true)),.load 133 (.t 9) 2 true,[],none⟩,
 ⟨(some (132,true)),.litP 134 1 [ki 35,ki 4],[],none⟩,
 ⟨(some (132,true)),.call (some 135) 27 [.t 133,.t 134],[],none⟩,
 q (.val 136 .pick [.t 132,.t 135,.k (.p (.bool false))]),
 mv 137 136,
 ⟨(some (137,true)),.val 138 .mov [.t 13],[],none⟩,
 ⟨(some (137,true)),.val 139 (.bin .eql) [.t 138,ki 60],[],none⟩,
 q (.val 140 .pick [.t 137,.t 139,.k (.p (.bool false))]),
 mv 141 140,
 ⟨(some (141,true)),.val 142 .mov [.t 15],[],none⟩,
 ⟨(some (141,true)),.val 143 (.bin .eql) [.t 142,ki 1],[],none⟩,
 q (.val 144 .pick [.t 141,.t 143,.k (.p (.bool false))]),
 mv 0 144]
def r15_13:IC:=(.reg o15_13 [0])
def b15:IC:=(.seq r15_0 (.seq r15_1 (.seq r15_2 (.seq r15_3 (.seq r15_4 (.seq r15_5 (.seq r15_6 (.seq r15_7 (.seq r15_8 (.seq r15_9 (.seq (.seq r15_10 (.cond (.t 97) (.seq r15_11 .ret) .skip)) (.kp [4,6,7,9,13,15] (.seq r15_12 (.seq r15_13 .ret))))))))))))))
def i15:IFn:=⟨0,145,b15,[.tmp 0]⟩
def o16_0:List IOp:=[q (.boxL 1 (.t 0)),
 q (.val 2 .mov [ki 0]),
 q (.val 3 .mov [ki 0])]
def r16_0:IC:=(.reg o16_0 [1])
def o16_1:List IOp:=[q (.load 5 (.t 1) 2 true),
 q (.call (some 6) 18 [.t 5]),
 mv 4 6]
def r16_1:IC:=(.reg o16_1 [1,4])
def o16_2:List IOp:=[mv 7 4,
 q (.val 8 (.bin .neq) [.t 7,ki 0])]
def r16_2:IC:=(.reg o16_2 [1,4,8])
def o16_3:List IOp:=[mv 9 4,
 q (.val 2 .mov [ki 0]),
 mv 3 9]
def r16_3:IC:=(.reg o16_3 [2,3])
def o16_4:List IOp:=[q (.val 10 (.faddr 0) [.t 1]),
 q (.load 11 (.t 10) 1 false),
 q (.call (some 12) 37 [.t 11]),
 q (.val 13 (.ext 0) [.t 12]),
 q (.val 14 (.ext 1) [.t 12]),
 mv 2 13,
 mv 3 14]
def r16_4:IC:=(.reg o16_4 [2,3])
def b16:IC:=(.seq r16_0 (.seq (.seq r16_1 (.seq r16_2 (.cond (.t 8) (.seq r16_3 .ret) .skip))) (.kp [1] (.seq r16_4 .ret))))
def i16:IFn:=⟨1,15,b16,[.tmp 2,.tmp 3]⟩
def o17_0:List IOp:=[q (.boxL 1 (.t 0)),
 q (.val 2 .mov [ki 0]),
 q (.val 3 .mov [ki 0])]
def r17_0:IC:=(.reg o17_0 [1])
def o17_1:List IOp:=[q (.load 4 (.t 1) 2 true),
 q (.call (some 5) 30 [.t 4]),
 q (.val 6 .not [.t 5])]
def r17_1:IC:=(.reg o17_1 [1,6])
def o17_2:List IOp:=[q (.val 2 .mov [ki 0]),
 q (.val 3 .mov [ki 340])]
def r17_2:IC:=(.reg o17_2 [2,3])
def o17_3:List IOp:=[q (.val 7 (.faddr 0) [.t 1]),
 q (.load 8 (.t 7) 1 false),
 q (.call (some 9) 38 [.t 8]),
 mv 2 9,
 q (.val 3 .mov [ki 0])]
def r17_3:IC:=(.reg o17_3 [2,3])
def b17:IC:=(.seq r17_0 (.seq (.seq r17_1 (.cond (.t 6) (.seq r17_2 .ret) .skip)) (.kp [1] (.seq r17_3 .ret))))
def i17:IFn:=⟨1,10,b17,[.tmp 2,.tmp 3]⟩
def o18_0:List IOp:=[q (.boxL 1 (.t 0)),
 q (.val 2 .mov [ki 0])]
def r18_0:IC:=(.reg o18_0 [1])
def o18_1:List IOp:=[q (.val 10 (.faddr 0) [.t 1]),
 q (.load 11 (.t 10) 1 false),
 q (.val 12 .len [.t 11]),
 q (.val 13 (.bin .gtr) [.t 12,ki 12]),
 mv 14 13,
 ⟨(some (14,false)),.val 15 (.faddr 1) [.t 1],[],none⟩,
 ⟨(some (14,false)),.load 16 (.t 15) 1 false,[],none⟩,
 ⟨(some (14,false)),.val 17 .len [.t 16],[],none⟩,
 ⟨(some (14,false)),.val 18 (.bin .gtr) [.t 17,ki 192],[],none⟩,
 q (.val 19 .pick [.t 14,.k (.p (.bool true)),.t 18])]
def r18_1:IC:=(.reg o18_1 [1,19])
def o18_2:List IOp:=[q (.val 2 .mov [ki 340])]
def r18_2:IC:=(.reg o18_2 [2])
def o18_3:List IOp:=[q (.val 20 (.faddr 0) [.t 1]),
 q (.load 21 (.t 20) 1 false),
 q (.val 22 .len [.t 21]),
 q (.val 23 .mov [ki 0])]
def r18_3:IC:=(.reg o18_3 [1,21,22,23])
def o18_4:List IOp:=[q (.val 24 (.bin .lss) [.t 23,.t 22])]
def r18_4:IC:=(.reg o18_4 [1,21,22,23,24])
def o18_5:List IOp:=[q (.val 25 (.iaddrS 1) [.t 21,.t 23]),
 q (.load 26 (.t 25) 1 false),
 mv 4 26]
def r18_5:IC:=(.reg o18_5 [1,4,21,22,23])
def o18_6:List IOp:=[mv 27 4,
 q (.val 28 (.bin .lss) [.t 27,ki 1]),
 mv 29 28,
 ⟨(some (29,false)),.val 30 .mov [.t 4],[],none⟩,
 ⟨(some (29,false)),.val 31 (.bin .gtr) [.t 30,ki 240],[],none⟩,
 q (.val 32 .pick [.t 29,.k (.p (.bool true)),.t 31])]
def r18_6:IC:=(.reg o18_6 [1,21,22,23,32])
def o18_7:List IOp:=[q (.val 2 .mov [ki 340])]
def r18_7:IC:=(.reg o18_7 [2])
def o18_8:List IOp:=[q (.val 33 (.bin .add) [.t 23,ki 1]),
 mv 23 33]
def r18_8:IC:=(.reg o18_8 [1,21,22,23])
def l18_1:IC:=(.seq r18_4 (.seq (.cond (.t 24) .skip (.kp [1] (.exit 0))) (.kp [1,21,22,23] (.seq (.block 1 (.seq r18_5 (.seq r18_6 (.cond (.t 32) (.seq r18_7 .ret) .skip)))) (.kp [1,21,22,23] r18_8)))))
def o18_9:List IOp:=[q (.val 35 (.faddr 0) [.t 1]),
 q (.load 36 (.t 35) 1 false),
 q (.call (some 37) 37 [.t 36]),
 mv 34 37,
 q (.val 38 (.ext 0) [.t 34]),
 q (.val 39 (.ext 1) [.t 34]),
 mv 5 38,
 mv 6 39]
def r18_9:IC:=(.reg o18_9 [1,6])
def o18_10:List IOp:=[mv 40 6,
 q (.val 41 (.bin .neq) [.t 40,ki 0])]
def r18_10:IC:=(.reg o18_10 [1,41])
def o18_11:List IOp:=[q (.val 2 .mov [ki 340])]
def r18_11:IC:=(.reg o18_11 [2])
def o18_12:List IOp:=[q (.val 42 (.faddr 1) [.t 1]),
 q (.load 43 (.t 42) 1 false),
 q (.val 44 .len [.t 43]),
 q (.val 45 .mov [ki 0])]
def r18_12:IC:=(.reg o18_12 [1,43,44,45])
def o18_13:List IOp:=[q (.val 46 (.bin .lss) [.t 45,.t 44])]
def r18_13:IC:=(.reg o18_13 [1,43,44,45,46])
def o18_14:List IOp:=[q (.val 47 (.iaddrS 4) [.t 43,.t 45]),
 q (.load 48 (.t 47) 4 true),
 q (.newL 8 [.p (.int .i64 0),.p (.int .i64 0),.p (.int .i64 0),.p (.int .i64 0)]),
 q (.store (.t 8) (.t 48) 4)]
def r18_14:IC:=(.reg o18_14 [1,8,43,44,45])
def o18_15:List IOp:=[q (.val 49 (.faddr 0) [.t 8]),
 q (.load 50 (.t 49) 1 false),
 q (.val 51 (.bin .lss) [.t 50,ki 0]),
 mv 52 51,
 ⟨(some (52,false)),.val 53 (.faddr 0) [.t 8],[],none⟩,
 ⟨(some (52,false)),.load 54 (.t 53) 1 false,[],none⟩,
 ⟨(some (52,false)),.val 55 (.faddr 0) [.t 1],[],none⟩,
 ⟨(some (52,false)),.load 56 (.t 55) 1 false,[],none⟩,
 ⟨(some (52,false)),.val 57 .len [.t 56],[],none⟩,
 ⟨(some (52,false)),.val 58 (.bin .geq) [.t 54,.t 57],[],none⟩,
 q (.val 59 .pick [.t 52,.k (.p (.bool true)),.t 58]),
 mv 60 59,
 ⟨(some (60,false)),.val 61 (.faddr 1) [.t 8],[],none⟩,
 ⟨(some (60,false)),.load 62 (.t 61) 1 false,[],none⟩,
 ⟨(some (60,false)),.val 63 (.bin .lss) [.t 62,ki 0],[],none⟩,
 q (.val 64 .pick [.t 60,.k (.p (.bool true)),.t 63]),
 mv 65 64,
 ⟨(some (65,false)),.val 66 (.faddr 1) [.t 8],[],none⟩,
 ⟨(some (65,false)),.load 67 (.t 66) 1 false,[],none⟩,
 ⟨(some (65,false)),.val 68 (.bin .geq) [.t 67,ki 48],[],none⟩,
 q (.val 69 .pick [.t 65,.k (.p (.bool true)),.t 68])]
def r18_15:IC:=(.reg o18_15 [1,8,43,44,45,69])
def o18_16:List IOp:=[q (.val 2 .mov [ki 340])]
def r18_16:IC:=(.reg o18_16 [2])
def o18_17:List IOp:=[q (.val 70 (.faddr 0) [.t 1]),
 q (.load 71 (.t 70) 1 false),
 q (.val 72 (.faddr 0) [.t 8]),
 q (.load 73 (.t 72) 1 false),
 q (.val 74 (.iaddrS 1) [.t 71,.t 73]),
 q (.load 75 (.t 74) 1 false),
 mv 9 75]
def r18_17:IC:=(.reg o18_17 [1,8,9,43,44,45])
def o18_18:List IOp:=[q (.val 76 (.faddr 2) [.t 8]),
 q (.load 77 (.t 76) 1 false),
 q (.val 78 (.bin .lss) [.t 77,ki 0]),
 mv 79 78,
 ⟨(some (79,false)),.val 80 (.faddr 2) [.t 8],[],none⟩,
 ⟨(some (79,false)),.load 81 (.t 80) 1 false,[],none⟩,
 ⟨(some (79,false)),.val 82 .mov [.t 9],[],none⟩,
 ⟨(some (79,false)),.val 83 (.bin .geq) [.t 81,.t 82],[],none⟩,
 q (.val 84 .pick [.t 79,.k (.p (.bool true)),.t 83]),
 mv 85 84,
 ⟨(some (85,false)),.val 86 (.faddr 3) [.t 8],[],none⟩,
 ⟨(some (85,false)),.load 87 (.t 86) 1 false,[],none⟩,
 ⟨(some (85,false)),.val 88 (.bin .lss) [.t 87,ki 1],[],none⟩,
 q (.val 89 .pick [.t 85,.k (.p (.bool true)),.t 88]),
 mv 90 89,
 ⟨(some (90,false)),.val 91 (.faddr 3) [.t 8],[],none⟩,
 ⟨(some (90,false)),.load 92 (.t 91) 1 false,[],none⟩,
 ⟨(some (90,false)),.val 93 .mov [.t 9],[],none⟩,
 ⟨(some (90,false)),.val 94 (.bin .gtr) [.t 92,.t 93],[],none⟩,
 q (.val 95 .pick [.t 90,.k (.p (.bool true)),.t 94])]
def r18_18:IC:=(.reg o18_18 [1,43,44,45,95])
def o18_19:List IOp:=[q (.val 2 .mov [ki 340])]
def r18_19:IC:=(.reg o18_19 [2])
def o18_20:List IOp:=[q (.val 96 (.bin .add) [.t 45,ki 1]),
 mv 45 96]
def r18_20:IC:=(.reg o18_20 [1,43,44,45])
def l18_2:IC:=(.seq r18_13 (.seq (.cond (.t 46) .skip (.kp [] (.exit 2))) (.kp [1,43,44,45] (.seq (.block 3 (.seq r18_14 (.seq (.seq r18_15 (.cond (.t 69) (.seq r18_16 .ret) .skip)) (.kp [1,8,43,44,45] (.seq r18_17 (.seq r18_18 (.cond (.t 95) (.seq r18_19 .ret) .skip))))))) (.kp [1,43,44,45] r18_20)))))
def o18_21:List IOp:=[q (.val 2 .mov [ki 0])]
def r18_21:IC:=(.reg o18_21 [2])
def b18:IC:=(.seq r18_0 (.seq (.seq r18_1 (.cond (.t 19) (.seq r18_2 .ret) .skip)) (.kp [1] (.seq (.seq r18_3 (.block 0 (.loop l18_1))) (.seq (.seq r18_9 (.seq r18_10 (.cond (.t 41) (.seq r18_11 .ret) .skip))) (.kp [1] (.seq (.seq r18_12 (.block 2 (.loop l18_2))) (.seq r18_21 .ret))))))))
def i18:IFn:=⟨1,97,b18,[.tmp 2]⟩
def o19_0:List IOp:=[q (.boxL 1 (.t 0)),
 q (.val 2 .mov [ki 0])]
def r19_0:IC:=(.reg o19_0 [1])
def o19_1:List IOp:=[q (.load 3 (.t 1) 2 true),
 q (.call (some 4) 30 [.t 3])]
def r19_1:IC:=(.reg o19_1 [4])
def o19_2:List IOp:=[q (.val 2 .mov [ki 0])]
def r19_2:IC:=(.reg o19_2 [2])
def o19_3:List IOp:=[q (.val 2 .mov [ki 340])]
def r19_3:IC:=(.reg o19_3 [2])
def b19:IC:=(.seq r19_0 (.seq (.seq r19_1 (.cond (.t 4) (.seq r19_2 .ret) .skip)) (.kp [] (.seq r19_3 .ret))))
def i19:IFn:=⟨1,5,b19,[.tmp 2]⟩
def o20_0:List IOp:=[q (.boxL 3 (.t 0)),
 q (.newL 6 [.p (.int .i64 0),.p (.int .i64 0),.p (.int .i64 0)]),
 q (.val 7 .mov [ki 0])]
def r20_0:IC:=(.reg o20_0 [1,2,3,6])
def o20_1:List IOp:=[q (.load 9 (.t 3) 2 true),
 q (.call (some 10) 18 [.t 9]),
 mv 8 10]
def r20_1:IC:=(.reg o20_1 [1,2,3,6,8])
def o20_2:List IOp:=[mv 11 8,
 q (.val 12 (.bin .neq) [.t 11,ki 0])]
def r20_2:IC:=(.reg o20_2 [1,2,3,6,8,12])
def o20_3:List IOp:=[q (.val 13 (.build [.p (.int .i64 0),.p (.int .i64 0),.p (.int .i64 0)] []) []),
 mv 14 8,
 q (.store (.t 6) (.t 13) 3),
 mv 7 14]
def r20_3:IC:=(.reg o20_3 [6,7])
def o20_4:List IOp:=[mv 15 1,
 ⟨none,.val 16 (.bin .lss) [.t 15,ki 0],[0],none⟩,
 ⟨none,.val 17 .mov [.t 16],[0,1],none⟩,
 ⟨(some (17,false)),.val 18 .mov [.t 1],[0,1,2],none⟩,
 ⟨(some (17,false)),.val 19 (.faddr 1) [.t 3],[0,1,2],none⟩,
 ⟨(some (17,false)),.loadL 20 (.t 19) 1 false,[0,1,2,4],none⟩,
 ⟨(some (17,false)),.val 21 .len [.t 20],[0,1,2,4,5],none⟩,
 ⟨(some (17,false)),.val 22 (.bin .geq) [.t 18,.t 21],[0,1,2,3,4,5,6],none⟩,
 ⟨none,.val 23 .pick [.t 17,.k (.p (.bool true)),.t 22],[0,1,2,3,4,5,6,7],none⟩,
 ⟨none,.val 24 .mov [.t 23],[0,1,2,3,4,5,6,7,8],none⟩,
 ⟨(some (24,false)),.loadL 25 (.t 3) 2 true,[0,1,2,3,4,5,6,7,8,9],none⟩,
 ⟨(some (24,false)),.val 26 (.faddr 1) [.t 3],[0,1,2,3,4,5,6,7,8,9],none⟩,
 ⟨(some (24,false)),.loadL 27 (.t 26) 1 false,[0,1,2,3,4,5,6,7,8,9,11],none⟩,
 ⟨(some (24,false)),.val 28 .mov [.t 1],[0,1,2,3,4,5,6,7,8,9],none⟩,
 ⟨(some (24,false)),.val 29 (.iaddrS 4) [.t 27,.t 28],[0,1,2,3,4,5,6,7,8,9,11,12,13],none⟩,
 ⟨(some (24,false)),.val 30 (.faddr 0) [.t 29],[0,1,2,3,4,5,6,7,8,9,11,12,13,14],none⟩,
 ⟨(some (24,false)),.loadH 31 (.t 30) 1 false,[0,1,2,3,4,5,6,7,8,9,11,12,13,14,15],none⟩,
 ⟨(some (24,false)),.val 32 .mov [.t 2],[0,1,2,3,4,5,6,7,8,9],none⟩,
 ⟨(some (24,false)),.callP 33 28 [.t 25,.t 31,.t 32],[0,1,2,3,4,5,6,7,8,9,10,11,12,13,14,15,16,17],none⟩,
 ⟨(some (24,false)),.val 34 .not [.t 33],[0,1,2,3,4,5,6,7,8,9,10,11,12,13,14,15,16,17,18],none⟩,
 ⟨none,.val 35 .pick [.t 24,.k (.p (.bool true)),.t 34],[0,1,2,3,4,5,6,7,8,9,10,11,12,13,14,15,16,17,18,19],none⟩]
def r20_4:IC:=(.regD o20_4 [1,2,3,6,35])
def o20_5:List IOp:=[q (.val 36 (.build [.p (.int .i64 0),.p (.int .i64 0),.p (.int .i64 0)] []) []),
 q (.store (.t 6) (.t 36) 3),
 q (.val 7 .mov [ki 2])]
def r20_5:IC:=(.reg o20_5 [6,7])
def o20_6:List IOp:=[q (.loadL 37 (.t 3) 2 true),
 q (.val 38 (.faddr 1) [.t 3]),
 ⟨none,.loadL 39 (.t 38) 1 false,[1],none⟩,
 mv 40 1,
 ⟨none,.val 41 (.iaddrS 4) [.t 39,.t 40],[1,2,3],none⟩,
 ⟨none,.loadH 42 (.t 41) 4 true,[1,2,3,4],none⟩,
 mv 43 2,
 ⟨none,.call (some 44) 39 [.t 37,.t 42,.t 43],[0,1,2,3,4,5,6],none⟩,
 ⟨none,.store (.t 6) (.t 44) 3,[0,1,2,3,4,5,6,7],none⟩,
 ⟨none,.val 7 .mov [ki 0],[0,1,2,3,4,5,6,7,8],none⟩]
def r20_6:IC:=(.regD o20_6 [6,7])
def b20:IC:=(.seq r20_0 (.seq (.seq r20_1 (.seq r20_2 (.cond (.t 12) (.seq r20_3 .ret) .skip))) (.kp [1,2,3,6] (.seq (.seq r20_4 (.cond (.t 35) (.seq r20_5 .ret) .skip)) (.kp [1,2,3,6] (.seq r20_6 .ret))))))
def i20:IFn:=⟨3,45,b20,[.cell 6 3 true,.tmp 7]⟩
def o21_0:List IOp:=[q (.boxL 3 (.t 0)),
 q (.newL 6 [.p (.int .i64 0),.p (.int .i64 0),.p (.int .i64 0)]),
 q (.val 7 .mov [ki 0])]
def r21_0:IC:=(.reg o21_0 [1,2,3,6])
def o21_1:List IOp:=[q (.load 8 (.t 3) 2 true),
 q (.call (some 9) 30 [.t 8]),
 q (.val 10 .not [.t 9])]
def r21_1:IC:=(.reg o21_1 [1,2,3,6,10])
def o21_2:List IOp:=[q (.val 11 (.build [.p (.int .i64 0),.p (.int .i64 0),.p (.int .i64 0)] []) []),
 q (.store (.t 6) (.t 11) 3),
 q (.val 7 .mov [ki 340])]
def r21_2:IC:=(.reg o21_2 [6,7])
def o21_3:List IOp:=[mv 12 1,
 ⟨none,.val 13 (.bin .lss) [.t 12,ki 0],[0],none⟩,
 ⟨none,.val 14 .mov [.t 13],[0,1],none⟩,
 ⟨(some (14,false)),.val 15 .mov [.t 1],[0,1,2],none⟩,
 ⟨(some (14,false)),.val 16 (.faddr 1) [.t 3],[0,1,2],none⟩,
 ⟨(some (14,false)),.loadL 17 (.t 16) 1 false,[0,1,2,4],none⟩,
 ⟨(some (14,false)),.val 18 .len [.t 17],[0,1,2,4,5],none⟩,
 ⟨(some (14,false)),.val 19 (.bin .geq) [.t 15,.t 18],[0,1,2,3,4,5,6],none⟩,
 ⟨none,.val 20 .pick [.t 14,.k (.p (.bool true)),.t 19],[0,1,2,3,4,5,6,7],none⟩,
 ⟨none,.val 21 .mov [.t 20],[0,1,2,3,4,5,6,7,8],none⟩,
 ⟨(some (21,false)),.val 22 .mov [.t 2],[0,1,2,3,4,5,6,7,8,9],none⟩,
 ⟨(some (21,false)),.val 23 (.bin .lss) [.t 22,ki 0],[0,1,2,3,4,5,6,7,8,9,10],none⟩,
 ⟨none,.val 24 .pick [.t 21,.k (.p (.bool true)),.t 23],[0,1,2,3,4,5,6,7,8,9,10,11],none⟩,
 ⟨none,.val 25 .mov [.t 24],[0,1,2,3,4,5,6,7,8,9,10,11,12],none⟩,
 ⟨(some (25,false)),.val 26 .mov [.t 2],[0,1,2,3,4,5,6,7,8,9,10,11,12,13],none⟩,
 ⟨(some (25,false)),.val 27 (.faddr 0) [.t 3],[0,1,2,3,4,5,6,7,8,9,10,11,12,13],none⟩,
 ⟨(some (25,false)),.loadL 28 (.t 27) 1 false,[0,1,2,3,4,5,6,7,8,9,10,11,12,13,15],none⟩,
 ⟨(some (25,false)),.val 29 (.faddr 1) [.t 3],[0,1,2,3,4,5,6,7,8,9,10,11,12,13],none⟩,
 ⟨(some (25,false)),.loadL 30 (.t 29) 1 false,[0,1,2,3,4,5,6,7,8,9,10,11,12,13,17],none⟩,
 ⟨(some (25,false)),.val 31 .mov [.t 1],[0,1,2,3,4,5,6,7,8,9,10,11,12,13],none⟩,
 ⟨(some (25,false)),.val 32 (.iaddrS 4) [.t 30,.t 31],[0,1,2,3,4,5,6,7,8,9,10,11,12,13,17,18,19],none⟩,
 ⟨(some (25,false)),.val 33 (.faddr 0) [.t 32],[0,1,2,3,4,5,6,7,8,9,10,11,12,13,17,18,19,20],none⟩,
 ⟨(some (25,false)),.loadH 34 (.t 33) 1 false,[0,1,2,3,4,5,6,7,8,9,10,11,12,13,17,18,19,20,21],none⟩,
 ⟨(some (25,false)),.val 35 (.iaddrS 1) [.t 28,.t 34],[0,1,2,3,4,5,6,7,8,9,10,11,12,13,15,16,17,18,19,20,21,22],none⟩,
 ⟨(some (25,false)),.loadH 36 (.t 35) 1 false,[0,1,2,3,4,5,6,7,8,9,10,11,12,13,15,16,17,18,19,20,21,22,23],none⟩,
 ⟨(some (25,false)),.val 37 (.bin .geq) [.t 26,.t 36],[0,1,2,3,4,5,6,7,8,9,10,11,12,13,14,15,16,17,18,19,20,21,22,23,24],none⟩,
 ⟨none,.val 38 .pick [.t 25,.k (.p (.bool true)),.t 37],[0,1,2,3,4,5,6,7,8,9,10,11,12,13,14,15,16,17,18,19,20,21,22,23,24,25],none⟩]
def r21_3:IC:=(.regD o21_3 [1,2,3,6,38])
def o21_4:List IOp:=[q (.val 39 (.build [.p (.int .i64 0),.p (.int .i64 0),.p (.int .i64 0)] []) []),
 q (.store (.t 6) (.t 39) 3),
 q (.val 7 .mov [ki 2])]
def r21_4:IC:=(.reg o21_4 [6,7])
def o21_5:List IOp:=[q (.load 40 (.t 3) 2 true),
 mv 41 1,
 mv 42 2,
 q (.call (some 43) 40 [.t 40,.t 41,.t 42]),
 q (.store (.t 6) (.t 43) 3),
 q (.val 7 .mov [ki 0])]
def r21_5:IC:=(.reg o21_5 [6,7])
def b21:IC:=(.seq r21_0 (.seq (.seq r21_1 (.cond (.t 10) (.seq r21_2 .ret) .skip)) (.kp [1,2,3,6] (.seq (.seq r21_3 (.cond (.t 38) (.seq r21_4 .ret) .skip)) (.kp [1,2,3,6] (.seq r21_5 .ret))))))
def i21:IFn:=⟨3,44,b21,[.cell 6 3 true,.tmp 7]⟩
def o23_0:List IOp:=[q (.boxL 3 (.t 0)),
 q (.boxL 4 (.t 1)),
 q (.newL 6 [.p (.sl 1 true []),.p (.sl 4 true [])]),
 q (.val 7 .mov [ki 0])]
def r23_0:IC:=(.reg o23_0 [2,3,4,6])
def o23_1:List IOp:=[q (.load 16 (.t 3) 3 true),
 q (.call (some 17) 41 [.t 16,.k (.p (.sl 10 true []))]),
 mv 8 17]
def r23_1:IC:=(.reg o23_1 [2,3,4,6,8])
def o23_2:List IOp:=[mv 18 8,
 q (.val 19 (.bin .neq) [.t 18,ki 0])]
def r23_2:IC:=(.reg o23_2 [2,3,4,6,8,19])
def o23_3:List IOp:=[q (.val 20 (.build [.p (.sl 1 true []),.p (.sl 4 true [])] []) []),
 mv 21 8,
 q (.store (.t 6) (.t 20) 2),
 mv 7 21]
def r23_3:IC:=(.reg o23_3 [6,7])
def o23_4:List IOp:=[q (.load 22 (.t 4) 4 true),
 q (.call (some 23) 42 [.t 22]),
 mv 9 23]
def r23_4:IC:=(.reg o23_4 [2,3,4,6,9])
def o23_5:List IOp:=[mv 24 9,
 q (.val 25 (.bin .neq) [.t 24,ki 0])]
def r23_5:IC:=(.reg o23_5 [2,3,4,6,9,25])
def o23_6:List IOp:=[q (.val 26 (.build [.p (.sl 1 true []),.p (.sl 4 true [])] []) []),
 mv 27 9,
 q (.store (.t 6) (.t 26) 2),
 mv 7 27]
def r23_6:IC:=(.reg o23_6 [6,7])
def o23_7:List IOp:=[q (.load 28 (.t 3) 3 true),
 mv 29 2,
 q (.call (some 30) 41 [.t 28,.t 29]),
 mv 10 30]
def r23_7:IC:=(.reg o23_7 [2,3,4,6,10])
def o23_8:List IOp:=[mv 31 10,
 q (.val 32 (.bin .neq) [.t 31,ki 0])]
def r23_8:IC:=(.reg o23_8 [2,3,4,6,10,32])
def o23_9:List IOp:=[q (.val 33 (.build [.p (.sl 1 true []),.p (.sl 4 true [])] []) []),
 mv 34 10,
 q (.store (.t 6) (.t 33) 2),
 mv 7 34]
def r23_9:IC:=(.reg o23_9 [6,7])
def o23_10:List IOp:=[q (.newH 11 [.p (.sl 1 true []),.p (.sl 4 true []),.p (.bool false)])]
def r23_10:IC:=(.reg o23_10 [2,3,4,6,11])
def o23_11:List IOp:=[mv 35 2,
 q (.val 36 .len [.t 35]),
 q (.val 37 .mov [ki 0])]
def r23_11:IC:=(.reg o23_11 [3,4,6,11,35,36,37])
def o23_12:List IOp:=[q (.val 38 (.bin .lss) [.t 37,.t 36])]
def r23_12:IC:=(.reg o23_12 [3,4,6,11,35,36,37,38])
def o23_13:List IOp:=[q (.val 39 (.iaddrS 10) [.t 35,.t 37]),
 q (.load 40 (.t 39) 10 true),
 q (.newL 13 [.p (.int .i64 0),.p (.int .i64 0),.p (.int .i64 0),.p (.int .i64 0),.p (.int .i64 0),.p (.int .i64 0),.p (.int .i64 0),.p (.int .i64 0),.p (.int .i64 0),.p (.sl 1 true [])]),
 q (.store (.t 13) (.t 40) 10)]
def r23_13:IC:=(.reg o23_13 [3,4,6,11,13,35,36,37])
def o23_14:List IOp:=[q (.val 41 (.faddr 3) [.t 13]),
 q (.load 42 (.t 41) 1 false),
 q (.val 43 (.bin .neq) [.t 42,ki 7])]
def r23_14:IC:=(.reg o23_14 [3,4,6,11,13,35,36,37,43])
def o23_15:List IOp:=[q (.load 44 (.t 3) 3 true),
 q (.load 45 (.t 4) 4 true),
 q (.load 46 (.t 13) 10 true),
 q (.call (some 47) 43 [.t 11,.t 44,.t 45,.t 46]),
 mv 14 47]
def r23_15:IC:=(.reg o23_15 [3,4,6,11,14,35,36,37])
def o23_16:List IOp:=[mv 48 14,
 q (.val 49 (.bin .neq) [.t 48,ki 0])]
def r23_16:IC:=(.reg o23_16 [3,4,6,11,14,35,36,37,49])
def o23_17:List IOp:=[q (.val 50 (.build [.p (.sl 1 true []),.p (.sl 4 true [])] []) []),
 mv 51 14,
 q (.store (.t 6) (.t 50) 2),
 mv 7 51]
def r23_17:IC:=(.reg o23_17 [6,7])
def o23_18:List IOp:=[q (.val 52 (.bin .add) [.t 37,ki 1]),
 mv 37 52]
def r23_18:IC:=(.reg o23_18 [3,4,6,11,35,36,37])
def l23_1:IC:=(.seq r23_12 (.seq (.cond (.t 38) .skip (.kp [6,11] (.exit 0))) (.kp [3,4,6,11,35,36,37] (.seq (.block 1 (.seq r23_13 (.seq (.seq r23_14 (.cond (.t 43) (.kp [3,4,6,11,35,36,37] (.exit 1)) .skip)) (.kp [3,4,6,11,13,35,36,37] (.seq r23_15 (.seq r23_16 (.cond (.t 49) (.seq r23_17 .ret) .skip))))))) (.kp [3,4,6,11,35,36,37] r23_18)))))
def o23_19:List IOp:=[q (.call (some 53) 44 [.t 11]),
 mv 15 53]
def r23_19:IC:=(.reg o23_19 [6,11,15])
def o23_20:List IOp:=[mv 54 15,
 q (.val 55 (.bin .neq) [.t 54,ki 0])]
def r23_20:IC:=(.reg o23_20 [6,11,15,55])
def o23_21:List IOp:=[q (.val 56 (.build [.p (.sl 1 true []),.p (.sl 4 true [])] []) []),
 mv 57 15,
 q (.store (.t 6) (.t 56) 2),
 mv 7 57]
def r23_21:IC:=(.reg o23_21 [6,7])
def o23_22:List IOp:=[q (.val 58 (.faddr 0) [.t 11]),
 q (.load 59 (.t 58) 2 true),
 q (.store (.t 6) (.t 59) 2),
 q (.val 7 .mov [ki 0])]
def r23_22:IC:=(.reg o23_22 [6,7])
def b23:IC:=(.seq r23_0 (.seq (.seq r23_1 (.seq r23_2 (.cond (.t 19) (.seq r23_3 .ret) .skip))) (.kp [2,3,4,6] (.seq (.seq r23_4 (.seq r23_5 (.cond (.t 25) (.seq r23_6 .ret) .skip))) (.kp [2,3,4,6] (.seq (.seq r23_7 (.seq r23_8 (.cond (.t 32) (.seq r23_9 .ret) .skip))) (.kp [2,3,4,6] (.seq r23_10 (.seq (.seq r23_11 (.block 0 (.loop l23_1))) (.seq (.seq r23_19 (.seq r23_20 (.cond (.t 55) (.seq r23_21 .ret) .skip))) (.kp [6,11] (.seq r23_22 .ret))))))))))))
def i23:IFn:=⟨3,60,b23,[.cell 6 2 true,.tmp 7]⟩
def o24_0:List IOp:=[q (.newL 0 [.p (.int .i64 0),.p (.sl 1 true []),.p (.sl 4 true [])])]
def r24_0:IC:=(.reg o24_0 [0])
def o24_1:List IOp:=[q (.litP 1 1 [.k (.p (.bool true)),.k (.p (.bool false)),.k (.p (.bool true))]),
 q (.val 2 (.build [.p (.int .i64 0),.p (.int .i64 0),.p (.int .i64 0),.p (.int .i64 0)] [(0,1),(1,1),(2,1),(3,1)]) [ki 0,ki 1,ki 8,ki 5]),
 q (.val 3 (.build [.p (.int .i64 0),.p (.int .i64 0),.p (.int .i64 0),.p (.int .i64 0)] [(0,1),(1,1),(2,1),(3,1)]) [ki 1,ki 2,ki 8,ki 5]),
 q (.litP 4 4 [.t 2,.t 3]),
 q (.val 5 (.build [.p (.int .i64 0),.p (.sl 1 true []),.p (.sl 4 true [])] [(0,1),(1,1),(2,1)]) [ki 3,.t 1,.t 4]),
 q (.store (.t 0) (.t 5) 3)]
def r24_1:IC:=(.reg o24_1 [0])
def b24:IC:=(.seq r24_0 (.seq r24_1 .ret))
def i24:IFn:=⟨0,6,b24,[.cell 0 3 true]⟩
def o25_0:List IOp:=[q (.newL 2 [.p (.sl 1 true []),.p (.sl 4 true [])]),
 q (.val 3 .mov [ki 0])]
def r25_0:IC:=(.reg o25_0 [0,2])
def o25_1:List IOp:=[q (.call (some 4) 24 []),
 q (.val 5 (.build [.p (.int .i64 0),.p (.int .i64 0),.p (.int .i64 0),.p (.int .i64 0)] [(0,1),(1,1),(2,1),(3,1)]) [ki 100,ki 2,ki 10,ki 8000]),
 mv 6 0,
 q (.call (some 7) 23 [.t 4,.t 5,.t 6]),
 q (.val 8 (.ext 0) [.t 7]),
 q (.val 9 (.ext 1) [.t 7]),
 q (.store (.t 2) (.t 8) 2),
 mv 3 9]
def r25_1:IC:=(.reg o25_1 [2,3])
def b25:IC:=(.seq r25_0 (.seq r25_1 .ret))
def i25:IFn:=⟨1,10,b25,[.cell 2 2 true,.tmp 3]⟩
def o26_0:List IOp:=[q (.newL 6 [.p (.int .i64 0),.p (.int .i64 0),.p (.int .i64 0),.p (.int .i64 0),.p (.int .i64 0),.p (.int .i64 0),.p (.int .i64 0),.p (.int .i64 0),.p (.int .i64 0),.p (.sl 1 true [])])]
def r26_0:IC:=(.reg o26_0 [0,1,2,6])
def o26_1:List IOp:=[mv 7 0,
 mv 8 1,
 mv 9 2,
 q (.litP 10 1 [ki 0,ki 2]),
 q (.litP 11 1 [.t 10]),
 q (.val 12 (.build [.p (.int .i64 0),.p (.int .i64 0),.p (.int .i64 0),.p (.int .i64 0),.p (.int .i64 0),.p (.int .i64 0),.p (.int .i64 0),.p (.int .i64 0),.p (.int .i64 0),.p (.sl 1 true [])] [(0,1),(1,1),(2,1),(3,1),(4,1),(5,1),(8,1),(9,1)]) [.t 7,ki 0,ki 2,ki 7,ki 100,.t 8,.t 9,.t 11]),
 q (.store (.t 6) (.t 12) 10)]
def r26_1:IC:=(.reg o26_1 [6])
def b26:IC:=(.seq r26_0 (.seq r26_1 .ret))
def i26:IFn:=⟨3,13,b26,[.cell 6 10 true]⟩
def o27_0:List IOp:=[q (.boxL 2 (.t 0)),
 q (.val 4 .mov [.k (.p (.bool false))])]
def r27_0:IC:=(.reg o27_0 [1,2])
def o27_1:List IOp:=[q (.load 8 (.t 2) 2 true),
 mv 9 1,
 q (.call (some 10) 13 [.t 8,.t 9]),
 mv 7 10,
 q (.val 11 (.ext 0) [.t 7]),
 q (.val 12 (.ext 1) [.t 7]),
 mv 5 11,
 mv 6 12]
def r27_1:IC:=(.reg o27_1 [5,6])
def o27_2:List IOp:=[mv 13 5,
 mv 14 13,
 ⟨(some (14,true)),.val 15 .mov [.t 6],[],none⟩,
 ⟨(some (14,true)),.val 16 (.bin .eql) [.t 15,ki 0],[],none⟩,
 q (.val 17 .pick [.t 14,.t 16,.k (.p (.bool false))]),
 mv 4 17]
def r27_2:IC:=(.reg o27_2 [4])
def b27:IC:=(.seq r27_0 (.seq r27_1 (.seq r27_2 .ret)))
def i27:IFn:=⟨2,18,b27,[.tmp 4]⟩
def o28_0:List IOp:=[q (.boxL 3 (.t 0)),
 q (.val 6 .mov [.k (.p (.bool false))])]
def r28_0:IC:=(.reg o28_0 [1,2,3])
def o28_1:List IOp:=[mv 7 2,
 q (.val 8 (.bin .geq) [.t 7,ki 0]),
 mv 9 8,
 ⟨(some (9,true)),.val 10 .mov [.t 2],[],none⟩,
 ⟨(some (9,true)),.val 11 (.faddr 0) [.t 3],[],none⟩,
 ⟨(some (9,true)),.load 12 (.t 11) 1 false,[],none⟩,
 ⟨(some (9,true)),.val 13 .mov [.t 1],[],none⟩,
 ⟨(some (9,true)),.val 14 (.iaddrS 1) [.t 12,.t 13],[],none⟩,
 ⟨(some (9,true)),.load 15 (.t 14) 1 false,[],none⟩,
 ⟨(some (9,true)),.val 16 (.bin .lss) [.t 10,.t 15],[],none⟩,
 q (.val 17 .pick [.t 9,.t 16,.k (.p (.bool false))]),
 mv 6 17]
def r28_1:IC:=(.reg o28_1 [6])
def b28:IC:=(.seq r28_0 (.seq r28_1 .ret))
def i28:IFn:=⟨3,18,b28,[.tmp 6]⟩
def o29_0:List IOp:=[q (.boxH 5 (.t 0)),
 q (.boxH 7 (.t 2)),
 q (.boxH 9 (.t 4)),
 q (.newH 10 [.p (.bool false)])]
def r29_0:IC:=(.reg o29_0 [1,3,5,7,9,10])
def o29_1:List IOp:=[q (.load 15 (.t 5) 2 true),
 mv 16 1,
 mv 17 3,
 q (.call (some 18) 45 [.t 15,.t 16,.t 17])]
def r29_1:IC:=(.reg o29_1 [5,7,9,10,18])
def o29_2:List IOp:=[q (.newL 11 [.p (.int .i64 0),.p (.int .i64 0),.p (.int .i64 0),.p (.int .i64 0)]),
 q (.store (.t 11) (.t 19) 4)]
def r29_2:IC:=(.reg o29_2 [5,7,9,10,11,20])
def o29_3:List IOp:=[q (.newL 12 [.p (.int .i64 0),.p (.int .i64 0),.p (.int .i64 0),.p (.int .i64 0)]),
 q (.store (.t 12) (.t 20) 4)]
def r29_3:IC:=(.reg o29_3 [5,7,9,10,11,12])
def o29_4:List IOp:=[q (.load 21 (.t 11) 4 true),
 q (.load 22 (.t 12) 4 true),
 q (.val 23 (.eqS false [true,true,true,true]) [.t 21,.t 22])]
def r29_4:IC:=(.reg o29_4 [5,7,9,10,11,12,23])
def o29_5:List IOp:=[q (.store (.t 10) (.k (.p (.bool true))) 1)]
def r29_5:IC:=(.reg o29_5 [])
def o29_6:List IOp:=[q (.loadH 25 (.t 5) 2 true),
 q (.loadL 26 (.t 11) 4 true),
 q (.loadH 27 (.t 7) 1 false),
 ⟨none,.callP 28 39 [.t 25,.t 26,.t 27],[0,1,2],none⟩,
 q (.loadH 29 (.t 5) 2 true),
 q (.loadL 30 (.t 12) 4 true),
 q (.loadH 31 (.t 9) 1 false),
 ⟨none,.call (some 32) 39 [.t 29,.t 30,.t 31],[0,1,2,3,4,5,6],none⟩,
 ⟨none,.call (some 33) 46 [.t 28,.t 32],[0,1,2,3,4,5,6,7],none⟩,
 ⟨none,.val 24 .mov [.t 33],[0,1,2,3,4,5,6,7,8],none⟩,
 ⟨none,.val 34 (.ext 0) [.t 24],[0,1,2,3,4,5,6,7,8,9],none⟩,
 ⟨none,.val 35 (.ext 1) [.t 24],[0,1,2,3,4,5,6,7,8,9],none⟩,
 ⟨none,.val 13 .mov [.t 34],[0,1,2,3,4,5,6,7,8,9,10],none⟩,
 ⟨none,.val 14 .mov [.t 35],[0,1,2,3,4,5,6,7,8,9,10,11,12],none⟩]
def r29_6:IC:=(.regD o29_6 [10,13])
def o29_7:List IOp:=[mv 36 13,
 q (.val 37 .not [.t 36])]
def r29_7:IC:=(.reg o29_7 [10,37])
def o29_8:List IOp:=[q (.store (.t 10) (.k (.p (.bool true))) 1)]
def r29_8:IC:=(.reg o29_8 [])
def Zcv:IC:=(.seq r29_2 r29_3)
def Zct:IC:=(.block 1 (.seq (.seq r29_4 (.cond (.t 23) (.seq r29_5 .ret) .skip)) (.kp [5,7,9,10,11,12] (.seq r29_6 (.seq r29_7 (.cond (.t 37) (.seq r29_8 .ret) .skip))))))
def o29_9:List IOp:=[q (.store (.t 10) (.k (.p (.bool false))) 1)]
def r29_9:IC:=(.reg o29_9 [10])
def b29:IC:=(.seq r29_0 (.seq (.seq r29_1 (.block 0 (.rangeF (.t 18) [19,20] Zcv Zct))) (.kp [10] (.seq r29_9 .ret))))
def i29:IFn:=⟨5,38,b29,[.cell 10 1 false]⟩
def o30_0:List IOp:=[q (.boxL 1 (.t 0)),
 q (.val 2 .mov [.k (.p (.bool false))])]
def r30_0:IC:=(.reg o30_0 [1])
def o30_1:List IOp:=[q (.val 6 (.faddr 0) [.t 1]),
 q (.load 7 (.t 6) 1 false),
 q (.val 8 .len [.t 7]),
 q (.val 9 (.bin .gtr) [.t 8,ki 12]),
 mv 10 9,
 ⟨(some (10,false)),.val 11 (.faddr 1) [.t 1],[],none⟩,
 ⟨(some (10,false)),.load 12 (.t 11) 1 false,[],none⟩,
 ⟨(some (10,false)),.val 13 .len [.t 12],[],none⟩,
 ⟨(some (10,false)),.val 14 (.bin .gtr) [.t 13,ki 192],[],none⟩,
 q (.val 15 .pick [.t 10,.k (.p (.bool true)),.t 14])]
def r30_1:IC:=(.reg o30_1 [1,15])
def o30_2:List IOp:=[q (.val 2 .mov [.k (.p (.bool false))])]
def r30_2:IC:=(.reg o30_2 [2])
def o30_3:List IOp:=[q (.val 3 .mov [ki 0])]
def r30_3:IC:=(.reg o30_3 [1,3])
def o30_4:List IOp:=[mv 16 3,
 q (.val 17 (.faddr 0) [.t 1]),
 q (.load 18 (.t 17) 1 false),
 q (.val 19 .len [.t 18]),
 q (.val 20 (.bin .lss) [.t 16,.t 19])]
def r30_4:IC:=(.reg o30_4 [1,3,20])
def o30_6:List IOp:=[q (.val 23 (.faddr 0) [.t 1]),
 q (.load 24 (.t 23) 1 false),
 mv 25 3,
 q (.val 26 (.iaddrS 1) [.t 24,.t 25]),
 q (.load 27 (.t 26) 1 false),
 q (.val 28 (.bin .lss) [.t 27,ki 1]),
 mv 29 28,
 ⟨(some (29,false)),.val 30 (.faddr 0) [.t 1],[],none⟩,
 ⟨(some (29,false)),.load 31 (.t 30) 1 false,[],none⟩,
 ⟨(some (29,false)),.val 32 .mov [.t 3],[],none⟩,
 ⟨(some (29,false)),.val 33 (.iaddrS 1) [.t 31,.t 32],[],none⟩,
 ⟨(some (29,false)),.load 34 (.t 33) 1 false,[],none⟩,
 ⟨(some (29,false)),.val 35 (.bin .gtr) [.t 34,ki 240],[],none⟩,
 q (.val 36 .pick [.t 29,.k (.p (.bool true)),.t 35])]
def r30_6:IC:=(.reg o30_6 [1,3,36])
def o30_7:List IOp:=[q (.val 2 .mov [.k (.p (.bool false))])]
def r30_7:IC:=(.reg o30_7 [2])
def o30_5:List IOp:=[mv 21 3,
 q (.val 22 (.bin .add) [.t 21,ki 1]),
 mv 3 22]
def r30_5:IC:=(.reg o30_5 [1,3])
def l30_1:IC:=(.seq (.seq r30_4 (.cond (.t 20) .skip (.kp [1] (.exit 0)))) (.kp [1,3] (.seq (.block 1 (.seq r30_6 (.cond (.t 36) (.seq r30_7 .ret) .skip))) (.kp [1,3] r30_5))))
def o30_8:List IOp:=[q (.val 4 .mov [ki 0])]
def r30_8:IC:=(.reg o30_8 [1,4])
def o30_9:List IOp:=[mv 37 4,
 q (.val 38 (.faddr 1) [.t 1]),
 q (.load 39 (.t 38) 1 false),
 q (.val 40 .len [.t 39]),
 q (.val 41 (.bin .lss) [.t 37,.t 40])]
def r30_9:IC:=(.reg o30_9 [1,4,41])
def o30_11:List IOp:=[q (.val 44 (.faddr 1) [.t 1]),
 q (.load 45 (.t 44) 1 false),
 mv 46 4,
 q (.val 47 (.iaddrS 4) [.t 45,.t 46]),
 q (.load 48 (.t 47) 4 true),
 q (.newL 5 [.p (.int .i64 0),.p (.int .i64 0),.p (.int .i64 0),.p (.int .i64 0)]),
 q (.store (.t 5) (.t 48) 4)]
def r30_11:IC:=(.reg o30_11 [1,4,5])
def o30_12:List IOp:=[q (.val 49 (.faddr 0) [.t 5]),
 q (.load 50 (.t 49) 1 false),
 q (.val 51 (.bin .lss) [.t 50,ki 0]),
 mv 52 51,
 ⟨(some (52,false)),.val 53 (.faddr 0) [.t 5],[],none⟩,
 ⟨(some (52,false)),.load 54 (.t 53) 1 false,[],none⟩,
 ⟨(some (52,false)),.val 55 (.faddr 0) [.t 1],[],none⟩,
 ⟨(some (52,false)),.load 56 (.t 55) 1 false,[],none⟩,
 ⟨(some (52,false)),.val 57 .len [.t 56],[],none⟩,
 ⟨(some (52,false)),.val 58 (.bin .geq) [.t 54,.t 57],[],none⟩,
 q (.val 59 .pick [.t 52,.k (.p (.bool true)),.t 58]),
 mv 60 59,
 ⟨(some (60,false)),.val 61 (.faddr 1) [.t 5],[],none⟩,
 ⟨(some (60,false)),.load 62 (.t 61) 1 false,[],none⟩,
 ⟨(some (60,false)),.val 63 (.bin .lss) [.t 62,ki 0],[],none⟩,
 q (.val 64 .pick [.t 60,.k (.p (.bool true)),.t 63]),
 mv 65 64,
 ⟨(some (65,false)),.val 66 (.faddr 1) [.t 5],[],none⟩,
 ⟨(some (65,false)),.load 67 (.t 66) 1 false,[],none⟩,
 ⟨(some (65,false)),.val 68 (.bin .geq) [.t 67,ki 48],[],none⟩,
 q (.val 69 .pick [.t 65,.k (.p (.bool true)),.t 68])]
def r30_12:IC:=(.reg o30_12 [1,4,5,69])
def o30_13:List IOp:=[q (.val 2 .mov [.k (.p (.bool false))])]
def r30_13:IC:=(.reg o30_13 [2])
def o30_14:List IOp:=[q (.val 70 (.faddr 2) [.t 5]),
 ⟨none,.loadL 71 (.t 70) 1 false,[0],none⟩,
 ⟨none,.val 72 (.bin .lss) [.t 71,ki 0],[0,1],none⟩,
 ⟨none,.val 73 .mov [.t 72],[0,1,2],none⟩,
 ⟨(some (73,false)),.val 74 (.faddr 2) [.t 5],[0,1,2,3],none⟩,
 ⟨(some (73,false)),.loadL 75 (.t 74) 1 false,[0,1,2,3,4],none⟩,
 ⟨(some (73,false)),.val 76 (.faddr 0) [.t 1],[0,1,2,3],none⟩,
 ⟨(some (73,false)),.loadL 77 (.t 76) 1 false,[0,1,2,3,6],none⟩,
 ⟨(some (73,false)),.val 78 (.faddr 0) [.t 5],[0,1,2,3],none⟩,
 ⟨(some (73,false)),.loadL 79 (.t 78) 1 false,[0,1,2,3,8],none⟩,
 ⟨(some (73,false)),.val 80 (.iaddrS 1) [.t 77,.t 79],[0,1,2,3,6,7,8,9],none⟩,
 ⟨(some (73,false)),.loadH 81 (.t 80) 1 false,[0,1,2,3,6,7,8,9,10],none⟩,
 ⟨(some (73,false)),.val 82 (.bin .geq) [.t 75,.t 81],[0,1,2,3,4,5,6,7,8,9,10,11],none⟩,
 ⟨none,.val 83 .pick [.t 73,.k (.p (.bool true)),.t 82],[0,1,2,3,4,5,6,7,8,9,10,11,12],none⟩,
 ⟨none,.val 84 .mov [.t 83],[0,1,2,3,4,5,6,7,8,9,10,11,12,13],none⟩,
 ⟨(some (84,false)),.val 85 (.faddr 3) [.t 5],[0,1,2,3,4,5,6,7,8,9,10,11,12,13,14],none⟩,
 ⟨(some (84,false)),.loadL 86 (.t 85) 1 false,[0,1,2,3,4,5,6,7,8,9,10,11,12,13,14,15],none⟩,
 ⟨(some (84,false)),.val 87 (.bin .lss) [.t 86,ki 1],[0,1,2,3,4,5,6,7,8,9,10,11,12,13,14,15,16],none⟩,
 ⟨none,.val 88 .pick [.t 84,.k (.p (.bool true)),.t 87],[0,1,2,3,4,5,6,7,8,9,10,11,12,13,14,15,16,17],none⟩,
 ⟨none,.val 89 .mov [.t 88],[0,1,2,3,4,5,6,7,8,9,10,11,12,13,14,15,16,17,18],none⟩,
 ⟨(some (89,false)),.val 90 (.faddr 3) [.t 5],[0,1,2,3,4,5,6,7,8,9,10,11,12,13,14,15,16,17,18,19],none⟩,
 ⟨(some (89,false)),.loadL 91 (.t 90) 1 false,[0,1,2,3,4,5,6,7,8,9,10,11,12,13,14,15,16,17,18,19,20],none⟩,
 ⟨(some (89,false)),.val 92 (.faddr 0) [.t 1],[0,1,2,3,4,5,6,7,8,9,10,11,12,13,14,15,16,17,18,19],none⟩,
 ⟨(some (89,false)),.loadL 93 (.t 92) 1 false,[0,1,2,3,4,5,6,7,8,9,10,11,12,13,14,15,16,17,18,19,22],none⟩,
 ⟨(some (89,false)),.val 94 (.faddr 0) [.t 5],[0,1,2,3,4,5,6,7,8,9,10,11,12,13,14,15,16,17,18,19],none⟩,
 ⟨(some (89,false)),.loadL 95 (.t 94) 1 false,[0,1,2,3,4,5,6,7,8,9,10,11,12,13,14,15,16,17,18,19,24],none⟩,
 ⟨(some (89,false)),.val 96 (.iaddrS 1) [.t 93,.t 95],[0,1,2,3,4,5,6,7,8,9,10,11,12,13,14,15,16,17,18,19,22,23,24,25],none⟩,
 ⟨(some (89,false)),.loadH 97 (.t 96) 1 false,[0,1,2,3,4,5,6,7,8,9,10,11,12,13,14,15,16,17,18,19,22,23,24,25,26],none⟩,
 ⟨(some (89,false)),.val 98 (.bin .gtr) [.t 91,.t 97],[0,1,2,3,4,5,6,7,8,9,10,11,12,13,14,15,16,17,18,19,20,21,22,23,24,25,26,27],none⟩,
 ⟨none,.val 99 .pick [.t 89,.k (.p (.bool true)),.t 98],[0,1,2,3,4,5,6,7,8,9,10,11,12,13,14,15,16,17,18,19,20,21,22,23,24,25,26,27,28],none⟩]
def r30_14:IC:=(.regD o30_14 [1,4,99])
def o30_15:List IOp:=[q (.val 2 .mov [.k (.p (.bool false))])]
def r30_15:IC:=(.reg o30_15 [2])
def o30_10:List IOp:=[mv 42 4,
 q (.val 43 (.bin .add) [.t 42,ki 1]),
 mv 4 43]
def r30_10:IC:=(.reg o30_10 [1,4])
def l30_2:IC:=(.seq (.seq r30_9 (.cond (.t 41) .skip (.kp [1] (.exit 2)))) (.kp [1,4] (.seq (.block 3 (.seq r30_11 (.seq (.seq r30_12 (.cond (.t 69) (.seq r30_13 .ret) .skip)) (.kp [1,4,5] (.seq r30_14 (.cond (.t 99) (.seq r30_15 .ret) .skip)))))) (.kp [1,4] r30_10))))
def o30_16:List IOp:=[q (.val 100 (.faddr 0) [.t 1]),
 q (.load 101 (.t 100) 1 false),
 q (.call (some 102) 38 [.t 101]),
 q (.val 103 (.bin .gtr) [.t 102,ki 0]),
 mv 2 103]
def r30_16:IC:=(.reg o30_16 [2])
def b30:IC:=(.seq r30_0 (.seq (.seq r30_1 (.cond (.t 15) (.seq r30_2 .ret) .skip)) (.kp [1] (.seq (.seq r30_3 (.block 0 (.loop l30_1))) (.seq (.seq r30_8 (.block 2 (.loop l30_2))) (.seq r30_16 .ret))))))
def i30:IFn:=⟨1,104,b30,[.tmp 2]⟩
def o35_0:List IOp:=[q (.boxL 2 (.t 0)),
 q (.boxL 3 (.t 1)),
 q (.val 4 .mov [.k (.p (.bool false))])]
def r35_0:IC:=(.reg o35_0 [2,3])
def o35_1:List IOp:=[q (.val 7 (.faddr 0) [.t 2]),
 q (.load 8 (.t 7) 1 false),
 q (.val 9 .len [.t 8]),
 q (.val 10 (.faddr 0) [.t 3]),
 q (.load 11 (.t 10) 1 false),
 q (.val 12 .len [.t 11]),
 q (.val 13 (.bin .neq) [.t 9,.t 12]),
 mv 14 13,
 ⟨(some (14,false)),.val 15 (.faddr 1) [.t 2],[],none⟩,
 ⟨(some (14,false)),.load 16 (.t 15) 1 false,[],none⟩,
 ⟨(some (14,false)),.val 17 .len [.t 16],[],none⟩,
 ⟨(some (14,false)),.val 18 (.faddr 1) [.t 3],[],none⟩,
 ⟨(some (14,false)),.load 19 (.t 18) 1 false,[],none⟩,
 ⟨(some (14,false)),.val 20 .len [.t 19],[],none⟩,
 ⟨(some (14,false)),.val 21 (.bin .neq) [.t 17,.t 20],[],none⟩,
 q (.val 22 .pick [.t 14,.k (.p (.bool true)),.t 21])]
def r35_1:IC:=(.reg o35_1 [2,3,22])
def o35_2:List IOp:=[q (.val 4 .mov [.k (.p (.bool false))])]
def r35_2:IC:=(.reg o35_2 [4])
def o35_3:List IOp:=[q (.val 5 .mov [ki 0])]
def r35_3:IC:=(.reg o35_3 [2,3,5])
def o35_4:List IOp:=[mv 23 5,
 q (.val 24 (.faddr 0) [.t 2]),
 q (.load 25 (.t 24) 1 false),
 q (.val 26 .len [.t 25]),
 q (.val 27 (.bin .lss) [.t 23,.t 26])]
def r35_4:IC:=(.reg o35_4 [2,3,5,27])
def o35_6:List IOp:=[q (.val 30 (.faddr 0) [.t 2]),
 ⟨none,.loadL 31 (.t 30) 1 false,[0],none⟩,
 mv 32 5,
 ⟨none,.val 33 (.iaddrS 1) [.t 31,.t 32],[0,1,2],none⟩,
 ⟨none,.loadH 34 (.t 33) 1 false,[0,1,2,3],none⟩,
 q (.val 35 (.faddr 0) [.t 3]),
 ⟨none,.loadL 36 (.t 35) 1 false,[5],none⟩,
 mv 37 5,
 ⟨none,.val 38 (.iaddrS 1) [.t 36,.t 37],[5,6,7],none⟩,
 ⟨none,.loadH 39 (.t 38) 1 false,[5,6,7,8],none⟩,
 ⟨none,.val 40 (.bin .neq) [.t 34,.t 39],[0,1,2,3,4,5,6,7,8,9],none⟩]
def r35_6:IC:=(.regD o35_6 [2,3,5,40])
def o35_7:List IOp:=[q (.val 4 .mov [.k (.p (.bool false))])]
def r35_7:IC:=(.reg o35_7 [4])
def o35_5:List IOp:=[mv 28 5,
 q (.val 29 (.bin .add) [.t 28,ki 1]),
 mv 5 29]
def r35_5:IC:=(.reg o35_5 [2,3,5])
def l35_1:IC:=(.seq (.seq r35_4 (.cond (.t 27) .skip (.kp [2,3] (.exit 0)))) (.kp [2,3,5] (.seq (.block 1 (.seq r35_6 (.cond (.t 40) (.seq r35_7 .ret) .skip))) (.kp [2,3,5] r35_5))))
def o35_8:List IOp:=[q (.val 6 .mov [ki 0])]
def r35_8:IC:=(.reg o35_8 [2,3,6])
def o35_9:List IOp:=[mv 41 6,
 q (.val 42 (.faddr 1) [.t 2]),
 q (.load 43 (.t 42) 1 false),
 q (.val 44 .len [.t 43]),
 q (.val 45 (.bin .lss) [.t 41,.t 44])]
def r35_9:IC:=(.reg o35_9 [2,3,6,45])
def o35_11:List IOp:=[q (.val 48 (.faddr 1) [.t 2]),
 ⟨none,.loadL 49 (.t 48) 1 false,[0],none⟩,
 mv 50 6,
 ⟨none,.val 51 (.iaddrS 4) [.t 49,.t 50],[0,1,2],none⟩,
 ⟨none,.loadH 52 (.t 51) 4 true,[0,1,2,3],none⟩,
 q (.val 53 (.faddr 1) [.t 3]),
 ⟨none,.loadL 54 (.t 53) 1 false,[5],none⟩,
 mv 55 6,
 ⟨none,.val 56 (.iaddrS 4) [.t 54,.t 55],[5,6,7],none⟩,
 ⟨none,.loadH 57 (.t 56) 4 true,[5,6,7,8],none⟩,
 ⟨none,.val 58 (.eqS true [true,true,true,true]) [.t 52,.t 57],[0,1,2,3,4,5,6,7,8,9],none⟩]
def r35_11:IC:=(.regD o35_11 [2,3,6,58])
def o35_12:List IOp:=[q (.val 4 .mov [.k (.p (.bool false))])]
def r35_12:IC:=(.reg o35_12 [4])
def o35_10:List IOp:=[mv 46 6,
 q (.val 47 (.bin .add) [.t 46,ki 1]),
 mv 6 47]
def r35_10:IC:=(.reg o35_10 [2,3,6])
def l35_2:IC:=(.seq (.seq r35_9 (.cond (.t 45) .skip (.kp [] (.exit 2)))) (.kp [2,3,6] (.seq (.block 3 (.seq r35_11 (.cond (.t 58) (.seq r35_12 .ret) .skip))) (.kp [2,3,6] r35_10))))
def o35_13:List IOp:=[q (.val 4 .mov [.k (.p (.bool true))])]
def r35_13:IC:=(.reg o35_13 [4])
def b35:IC:=(.seq r35_0 (.seq (.seq r35_1 (.cond (.t 22) (.seq r35_2 .ret) .skip)) (.kp [2,3] (.seq (.seq r35_3 (.block 0 (.loop l35_1))) (.seq (.seq r35_8 (.block 2 (.loop l35_2))) (.seq r35_13 .ret))))))
def i35:IFn:=⟨2,59,b35,[.tmp 4]⟩
def o36_0:List IOp:=[q (.boxL 3 (.t 0)),
 q (.val 6 .mov [.k (.p (.bool false))])]
def r36_0:IC:=(.reg o36_0 [1,2,3])
def o36_1:List IOp:=[q (.load 10 (.t 3) 2 true),
 mv 11 1,
 mv 12 2,
 q (.call (some 13) 11 [.t 10,ki 0,.t 11,ki 1,.t 12]),
 mv 9 13,
 q (.val 14 (.ext 0) [.t 9]),
 q (.val 15 (.ext 1) [.t 9]),
 mv 7 14,
 mv 8 15]
def r36_1:IC:=(.reg o36_1 [7,8])
def o36_2:List IOp:=[mv 16 7,
 mv 17 16,
 ⟨(some (17,true)),.val 18 .mov [.t 8],[],none⟩,
 ⟨(some (17,true)),.val 19 (.bin .eql) [.t 18,ki 0],[],none⟩,
 q (.val 20 .pick [.t 17,.t 19,.k (.p (.bool false))]),
 mv 6 20]
def r36_2:IC:=(.reg o36_2 [6])
def b36:IC:=(.seq r36_0 (.seq r36_1 (.seq r36_2 .ret)))
def i36:IFn:=⟨3,21,b36,[.tmp 6]⟩
def o37_0:List IOp:=[q (.val 2 .mov [ki 0]),
 q (.val 3 .mov [ki 0])]
def r37_0:IC:=(.reg o37_0 [0])
def o37_1:List IOp:=[mv 7 0,
 q (.val 8 .len [.t 7]),
 q (.mkSl 9 (.t 8) (.t 8) [.int .i64 0,.int .i64 0,.int .i64 0] 24),
 mv 4 9]
def r37_1:IC:=(.reg o37_1 [0,4])
def o37_2:List IOp:=[mv 10 0,
 q (.val 11 .len [.t 10]),
 q (.val 12 .mov [ki 0])]
def r37_2:IC:=(.reg o37_2 [4,10,11,12])
def o37_3:List IOp:=[q (.val 13 (.bin .lss) [.t 12,.t 11])]
def r37_3:IC:=(.reg o37_3 [4,10,11,12,13])
def o37_4:List IOp:=[mv 14 12,
 q (.val 15 (.iaddrS 1) [.t 10,.t 12]),
 q (.load 16 (.t 15) 1 false),
 mv 5 14,
 mv 6 16]
def r37_4:IC:=(.reg o37_4 [4,5,6,10,11,12])
def o37_5:List IOp:=[mv 17 4,
 mv 18 5,
 mv 19 6,
 q (.val 20 (.build [.p (.int .i64 0),.p (.int .i64 0),.p (.int .i64 0)] [(0,1),(2,1)]) [.t 19,ki 1]),
 q (.val 21 (.iaddrS 3) [.t 17,.t 18]),
 q (.store (.t 21) (.t 20) 3)]
def r37_5:IC:=(.reg o37_5 [4,10,11,12])
def o37_6:List IOp:=[q (.val 22 (.bin .add) [.t 12,ki 1]),
 mv 12 22]
def r37_6:IC:=(.reg o37_6 [4,10,11,12])
def l37_1:IC:=(.seq r37_3 (.seq (.cond (.t 13) .skip (.kp [4] (.exit 0))) (.kp [4,10,11,12] (.seq (.block 1 (.seq r37_4 r37_5)) r37_6))))
def o37_7:List IOp:=[mv 23 4,
 q (.call (some 24) 48 [.t 23]),
 q (.val 25 (.ext 0) [.t 24]),
 q (.val 26 (.ext 1) [.t 24]),
 mv 2 25,
 mv 3 26]
def r37_7:IC:=(.reg o37_7 [2,3])
def b37:IC:=(.seq r37_0 (.seq r37_1 (.seq (.seq r37_2 (.block 0 (.loop l37_1))) (.seq r37_7 .ret))))
def i37:IFn:=⟨1,27,b37,[.tmp 2,.tmp 3]⟩
def o38_0:List IOp:=[q (.val 2 .mov [ki 0])]
def r38_0:IC:=(.reg o38_0 [0])
def o38_1:List IOp:=[q (.val 3 .mov [ki 1])]
def r38_1:IC:=(.reg o38_1 [0,3])
def o38_2:List IOp:=[mv 6 3,
 q (.val 7 (.bin .leq) [.t 6,ki 960])]
def r38_2:IC:=(.reg o38_2 [0,3,7])
def o38_4:List IOp:=[q (.val 4 .mov [.k (.p (.bool true))])]
def r38_4:IC:=(.reg o38_4 [0,3,4])
def o38_5:List IOp:=[q (.val 5 .mov [ki 0])]
def r38_5:IC:=(.reg o38_5 [0,3,4,5])
def o38_6:List IOp:=[mv 10 5,
 mv 11 0,
 q (.val 12 .len [.t 11]),
 q (.val 13 (.bin .lss) [.t 10,.t 12])]
def r38_6:IC:=(.reg o38_6 [0,3,4,5,13])
def o38_8:List IOp:=[mv 16 4,
 mv 17 16,
 ⟨(some (17,true)),.val 18 .mov [.t 3],[],none⟩,
 ⟨(some (17,true)),.val 19 .mov [.t 0],[],none⟩,
 ⟨(some (17,true)),.val 20 .mov [.t 5],[],none⟩,
 ⟨(some (17,true)),.val 21 (.iaddrS 1) [.t 19,.t 20],[],none⟩,
 ⟨(some (17,true)),.load 22 (.t 21) 1 false,[],none⟩,
 ⟨(some (17,true)),.val 23 (.bin .rem) [.t 18,.t 22],[],none⟩,
 ⟨(some (17,true)),.val 24 (.bin .eql) [.t 23,ki 0],[],none⟩,
 q (.val 25 .pick [.t 17,.t 24,.k (.p (.bool false))]),
 mv 4 25]
def r38_8:IC:=(.reg o38_8 [0,3,4,5])
def o38_7:List IOp:=[mv 14 5,
 q (.val 15 (.bin .add) [.t 14,ki 1]),
 mv 5 15]
def r38_7:IC:=(.reg o38_7 [0,3,4,5])
def l38_2:IC:=(.seq (.seq r38_6 (.cond (.t 13) .skip (.kp [0,3,4] (.exit 2)))) (.kp [0,3,4,5] (.seq (.block 3 r38_8) r38_7)))
def o38_9:List IOp:=[mv 26 4]
def r38_9:IC:=(.reg o38_9 [0,3,26])
def o38_10:List IOp:=[mv 27 3,
 mv 2 27]
def r38_10:IC:=(.reg o38_10 [2])
def o38_3:List IOp:=[mv 8 3,
 q (.val 9 (.bin .add) [.t 8,ki 1]),
 mv 3 9]
def r38_3:IC:=(.reg o38_3 [0,3])
def l38_1:IC:=(.seq (.seq r38_2 (.cond (.t 7) .skip (.kp [] (.exit 0)))) (.kp [0,3] (.seq (.block 1 (.seq r38_4 (.seq (.seq r38_5 (.block 2 (.loop l38_2))) (.seq r38_9 (.cond (.t 26) (.seq r38_10 .ret) .skip))))) (.kp [0,3] r38_3))))
def o38_11:List IOp:=[q (.val 2 .mov [ki 0])]
def r38_11:IC:=(.reg o38_11 [2])
def b38:IC:=(.seq r38_0 (.seq (.seq r38_1 (.block 0 (.loop l38_1))) (.seq r38_11 .ret)))
def i38:IFn:=⟨1,28,b38,[.tmp 2]⟩
def o39_0:List IOp:=[q (.boxL 3 (.t 0)),
 q (.boxL 4 (.t 1)),
 q (.newL 6 [.p (.int .i64 0),.p (.int .i64 0),.p (.int .i64 0)])]
def r39_0:IC:=(.reg o39_0 [2,3,4,6])
def o39_1:List IOp:=[q (.val 8 (.faddr 0) [.t 3]),
 q (.load 9 (.t 8) 1 false),
 q (.val 10 (.faddr 0) [.t 4]),
 q (.load 11 (.t 10) 1 false),
 q (.val 12 (.iaddrS 1) [.t 9,.t 11]),
 q (.load 13 (.t 12) 1 false),
 mv 7 13]
def r39_1:IC:=(.reg o39_1 [2,4,6,7])
def o39_2:List IOp:=[mv 14 7,
 q (.val 15 (.faddr 2) [.t 4]),
 ⟨none,.loadL 16 (.t 15) 1 false,[1],none⟩,
 mv 17 2,
 ⟨none,.val 18 (.bin .add) [.t 16,.t 17],[1,2,3],none⟩,
 mv 19 7,
 ⟨none,.val 20 (.bin .rem) [.t 18,.t 19],[1,2,3,4,5],none⟩,
 q (.val 21 (.faddr 3) [.t 4]),
 ⟨none,.loadL 22 (.t 21) 1 false,[7],none⟩,
 ⟨none,.val 23 (.build [.p (.int .i64 0),.p (.int .i64 0),.p (.int .i64 0)] [(0,1),(1,1),(2,1)]) [.t 14,.t 20,.t 22],[0,1,2,3,4,5,6,7,8],none⟩,
 ⟨none,.store (.t 6) (.t 23) 3,[0,1,2,3,4,5,6,7,8,9],none⟩]
def r39_2:IC:=(.regD o39_2 [6])
def b39:IC:=(.seq r39_0 (.seq r39_1 (.seq r39_2 .ret)))
def i39:IFn:=⟨3,24,b39,[.cell 6 3 true]⟩
def o40_0:List IOp:=[q (.boxL 3 (.t 0)),
 q (.newL 6 [.p (.int .i64 0),.p (.int .i64 0),.p (.int .i64 0)])]
def r40_0:IC:=(.reg o40_0 [1,2,3,6])
def o40_1:List IOp:=[q (.val 8 (.faddr 0) [.t 3]),
 ⟨none,.loadL 9 (.t 8) 1 false,[0],none⟩,
 q (.val 10 (.faddr 1) [.t 3]),
 ⟨none,.loadL 11 (.t 10) 1 false,[2],none⟩,
 mv 12 1,
 ⟨none,.val 13 (.iaddrS 4) [.t 11,.t 12],[2,3,4],none⟩,
 ⟨none,.val 14 (.faddr 0) [.t 13],[2,3,4,5],none⟩,
 ⟨none,.loadH 15 (.t 14) 1 false,[2,3,4,5,6],none⟩,
 ⟨none,.val 16 (.iaddrS 1) [.t 9,.t 15],[0,1,2,3,4,5,6,7],none⟩,
 ⟨none,.loadH 17 (.t 16) 1 false,[0,1,2,3,4,5,6,7,8],none⟩,
 ⟨none,.val 7 .mov [.t 17],[0,1,2,3,4,5,6,7,8,9],none⟩]
def r40_1:IC:=(.regD o40_1 [1,2,3,6,7])
def o40_2:List IOp:=[mv 18 7,
 q (.val 19 (.faddr 1) [.t 3]),
 ⟨none,.loadL 20 (.t 19) 1 false,[1],none⟩,
 mv 21 1,
 ⟨none,.val 22 (.iaddrS 4) [.t 20,.t 21],[1,2,3],none⟩,
 ⟨none,.val 23 (.faddr 2) [.t 22],[1,2,3,4],none⟩,
 ⟨none,.loadH 24 (.t 23) 1 false,[1,2,3,4,5],none⟩,
 mv 25 2,
 ⟨none,.val 26 (.bin .add) [.t 24,.t 25],[1,2,3,4,5,6,7],none⟩,
 mv 27 7,
 ⟨none,.val 28 (.bin .rem) [.t 26,.t 27],[1,2,3,4,5,6,7,8,9],none⟩,
 q (.val 29 (.faddr 1) [.t 3]),
 ⟨none,.loadL 30 (.t 29) 1 false,[11],none⟩,
 mv 31 1,
 ⟨none,.val 32 (.iaddrS 4) [.t 30,.t 31],[11,12,13],none⟩,
 ⟨none,.val 33 (.faddr 3) [.t 32],[11,12,13,14],none⟩,
 ⟨none,.loadH 34 (.t 33) 1 false,[11,12,13,14,15],none⟩,
 ⟨none,.val 35 (.build [.p (.int .i64 0),.p (.int .i64 0),.p (.int .i64 0)] [(0,1),(1,1),(2,1)]) [.t 18,.t 28,.t 34],[0,1,2,3,4,5,6,7,8,9,10,11,12,13,14,15,16],none⟩,
 ⟨none,.store (.t 6) (.t 35) 3,[0,1,2,3,4,5,6,7,8,9,10,11,12,13,14,15,16,17],none⟩]
def r40_2:IC:=(.regD o40_2 [6])
def b40:IC:=(.seq r40_0 (.seq r40_1 (.seq r40_2 .ret)))
def i40:IFn:=⟨3,36,b40,[.cell 6 3 true]⟩
def o41_0:List IOp:=[q (.boxL 2 (.t 0)),
 q (.val 4 .mov [ki 0])]
def r41_0:IC:=(.reg o41_0 [1,2])
def o41_1:List IOp:=[q (.load 11 (.t 2) 3 true),
 q (.call (some 12) 49 [.t 11]),
 mv 5 12]
def r41_1:IC:=(.reg o41_1 [1,2,5])
def o41_2:List IOp:=[mv 13 5,
 q (.val 14 (.bin .neq) [.t 13,ki 0])]
def r41_2:IC:=(.reg o41_2 [1,2,5,14])
def o41_3:List IOp:=[mv 15 5,
 mv 4 15]
def r41_3:IC:=(.reg o41_3 [4])
def o41_4:List IOp:=[mv 16 1,
 q (.val 17 .len [.t 16]),
 q (.val 18 (.bin .gtr) [.t 17,ki 12])]
def r41_4:IC:=(.reg o41_4 [1,2,18])
def o41_5:List IOp:=[q (.val 4 .mov [ki 3])]
def r41_5:IC:=(.reg o41_5 [4])
def o41_6:List IOp:=[mv 19 1,
 q (.val 20 .len [.t 19]),
 q (.val 21 .mov [ki 0])]
def r41_6:IC:=(.reg o41_6 [1,2,19,20,21])
def o41_7:List IOp:=[q (.val 22 (.bin .lss) [.t 21,.t 20])]
def r41_7:IC:=(.reg o41_7 [1,2,19,20,21,22])
def o41_8:List IOp:=[q (.val 23 (.iaddrS 10) [.t 19,.t 21]),
 q (.load 24 (.t 23) 10 true),
 q (.newL 7 [.p (.int .i64 0),.p (.int .i64 0),.p (.int .i64 0),.p (.int .i64 0),.p (.int .i64 0),.p (.int .i64 0),.p (.int .i64 0),.p (.int .i64 0),.p (.int .i64 0),.p (.sl 1 true [])]),
 q (.store (.t 7) (.t 24) 10)]
def r41_8:IC:=(.reg o41_8 [1,2,7,19,20,21])
def o41_9:List IOp:=[q (.load 25 (.t 2) 3 true),
 q (.load 26 (.t 7) 10 true),
 q (.call (some 27) 50 [.t 25,.t 26]),
 q (.val 28 .not [.t 27])]
def r41_9:IC:=(.reg o41_9 [1,2,19,20,21,28])
def o41_10:List IOp:=[q (.val 4 .mov [ki 321])]
def r41_10:IC:=(.reg o41_10 [4])
def o41_11:List IOp:=[q (.val 29 (.bin .add) [.t 21,ki 1]),
 mv 21 29]
def r41_11:IC:=(.reg o41_11 [1,2,19,20,21])
def l41_1:IC:=(.seq r41_7 (.seq (.cond (.t 22) .skip (.kp [1] (.exit 0))) (.kp [1,2,19,20,21] (.seq (.block 1 (.seq r41_8 (.seq r41_9 (.cond (.t 28) (.seq r41_10 .ret) .skip)))) (.kp [1,2,19,20,21] r41_11)))))
def o41_12:List IOp:=[q (.sp (some 30) .mkMap []),
 mv 8 30]
def r41_12:IC:=(.reg o41_12 [1,8])
def o41_13:List IOp:=[mv 31 1,
 q (.val 32 .len [.t 31]),
 q (.val 33 .mov [ki 0])]
def r41_13:IC:=(.reg o41_13 [8,31,32,33])
def o41_14:List IOp:=[q (.val 34 (.bin .lss) [.t 33,.t 32])]
def r41_14:IC:=(.reg o41_14 [8,31,32,33,34])
def o41_15:List IOp:=[q (.val 35 (.iaddrS 10) [.t 31,.t 33]),
 q (.load 36 (.t 35) 10 true),
 q (.newL 10 [.p (.int .i64 0),.p (.int .i64 0),.p (.int .i64 0),.p (.int .i64 0),.p (.int .i64 0),.p (.int .i64 0),.p (.int .i64 0),.p (.int .i64 0),.p (.int .i64 0),.p (.sl 1 true [])]),
 q (.store (.t 10) (.t 36) 10)]
def r41_15:IC:=(.reg o41_15 [8,10,31,32,33])
def o41_16:List IOp:=[mv 37 8,
 q (.val 38 (.faddr 0) [.t 10]),
 q (.load 39 (.t 38) 1 false),
 q (.sp (some 40) (.mapGet 0 false (.p (.bool false))) [.t 37,.t 39])]
def r41_16:IC:=(.reg o41_16 [8,10,31,32,33,40])
def o41_17:List IOp:=[q (.val 4 .mov [ki 322])]
def r41_17:IC:=(.reg o41_17 [4])
def o41_18:List IOp:=[mv 41 8,
 q (.val 42 (.faddr 0) [.t 10]),
 q (.load 43 (.t 42) 1 false),
 q (.sp none (.mapSet 0) [.t 41,.t 43,.k (.p (.bool true))])]
def r41_18:IC:=(.reg o41_18 [8,31,32,33])
def o41_19:List IOp:=[q (.val 44 (.bin .add) [.t 33,ki 1]),
 mv 33 44]
def r41_19:IC:=(.reg o41_19 [8,31,32,33])
def l41_2:IC:=(.seq r41_14 (.seq (.cond (.t 34) .skip (.kp [] (.exit 2))) (.kp [8,31,32,33] (.seq (.block 3 (.seq r41_15 (.seq (.seq r41_16 (.cond (.t 40) (.seq r41_17 .ret) .skip)) (.kp [8,10,31,32,33] r41_18)))) (.kp [8,31,32,33] r41_19)))))
def o41_20:List IOp:=[q (.val 4 .mov [ki 0])]
def r41_20:IC:=(.reg o41_20 [4])
def b41:IC:=(.seq r41_0 (.seq (.seq r41_1 (.seq r41_2 (.cond (.t 14) (.seq r41_3 .ret) .skip))) (.kp [1,2] (.seq (.seq r41_4 (.cond (.t 18) (.seq r41_5 .ret) .skip)) (.kp [1,2] (.seq (.seq r41_6 (.block 0 (.loop l41_1))) (.seq r41_12 (.seq (.seq r41_13 (.block 2 (.loop l41_2))) (.seq r41_20 .ret)))))))))
def i41:IFn:=⟨2,45,b41,[.tmp 4]⟩
def o42_0:List IOp:=[q (.boxL 1 (.t 0)),
 q (.val 2 .mov [ki 0])]
def r42_0:IC:=(.reg o42_0 [1])
def o42_1:List IOp:=[q (.val 3 (.faddr 0) [.t 1]),
 q (.load 4 (.t 3) 1 false),
 q (.call (some 5) 51 [.t 4,ki 1,ki 10000]),
 q (.val 6 .not [.t 5]),
 mv 7 6,
 ⟨(some (7,false)),.val 8 (.faddr 1) [.t 1],[],none⟩,
 ⟨(some (7,false)),.load 9 (.t 8) 1 false,[],none⟩,
 ⟨(some (7,false)),.call (some 10) 51 [.t 9,ki 0,ki 1000],[],none⟩,
 ⟨(some (7,false)),.val 11 .not [.t 10],[],none⟩,
 q (.val 12 .pick [.t 7,.k (.p (.bool true)),.t 11])]
def r42_1:IC:=(.reg o42_1 [1,12])
def o42_2:List IOp:=[q (.val 2 .mov [ki 320])]
def r42_2:IC:=(.reg o42_2 [2])
def o42_3:List IOp:=[q (.val 13 (.faddr 2) [.t 1]),
 q (.load 14 (.t 13) 1 false),
 q (.call (some 15) 51 [.t 14,ki 0,ki 10000]),
 q (.val 16 .not [.t 15]),
 mv 17 16,
 ⟨(some (17,false)),.val 18 (.faddr 3) [.t 1],[],none⟩,
 ⟨(some (17,false)),.load 19 (.t 18) 1 false,[],none⟩,
 ⟨(some (17,false)),.call (some 20) 51 [.t 19,ki 1542,ki 65536],[],none⟩,
 ⟨(some (17,false)),.val 21 .not [.t 20],[],none⟩,
 q (.val 22 .pick [.t 17,.k (.p (.bool true)),.t 21])]
def r42_3:IC:=(.reg o42_3 [22])
def o42_4:List IOp:=[q (.val 2 .mov [ki 320])]
def r42_4:IC:=(.reg o42_4 [2])
def o42_5:List IOp:=[q (.val 2 .mov [ki 0])]
def r42_5:IC:=(.reg o42_5 [2])
def b42:IC:=(.seq r42_0 (.seq (.seq r42_1 (.cond (.t 12) (.seq r42_2 .ret) .skip)) (.kp [1] (.seq (.seq r42_3 (.cond (.t 22) (.seq r42_4 .ret) .skip)) (.kp [] (.seq r42_5 .ret))))))
def i42:IFn:=⟨1,23,b42,[.tmp 2]⟩
def o43_0:List IOp:=[q (.boxL 5 (.t 1)),
 q (.boxL 6 (.t 2)),
 q (.boxL 7 (.t 3)),
 q (.val 8 .mov [ki 0])]
def r43_0:IC:=(.reg o43_0 [0,5,6,7])
def o43_1:List IOp:=[mv 19 0,
 q (.val 20 .nilChk [.t 19]),
 q (.val 21 (.faddr 0) [.t 20]),
 q (.val 22 (.faddr 0) [.t 21]),
 q (.load 23 (.t 22) 1 false),
 q (.val 24 .len [.t 23]),
 mv 9 24]
def r43_1:IC:=(.reg o43_1 [0,5,6,7,9])
def o43_2:List IOp:=[mv 25 0,
 mv 26 0,
 ⟨none,.val 27 .nilChk [.t 26],[1],none⟩,
 ⟨none,.val 28 (.faddr 0) [.t 27],[1,2],none⟩,
 ⟨none,.val 29 (.faddr 0) [.t 28],[1,2,3],none⟩,
 ⟨none,.loadH 30 (.t 29) 1 false,[1,2,3,4],none⟩,
 q (.val 31 (.faddr 5) [.t 7]),
 ⟨none,.loadL 32 (.t 31) 1 false,[6],none⟩,
 ⟨none,.litP 33 1 [.t 32],[6,7],none⟩,
 ⟨none,.app 34 (.t 30) (.t 33) 1 8,[1,2,3,4,5,6,7,8],none⟩,
 ⟨none,.val 35 .nilChk [.t 25],[0,1,2,3,4,5,6,7,8,9],none⟩,
 ⟨none,.val 36 (.faddr 0) [.t 35],[0,1,2,3,4,5,6,7,8,9,10],none⟩,
 ⟨none,.val 37 (.faddr 0) [.t 36],[0,1,2,3,4,5,6,7,8,9,10,11],none⟩,
 ⟨none,.storeH (.t 37) (.t 34) 1,[0,1,2,3,4,5,6,7,8,9,10,11,12],none⟩]
def r43_2:IC:=(.regD o43_2 [0,5,6,7,9])
def o43_3:List IOp:=[q (.val 38 (.faddr 9) [.t 7]),
 q (.load 39 (.t 38) 1 false),
 q (.val 40 .len [.t 39]),
 q (.val 41 .mov [ki 0])]
def r43_3:IC:=(.reg o43_3 [0,5,6,7,9,40,41])
def o43_4:List IOp:=[q (.val 42 (.bin .lss) [.t 41,.t 40])]
def r43_4:IC:=(.reg o43_4 [0,5,6,7,9,40,41,42])
def o43_5:List IOp:=[mv 43 41,
 mv 10 43]
def r43_5:IC:=(.reg o43_5 [0,5,6,7,9,10,40,41])
def o43_6:List IOp:=[q (.load 45 (.t 5) 3 true),
 q (.load 46 (.t 6) 4 true),
 q (.load 47 (.t 7) 10 true),
 mv 48 10,
 q (.call (some 49) 52 [.t 45,.t 46,.t 47,.t 48]),
 mv 44 49,
 q (.val 50 (.ext 0) [.t 44]),
 q (.val 51 (.ext 1) [.t 44]),
 mv 11 50,
 mv 12 51]
def r43_6:IC:=(.reg o43_6 [0,5,6,7,9,10,11,12,40,41])
def o43_7:List IOp:=[mv 52 12,
 q (.val 53 (.bin .neq) [.t 52,ki 0])]
def r43_7:IC:=(.reg o43_7 [0,5,6,7,9,10,11,12,40,41,53])
def o43_8:List IOp:=[mv 54 12,
 mv 8 54]
def r43_8:IC:=(.reg o43_8 [8])
def o43_9:List IOp:=[mv 55 11,
 q (.val 56 .len [.t 55]),
 q (.val 57 .mov [ki 0])]
def r43_9:IC:=(.reg o43_9 [0,5,6,7,9,10,40,41,55,56,57])
def o43_10:List IOp:=[q (.val 58 (.bin .lss) [.t 57,.t 56])]
def r43_10:IC:=(.reg o43_10 [0,5,6,7,9,10,40,41,55,56,57,58])
def o43_11:List IOp:=[q (.val 59 (.iaddrS 5) [.t 55,.t 57]),
 q (.load 60 (.t 59) 5 true),
 q (.newL 14 [.p (.int .i64 0),.p (.int .i64 0),.p (.int .i64 0),.p (.int .i64 0),.p (.int .i64 0)]),
 q (.store (.t 14) (.t 60) 5)]
def r43_11:IC:=(.reg o43_11 [0,5,6,7,9,10,14,40,41,55,56,57])
def o43_12:List IOp:=[q (.val 61 (.faddr 1) [.t 14]),
 q (.load 62 (.t 61) 1 false),
 q (.val 63 (.faddr 0) [.t 6]),
 q (.load 64 (.t 63) 1 false),
 q (.call (some 65) 53 [.t 62,.t 64]),
 mv 15 65]
def r43_12:IC:=(.reg o43_12 [0,5,6,7,9,10,14,15,40,41,55,56,57])
def o43_13:List IOp:=[q (.val 66 (.faddr 3) [.t 14]),
 q (.load 67 (.t 66) 1 false),
 q (.val 68 (.faddr 4) [.t 14]),
 q (.load 69 (.t 68) 1 false),
 q (.val 70 (.bin .add) [.t 67,.t 69]),
 q (.val 71 (.faddr 0) [.t 6]),
 q (.load 72 (.t 71) 1 false),
 q (.val 73 (.bin .add) [.t 70,.t 72]),
 q (.val 74 (.bin .sub) [.t 73,ki 1]),
 q (.val 75 (.faddr 0) [.t 6]),
 q (.load 76 (.t 75) 1 false),
 q (.call (some 77) 53 [.t 74,.t 76]),
 mv 16 77]
def r43_13:IC:=(.reg o43_13 [0,5,6,7,9,10,14,15,16,40,41,55,56,57])
def o43_14:List IOp:=[mv 78 15,
 mv 79 15,
 q (.val 80 (.faddr 5) [.t 7]),
 ⟨none,.loadL 81 (.t 80) 1 false,[2],none⟩,
 ⟨none,.callP 82 53 [.t 79,.t 81],[1,2,3],none⟩,
 q (.val 83 (.faddr 5) [.t 7]),
 ⟨none,.loadL 84 (.t 83) 1 false,[5],none⟩,
 ⟨none,.val 85 (.bin .mul) [.t 82,.t 84],[1,2,3,4,5,6],none⟩,
 ⟨none,.val 86 (.bin .sub) [.t 78,.t 85],[0,1,2,3,4,5,6,7],none⟩,
 ⟨none,.val 17 .mov [.t 86],[0,1,2,3,4,5,6,7,8],none⟩]
def r43_14:IC:=(.regD o43_14 [0,5,6,7,9,10,14,15,16,17,40,41,55,56,57])
def o43_15:List IOp:=[mv 87 0,
 mv 88 0,
 ⟨none,.val 89 .nilChk [.t 88],[1],none⟩,
 ⟨none,.val 90 (.faddr 0) [.t 89],[1,2],none⟩,
 ⟨none,.val 91 (.faddr 1) [.t 90],[1,2,3],none⟩,
 ⟨none,.loadH 92 (.t 91) 1 false,[1,2,3,4],none⟩,
 mv 93 9,
 q (.val 94 (.faddr 0) [.t 14]),
 ⟨none,.loadL 95 (.t 94) 1 false,[7],none⟩,
 mv 96 17,
 mv 97 16,
 mv 98 15,
 ⟨none,.val 99 (.bin .sub) [.t 97,.t 98],[10,11],none⟩,
 ⟨none,.val 100 (.build [.p (.int .i64 0),.p (.int .i64 0),.p (.int .i64 0),.p (.int .i64 0)] [(0,1),(1,1),(2,1),(3,1)]) [.t 93,.t 95,.t 96,.t 99],[6,7,8,9,10,11,12],none⟩,
 ⟨none,.litP 101 4 [.t 100],[6,7,8,9,10,11,12,13],none⟩,
 ⟨none,.app 102 (.t 92) (.t 101) 4 32,[1,2,3,4,5,6,7,8,9,10,11,12,13,14],none⟩,
 ⟨none,.val 103 .nilChk [.t 87],[0,1,2,3,4,5,6,7,8,9,10,11,12,13,14,15],none⟩,
 ⟨none,.val 104 (.faddr 0) [.t 103],[0,1,2,3,4,5,6,7,8,9,10,11,12,13,14,15,16],none⟩,
 ⟨none,.val 105 (.faddr 1) [.t 104],[0,1,2,3,4,5,6,7,8,9,10,11,12,13,14,15,16,17],none⟩,
 ⟨none,.storeH (.t 105) (.t 102) 1,[0,1,2,3,4,5,6,7,8,9,10,11,12,13,14,15,16,17,18],none⟩]
def r43_15:IC:=(.regD o43_15 [0,5,6,7,9,10,40,41,55,56,57])
def o43_16:List IOp:=[q (.val 106 (.bin .add) [.t 57,ki 1]),
 mv 57 106]
def r43_16:IC:=(.reg o43_16 [0,5,6,7,9,10,40,41,55,56,57])
def l43_2:IC:=(.seq r43_10 (.seq (.cond (.t 58) .skip (.kp [0,5,6,7,9,10,40,41] (.exit 2))) (.kp [0,5,6,7,9,10,40,41,55,56,57] (.seq (.block 3 (.seq r43_11 (.seq r43_12 (.seq r43_13 (.seq r43_14 r43_15))))) r43_16))))
def o43_17:List IOp:=[q (.load 108 (.t 5) 3 true),
 q (.load 109 (.t 6) 4 true),
 q (.load 110 (.t 7) 10 true),
 mv 111 10,
 q (.call (some 112) 54 [.t 108,.t 109,.t 110,.t 111]),
 mv 107 112,
 q (.val 113 (.ext 0) [.t 107]),
 q (.val 114 (.ext 1) [.t 107]),
 mv 18 113,
 mv 12 114]
def r43_17:IC:=(.reg o43_17 [0,5,6,7,9,12,18,40,41])
def o43_18:List IOp:=[mv 115 12,
 q (.val 116 (.bin .neq) [.t 115,ki 0])]
def r43_18:IC:=(.reg o43_18 [0,5,6,7,9,12,18,40,41,116])
def o43_19:List IOp:=[mv 117 12,
 mv 8 117]
def r43_19:IC:=(.reg o43_19 [8])
def o43_20:List IOp:=[mv 118 0,
 mv 119 0,
 q (.val 120 .nilChk [.t 119]),
 q (.val 121 (.faddr 2) [.t 120]),
 q (.load 122 (.t 121) 1 false),
 mv 123 122,
 ⟨(some (123,false)),.val 124 .mov [.t 18],[],none⟩,
 ⟨(some (123,false)),.val 125 (.faddr 1) [.t 6],[],none⟩,
 ⟨(some (123,false)),.load 126 (.t 125) 1 false,[],none⟩,
 ⟨(some (123,false)),.val 127 (.bin .mul) [ki 2,.t 126],[],none⟩,
 ⟨(some (123,false)),.val 128 (.bin .add) [.t 124,.t 127],[],none⟩,
 ⟨(some (123,false)),.val 129 (.faddr 8) [.t 7],[],none⟩,
 ⟨(some (123,false)),.load 130 (.t 129) 1 false,[],none⟩,
 ⟨(some (123,false)),.val 131 (.bin .gtr) [.t 128,.t 130],[],none⟩,
 q (.val 132 .pick [.t 123,.k (.p (.bool true)),.t 131]),
 q (.val 133 .nilChk [.t 118]),
 q (.val 134 (.faddr 2) [.t 133]),
 q (.store (.t 134) (.t 132) 1)]
def r43_20:IC:=(.reg o43_20 [0,5,6,7,9,40,41])
def o43_21:List IOp:=[q (.val 135 (.bin .add) [.t 41,ki 1]),
 mv 41 135]
def r43_21:IC:=(.reg o43_21 [0,5,6,7,9,40,41])
def l43_1:IC:=(.seq r43_4 (.seq (.cond (.t 42) .skip (.kp [] (.exit 0))) (.kp [0,5,6,7,9,40,41] (.seq (.block 1 (.seq r43_5 (.seq r43_6 (.seq (.seq r43_7 (.cond (.t 53) (.seq r43_8 .ret) .skip)) (.kp [0,5,6,7,9,10,11,40,41] (.seq (.seq r43_9 (.block 2 (.loop l43_2))) (.seq r43_17 (.seq (.seq r43_18 (.cond (.t 116) (.seq r43_19 .ret) .skip)) (.kp [0,5,6,7,9,18,40,41] r43_20))))))))) (.kp [0,5,6,7,9,40,41] r43_21)))))
def o43_22:List IOp:=[q (.val 8 .mov [ki 0])]
def r43_22:IC:=(.reg o43_22 [8])
def b43:IC:=(.seq r43_0 (.seq r43_1 (.seq r43_2 (.seq (.seq r43_3 (.block 0 (.loop l43_1))) (.seq r43_22 .ret)))))
def i43:IFn:=⟨4,136,b43,[.tmp 8]⟩
def o44_0:List IOp:=[q (.val 2 .mov [ki 0])]
def r44_0:IC:=(.reg o44_0 [0])
def o44_1:List IOp:=[mv 16 0,
 q (.val 17 .nilChk [.t 16]),
 q (.val 18 (.faddr 0) [.t 17]),
 q (.val 19 (.faddr 0) [.t 18]),
 q (.load 20 (.t 19) 1 false),
 q (.call (some 21) 37 [.t 20]),
 mv 15 21,
 q (.val 22 (.ext 0) [.t 15]),
 q (.val 23 (.ext 1) [.t 15]),
 mv 3 22,
 mv 4 23]
def r44_1:IC:=(.reg o44_1 [0,3,4])
def o44_2:List IOp:=[mv 24 4,
 q (.val 25 (.bin .neq) [.t 24,ki 0])]
def r44_2:IC:=(.reg o44_2 [0,3,4,25])
def o44_3:List IOp:=[mv 26 4,
 mv 2 26]
def r44_3:IC:=(.reg o44_3 [2])
def o44_4:List IOp:=[q (.sp (some 27) .mkMap []),
 mv 5 27]
def r44_4:IC:=(.reg o44_4 [0,3,5])
def o44_5:List IOp:=[mv 28 0,
 q (.val 29 .nilChk [.t 28]),
 q (.val 30 (.faddr 0) [.t 29]),
 q (.val 31 (.faddr 1) [.t 30]),
 q (.load 32 (.t 31) 1 false),
 q (.val 33 .len [.t 32]),
 q (.val 34 .mov [ki 0])]
def r44_5:IC:=(.reg o44_5 [0,3,5,32,33,34])
def o44_6:List IOp:=[q (.val 35 (.bin .lss) [.t 34,.t 33])]
def r44_6:IC:=(.reg o44_6 [0,3,5,32,33,34,35])
def o44_7:List IOp:=[q (.val 36 (.iaddrS 4) [.t 32,.t 34]),
 q (.load 37 (.t 36) 4 true),
 q (.newL 7 [.p (.int .i64 0),.p (.int .i64 0),.p (.int .i64 0),.p (.int .i64 0)]),
 q (.store (.t 7) (.t 37) 4)]
def r44_7:IC:=(.reg o44_7 [0,3,5,7,32,33,34])
def o44_8:List IOp:=[mv 38 5,
 q (.val 39 (.faddr 1) [.t 7]),
 ⟨none,.loadL 40 (.t 39) 1 false,[1],none⟩,
 mv 41 5,
 q (.val 42 (.faddr 1) [.t 7]),
 ⟨none,.loadL 43 (.t 42) 1 false,[4],none⟩,
 ⟨none,.sp (some 44) (.mapGet 0 false (.p (.sl 4 true []))) [.t 41,.t 43],[3,4,5],none⟩,
 q (.loadL 45 (.t 7) 4 true),
 ⟨none,.litP 46 4 [.t 45],[7],none⟩,
 ⟨none,.app 47 (.t 44) (.t 46) 4 32,[3,4,5,6,7,8],none⟩,
 ⟨none,.sp none (.mapSet 0) [.t 38,.t 40,.t 47],[0,1,2,3,4,5,6,7,8,9],none⟩]
def r44_8:IC:=(.regD o44_8 [0,3,5,32,33,34])
def o44_9:List IOp:=[q (.val 48 (.bin .add) [.t 34,ki 1]),
 mv 34 48]
def r44_9:IC:=(.reg o44_9 [0,3,5,32,33,34])
def l44_1:IC:=(.seq r44_6 (.seq (.cond (.t 35) .skip (.kp [0,3,5] (.exit 0))) (.kp [0,3,5,32,33,34] (.seq (.block 1 (.seq r44_7 r44_8)) r44_9))))
def o44_10:List IOp:=[mv 49 5]
def o44_12:List IOp:=[q (.sp (some 53) .entry [.t 50]),
 q (.val 54 (.ext 1) [.t 53]),
 mv 9 54]
def r44_12:IC:=(.reg o44_12 [0,3,9,50])
def o44_13:List IOp:=[q (.val 10 .mov [ki 0])]
def r44_13:IC:=(.reg o44_13 [0,3,9,10,50])
def o44_14:List IOp:=[mv 55 9,
 q (.val 56 .len [.t 55]),
 q (.val 57 .mov [ki 0])]
def r44_14:IC:=(.reg o44_14 [0,3,10,50,55,56,57])
def o44_15:List IOp:=[q (.val 58 (.bin .lss) [.t 57,.t 56])]
def r44_15:IC:=(.reg o44_15 [0,3,10,50,55,56,57,58])
def o44_16:List IOp:=[q (.val 59 (.iaddrS 4) [.t 55,.t 57]),
 q (.load 60 (.t 59) 4 true),
 q (.newL 12 [.p (.int .i64 0),.p (.int .i64 0),.p (.int .i64 0),.p (.int .i64 0)]),
 q (.store (.t 12) (.t 60) 4)]
def r44_16:IC:=(.reg o44_16 [0,3,10,12,50,55,56,57])
def o44_17:List IOp:=[mv 61 10,
 mv 62 3,
 mv 63 0,
 ⟨none,.val 64 .nilChk [.t 63],[2],none⟩,
 ⟨none,.val 65 (.faddr 0) [.t 64],[2,3],none⟩,
 ⟨none,.val 66 (.faddr 0) [.t 65],[2,3,4],none⟩,
 ⟨none,.loadH 67 (.t 66) 1 false,[2,3,4,5],none⟩,
 q (.val 68 (.faddr 0) [.t 12]),
 ⟨none,.loadL 69 (.t 68) 1 false,[7],none⟩,
 ⟨none,.val 70 (.iaddrS 1) [.t 67,.t 69],[2,3,4,5,6,7,8],none⟩,
 ⟨none,.loadH 71 (.t 70) 1 false,[2,3,4,5,6,7,8,9],none⟩,
 ⟨none,.val 72 (.bin .quo) [.t 62,.t 71],[1,2,3,4,5,6,7,8,9,10],none⟩,
 ⟨none,.val 73 (.bin .add) [.t 61,.t 72],[0,1,2,3,4,5,6,7,8,9,10,11],none⟩,
 ⟨none,.val 10 .mov [.t 73],[0,1,2,3,4,5,6,7,8,9,10,11,12],none⟩]
def r44_17:IC:=(.regD o44_17 [0,3,10,50,55,56,57])
def o44_18:List IOp:=[q (.val 74 (.bin .add) [.t 57,ki 1]),
 mv 57 74]
def r44_18:IC:=(.reg o44_18 [0,3,10,50,55,56,57])
def l44_2:IC:=(.seq r44_15 (.seq (.cond (.t 58) .skip (.kp [0,3,10,50] (.exit 4))) (.kp [0,3,10,50,55,56,57] (.seq (.block 5 (.seq r44_16 r44_17)) r44_18))))
def o44_19:List IOp:=[mv 75 10,
 q (.val 76 (.bin .gtr) [.t 75,ki 63])]
def r44_19:IC:=(.reg o44_19 [0,3,50,76])
def o44_20:List IOp:=[q (.val 2 .mov [ki 7])]
def r44_20:IC:=(.reg o44_20 [2])
def o44_21:List IOp:=[mv 77 0,
 q (.val 78 .nilChk [.t 77]),
 q (.val 79 (.faddr 0) [.t 78]),
 q (.val 80 (.faddr 1) [.t 79]),
 q (.load 81 (.t 80) 1 false),
 q (.val 82 .len [.t 81]),
 q (.val 83 .mov [ki 0])]
def r44_21:IC:=(.reg o44_21 [0,81,82,83])
def o44_22:List IOp:=[q (.val 84 (.bin .lss) [.t 83,.t 82])]
def r44_22:IC:=(.reg o44_22 [0,81,82,83,84])
def o44_23:List IOp:=[q (.val 85 (.iaddrS 4) [.t 81,.t 83]),
 q (.load 86 (.t 85) 4 true),
 q (.newL 14 [.p (.int .i64 0),.p (.int .i64 0),.p (.int .i64 0),.p (.int .i64 0)]),
 q (.store (.t 14) (.t 86) 4)]
def r44_23:IC:=(.reg o44_23 [0,14,81,82,83])
def o44_24:List IOp:=[q (.val 87 (.faddr 3) [.t 14]),
 ⟨none,.loadL 88 (.t 87) 1 false,[0],none⟩,
 mv 89 0,
 ⟨none,.val 90 .nilChk [.t 89],[2],none⟩,
 ⟨none,.val 91 (.faddr 0) [.t 90],[2,3],none⟩,
 ⟨none,.val 92 (.faddr 0) [.t 91],[2,3,4],none⟩,
 ⟨none,.loadH 93 (.t 92) 1 false,[2,3,4,5],none⟩,
 q (.val 94 (.faddr 0) [.t 14]),
 ⟨none,.loadL 95 (.t 94) 1 false,[7],none⟩,
 ⟨none,.val 96 (.iaddrS 1) [.t 93,.t 95],[2,3,4,5,6,7,8],none⟩,
 ⟨none,.loadH 97 (.t 96) 1 false,[2,3,4,5,6,7,8,9],none⟩,
 ⟨none,.val 98 (.bin .gtr) [.t 88,.t 97],[0,1,2,3,4,5,6,7,8,9,10],none⟩]
def r44_24:IC:=(.regD o44_24 [0,81,82,83,98])
def o44_25:List IOp:=[q (.val 2 .mov [ki 341])]
def r44_25:IC:=(.reg o44_25 [2])
def o44_26:List IOp:=[q (.val 99 (.bin .add) [.t 83,ki 1]),
 mv 83 99]
def r44_26:IC:=(.reg o44_26 [0,81,82,83])
def l44_3:IC:=(.seq r44_22 (.seq (.cond (.t 84) .skip (.kp [0] (.exit 6))) (.kp [0,81,82,83] (.seq (.block 7 (.seq r44_23 (.seq r44_24 (.cond (.t 98) (.seq r44_25 .ret) .skip)))) (.kp [0,81,82,83] r44_26)))))
def o44_27:List IOp:=[mv 100 0,
 q (.val 101 .nilChk [.t 100]),
 q (.val 102 (.faddr 2) [.t 101]),
 q (.load 103 (.t 102) 1 false)]
def r44_27:IC:=(.reg o44_27 [103])
def o44_28:List IOp:=[q (.val 2 .mov [ki 342])]
def r44_28:IC:=(.reg o44_28 [2])
def o44_29:List IOp:=[q (.val 2 .mov [ki 0])]
def r44_29:IC:=(.reg o44_29 [2])
def b44:IC:=(.seq r44_0 (.seq r44_1 (.seq (.seq r44_2 (.cond (.t 25) (.seq r44_3 .ret) .skip)) (.kp [0,3] (.seq r44_4 (.seq (.seq r44_5 (.block 0 (.loop l44_1))) (.seq (.box (ZmS o44_10 50 (.t 49) [0,3,50] 2 51 52 [0,3,50,52] [0,3,50] [0] 3 (.seq r44_12 (.seq r44_13 (.seq (.seq r44_14 (.block 4 (.loop l44_2))) (.seq r44_19 (.cond (.t 76) (.seq r44_20 .ret) .skip))))))) (.seq (.seq r44_21 (.block 6 (.loop l44_3))) (.seq (.seq r44_27 (.cond (.t 103) (.seq r44_28 .ret) .skip)) (.kp [] (.seq r44_29 .ret)))))))))))
def i44:IFn:=⟨1,104,b44,[.tmp 2]⟩
def o45_0:List IOp:=[q (.boxH 3 (.t 0)),
 q (.boxH 4 (.t 1)),
 q (.boxH 5 (.t 2)),
 q (.val 6 .mov [.k (.nl .nilFunc)])]
def r45_0:IC:=(.reg o45_0 [3,4,5])
def o45_1:List IOp:=[q (.val 7 (.mkfn 55 0) [.t 3,.t 4,.t 5]),
 mv 6 7]
def r45_1:IC:=(.reg o45_1 [6])
def b45:IC:=(.seq r45_0 (.seq r45_1 .ret))
def i45:IFn:=⟨3,8,b45,[.tmp 6]⟩
def o46_0:List IOp:=[q (.boxL 2 (.t 0)),
 q (.boxL 3 (.t 1)),
 q (.val 4 .mov [.k (.p (.bool false))]),
 q (.val 5 .mov [ki 0])]
def r46_0:IC:=(.reg o46_0 [2,3])
def o46_1:List IOp:=[q (.load 8 (.t 2) 3 true),
 q (.call (some 9) 56 [.t 8]),
 mv 6 9]
def r46_1:IC:=(.reg o46_1 [2,3,6])
def o46_2:List IOp:=[mv 10 6,
 q (.val 11 (.bin .neq) [.t 10,ki 0])]
def r46_2:IC:=(.reg o46_2 [2,3,6,11])
def o46_3:List IOp:=[mv 12 6,
 q (.val 4 .mov [.k (.p (.bool false))]),
 mv 5 12]
def r46_3:IC:=(.reg o46_3 [4,5])
def o46_4:List IOp:=[q (.load 13 (.t 3) 3 true),
 q (.call (some 14) 56 [.t 13]),
 mv 7 14]
def r46_4:IC:=(.reg o46_4 [2,3,7])
def o46_5:List IOp:=[mv 15 7,
 q (.val 16 (.bin .neq) [.t 15,ki 0])]
def r46_5:IC:=(.reg o46_5 [2,3,7,16])
def o46_6:List IOp:=[mv 17 7,
 q (.val 4 .mov [.k (.p (.bool false))]),
 mv 5 17]
def r46_6:IC:=(.reg o46_6 [4,5])
def o46_7:List IOp:=[q (.load 18 (.t 2) 3 true),
 q (.load 19 (.t 3) 3 true),
 q (.call (some 20) 57 [.t 18,.t 19]),
 mv 4 20,
 q (.val 5 .mov [ki 0])]
def r46_7:IC:=(.reg o46_7 [4,5])
def b46:IC:=(.seq r46_0 (.seq (.seq r46_1 (.seq r46_2 (.cond (.t 11) (.seq r46_3 .ret) .skip))) (.kp [2,3] (.seq (.seq r46_4 (.seq r46_5 (.cond (.t 16) (.seq r46_6 .ret) .skip))) (.kp [2,3] (.seq r46_7 .ret))))))
def i46:IFn:=⟨2,21,b46,[.tmp 4,.tmp 5]⟩
def o48_0:List IOp:=[q (.val 2 .mov [ki 0]),
 q (.val 3 .mov [ki 0])]
def r48_0:IC:=(.reg o48_0 [0])
def o48_1:List IOp:=[mv 9 0,
 q (.call (some 10) 60 [.t 9]),
 mv 4 10]
def r48_1:IC:=(.reg o48_1 [0,4])
def o48_2:List IOp:=[mv 11 4,
 q (.val 12 (.bin .neq) [.t 11,ki 0])]
def r48_2:IC:=(.reg o48_2 [0,4,12])
def o48_3:List IOp:=[mv 13 4,
 q (.val 2 .mov [ki 0]),
 mv 3 13]
def r48_3:IC:=(.reg o48_3 [2,3])
def o48_4:List IOp:=[mv 14 0,
 q (.val 15 .len [.t 14]),
 q (.mkSl 16 (.t 15) (.t 15) [.int .i64 0] 8),
 mv 5 16]
def r48_4:IC:=(.reg o48_4 [0,5])
def o48_5:List IOp:=[mv 17 0,
 q (.val 18 .len [.t 17]),
 q (.val 19 .mov [ki 0])]
def r48_5:IC:=(.reg o48_5 [5,17,18,19])
def o48_6:List IOp:=[q (.val 20 (.bin .lss) [.t 19,.t 18])]
def r48_6:IC:=(.reg o48_6 [5,17,18,19,20])
def o48_7:List IOp:=[mv 21 19,
 q (.val 22 (.iaddrS 3) [.t 17,.t 19]),
 q (.load 23 (.t 22) 3 true),
 q (.newL 7 [.p (.int .i64 0),.p (.int .i64 0),.p (.int .i64 0)]),
 mv 6 21,
 q (.store (.t 7) (.t 23) 3)]
def r48_7:IC:=(.reg o48_7 [5,6,7,17,18,19])
def o48_8:List IOp:=[mv 24 5,
 mv 25 6,
 q (.val 26 (.faddr 0) [.t 7]),
 q (.load 27 (.t 26) 1 false),
 q (.val 28 (.iaddrS 1) [.t 24,.t 25]),
 q (.store (.t 28) (.t 27) 1)]
def r48_8:IC:=(.reg o48_8 [5,17,18,19])
def o48_9:List IOp:=[q (.val 29 (.bin .add) [.t 19,ki 1]),
 mv 19 29]
def r48_9:IC:=(.reg o48_9 [5,17,18,19])
def l48_1:IC:=(.seq r48_6 (.seq (.cond (.t 20) .skip (.kp [5] (.exit 0))) (.kp [5,17,18,19] (.seq (.block 1 (.seq r48_7 r48_8)) r48_9))))
def o48_10:List IOp:=[mv 30 5,
 q (.call (some 31) 61 [ki 960,.t 30]),
 mv 8 31]
def r48_10:IC:=(.reg o48_10 [8])
def o48_11:List IOp:=[mv 32 8,
 q (.val 33 (.bin .gtr) [.t 32,ki 960])]
def r48_11:IC:=(.reg o48_11 [8,33])
def o48_12:List IOp:=[q (.val 2 .mov [ki 0]),
 q (.val 3 .mov [ki 6])]
def r48_12:IC:=(.reg o48_12 [2,3])
def o48_13:List IOp:=[mv 34 8,
 mv 2 34,
 q (.val 3 .mov [ki 0])]
def r48_13:IC:=(.reg o48_13 [2,3])
def b48:IC:=(.seq r48_0 (.seq (.seq r48_1 (.seq r48_2 (.cond (.t 12) (.seq r48_3 .ret) .skip))) (.kp [0] (.seq r48_4 (.seq (.seq r48_5 (.block 0 (.loop l48_1))) (.seq r48_10 (.seq (.seq r48_11 (.cond (.t 33) (.seq r48_12 .ret) .skip)) (.kp [8] (.seq r48_13 .ret)))))))))
def i48:IFn:=⟨1,35,b48,[.tmp 2,.tmp 3]⟩
def o49_0:List IOp:=[q (.boxL 1 (.t 0)),
 q (.val 2 .mov [ki 0])]
def r49_0:IC:=(.reg o49_0 [1])
def o49_1:List IOp:=[q (.val 8 (.faddr 0) [.t 1]),
 q (.load 9 (.t 8) 1 false),
 q (.val 10 (.bin .lss) [.t 9,ki 2]),
 mv 11 10,
 ⟨(some (11,false)),.val 12 (.faddr 0) [.t 1],[],none⟩,
 ⟨(some (11,false)),.load 13 (.t 12) 1 false,[],none⟩,
 ⟨(some (11,false)),.val 14 (.bin .gtr) [.t 13,ki 12],[],none⟩,
 q (.val 15 .pick [.t 11,.k (.p (.bool true)),.t 14]),
 mv 16 15,
 ⟨(some (16,false)),.val 17 (.faddr 1) [.t 1],[],none⟩,
 ⟨(some (16,false)),.load 18 (.t 17) 1 false,[],none⟩,
 ⟨(some (16,false)),.val 19 .len [.t 18],[],none⟩,
 ⟨(some (16,false)),.val 20 (.faddr 0) [.t 1],[],none⟩,
 ⟨(some (16,false)),.load 21 (.t 20) 1 false,[],none⟩,
 ⟨(some (16,false)),.val 22 (.bin .neq) [.t 19,.t 21],[],none⟩,
 q (.val 23 .pick [.t 16,.k (.p (.bool true)),.t 22])]
def r49_1:IC:=(.reg o49_1 [1,23])
def o49_2:List IOp:=[q (.val 2 .mov [ki 260])]
def r49_2:IC:=(.reg o49_2 [2])
def o49_3:List IOp:=[q (.val 24 (.faddr 2) [.t 1]),
 q (.load 25 (.t 24) 1 false),
 q (.val 26 .len [.t 25]),
 q (.val 27 (.bin .gtr) [.t 26,ki 24]),
 mv 28 27,
 ⟨(some (28,false)),.load 29 (.t 1) 3 true,[],none⟩,
 ⟨(some (28,false)),.call (some 30) 62 [.t 29],[],none⟩,
 ⟨(some (28,false)),.val 31 .not [.t 30],[],none⟩,
 q (.val 32 .pick [.t 28,.k (.p (.bool true)),.t 31])]
def r49_3:IC:=(.reg o49_3 [1,32])
def o49_4:List IOp:=[q (.val 2 .mov [ki 260])]
def r49_4:IC:=(.reg o49_4 [2])
def o49_5:List IOp:=[q (.val 33 (.faddr 0) [.t 1]),
 q (.load 34 (.t 33) 1 false),
 q (.mkSl 35 (.t 34) (.t 34) [.int .i64 0] 8),
 mv 3 35]
def r49_5:IC:=(.reg o49_5 [1,3])
def o49_6:List IOp:=[q (.val 36 (.faddr 2) [.t 1]),
 q (.load 37 (.t 36) 1 false),
 q (.val 38 .len [.t 37]),
 q (.val 39 .mov [ki 0])]
def r49_6:IC:=(.reg o49_6 [1,3,37,38,39])
def o49_7:List IOp:=[q (.val 40 (.bin .lss) [.t 39,.t 38])]
def r49_7:IC:=(.reg o49_7 [1,3,37,38,39,40])
def o49_8:List IOp:=[q (.val 41 (.iaddrS 4) [.t 37,.t 39]),
 q (.load 42 (.t 41) 4 true),
 q (.newL 5 [.p (.int .i64 0),.p (.int .i64 0),.p (.int .i64 0),.p (.int .i64 0)]),
 q (.store (.t 5) (.t 42) 4)]
def r49_8:IC:=(.reg o49_8 [1,3,5,37,38,39])
def o49_9:List IOp:=[mv 43 3,
 q (.val 44 (.faddr 0) [.t 5]),
 q (.load 45 (.t 44) 1 false),
 q (.val 46 (.iaddrS 1) [.t 43,.t 45]),
 q (.load 47 (.t 46) 1 false),
 q (.val 48 (.bin .add) [.t 47,ki 1]),
 q (.val 49 (.iaddrS 1) [.t 43,.t 45]),
 q (.store (.t 49) (.t 48) 1)]
def r49_9:IC:=(.reg o49_9 [1,3,5,37,38,39])
def o49_10:List IOp:=[mv 50 3,
 q (.val 51 (.faddr 1) [.t 5]),
 q (.load 52 (.t 51) 1 false),
 q (.val 53 (.iaddrS 1) [.t 50,.t 52]),
 q (.load 54 (.t 53) 1 false),
 q (.val 55 (.bin .add) [.t 54,ki 1]),
 q (.val 56 (.iaddrS 1) [.t 50,.t 52]),
 q (.store (.t 56) (.t 55) 1)]
def r49_10:IC:=(.reg o49_10 [1,3,37,38,39])
def o49_11:List IOp:=[q (.val 57 (.bin .add) [.t 39,ki 1]),
 mv 39 57]
def r49_11:IC:=(.reg o49_11 [1,3,37,38,39])
def l49_1:IC:=(.seq r49_7 (.seq (.cond (.t 40) .skip (.kp [1,3] (.exit 0))) (.kp [1,3,37,38,39] (.seq (.block 1 (.seq r49_8 (.seq r49_9 r49_10))) r49_11))))
def o49_12:List IOp:=[q (.val 58 (.faddr 1) [.t 1]),
 q (.load 59 (.t 58) 1 false),
 q (.val 60 .len [.t 59]),
 q (.val 61 .mov [ki 0])]
def r49_12:IC:=(.reg o49_12 [1,3,59,60,61])
def o49_13:List IOp:=[q (.val 62 (.bin .lss) [.t 61,.t 60])]
def r49_13:IC:=(.reg o49_13 [1,3,59,60,61,62])
def o49_14:List IOp:=[mv 63 61,
 q (.val 64 (.iaddrS 1) [.t 59,.t 61]),
 q (.load 65 (.t 64) 1 false),
 mv 6 63,
 mv 7 65]
def r49_14:IC:=(.reg o49_14 [1,3,6,7,59,60,61])
def o49_15:List IOp:=[mv 66 7,
 mv 67 66,
 ⟨(some (67,true)),.val 68 .mov [.t 3],[],none⟩,
 ⟨(some (67,true)),.val 69 .mov [.t 6],[],none⟩,
 ⟨(some (67,true)),.val 70 (.iaddrS 1) [.t 68,.t 69],[],none⟩,
 ⟨(some (67,true)),.load 71 (.t 70) 1 false,[],none⟩,
 ⟨(some (67,true)),.val 72 (.bin .lss) [.t 71,ki 1],[],none⟩,
 ⟨(some (67,true)),.val 73 .mov [.t 72],[],none⟩,
 ⟨(some (73,false)),.val 74 .mov [.t 3],[],none⟩,
 ⟨(some (73,false)),.val 75 .mov [.t 6],[],none⟩,
 ⟨(some (73,false)),.val 76 (.iaddrS 1) [.t 74,.t 75],[],none⟩,
 ⟨(some (73,false)),.load 77 (.t 76) 1 false,[],none⟩,
 ⟨(some (73,false)),.val 78 (.bin .gtr) [.t 77,ki 2],[],none⟩,
 ⟨(some (67,true)),.val 79 .pick [.t 73,.k (.p (.bool true)),.t 78],[],none⟩,
 q (.val 80 .pick [.t 67,.t 79,.k (.p (.bool false))])]
def r49_15:IC:=(.reg o49_15 [1,3,59,60,61,80])
def o49_16:List IOp:=[q (.val 2 .mov [ki 260])]
def r49_16:IC:=(.reg o49_16 [2])
def o49_17:List IOp:=[q (.val 81 (.bin .add) [.t 61,ki 1]),
 mv 61 81]
def r49_17:IC:=(.reg o49_17 [1,3,59,60,61])
def l49_2:IC:=(.seq r49_13 (.seq (.cond (.t 62) .skip (.kp [1] (.exit 2))) (.kp [1,3,59,60,61] (.seq (.block 3 (.seq r49_14 (.seq r49_15 (.cond (.t 80) (.seq r49_16 .ret) .skip)))) (.kp [1,3,59,60,61] r49_17)))))
def o49_18:List IOp:=[q (.load 82 (.t 1) 3 true),
 q (.val 83 (.build (List.replicate 24 (.p (.bool false))) []) []),
 q (.call (some 84) 64 [.t 82,ki 0,.t 83]),
 q (.call (some 85) 63 [.t 84,.k (.p (.bool false))])]
def r49_18:IC:=(.reg o49_18 [85])
def o49_19:List IOp:=[q (.val 2 .mov [ki 260])]
def r49_19:IC:=(.reg o49_19 [2])
def o49_20:List IOp:=[q (.val 2 .mov [ki 0])]
def r49_20:IC:=(.reg o49_20 [2])
def b49:IC:=(.seq r49_0 (.seq (.seq r49_1 (.cond (.t 23) (.seq r49_2 .ret) .skip)) (.kp [1] (.seq (.seq r49_3 (.cond (.t 32) (.seq r49_4 .ret) .skip)) (.kp [1] (.seq r49_5 (.seq (.seq r49_6 (.block 0 (.loop l49_1))) (.seq (.seq r49_12 (.block 2 (.loop l49_2))) (.seq (.seq r49_18 (.cond (.t 85) (.seq r49_19 .ret) .skip)) (.kp [] (.seq r49_20 .ret)))))))))))
def i49:IFn:=⟨1,86,b49,[.tmp 2]⟩
def o50_0:List IOp:=[q (.boxH 2 (.t 0)),
 q (.boxH 3 (.t 1)),
 q (.val 4 .mov [.k (.p (.bool false))])]
def r50_0:IC:=(.reg o50_0 [2,3])
def o50_1:List IOp:=[q (.val 8 (.mkfn 65 0) [.t 3]),
 q (.val 9 (.mkfn 66 0) [.t 2,.t 3]),
 q (.val 10 (.mkfn 68 0) [.t 3]),
 q (.val 11 (.mkfn 69 0) [.t 3]),
 q (.val 12 (.mkfn 70 0) [.t 3]),
 q (.val 13 (.mkfn 72 0) [.t 3]),
 q (.val 14 (.mkfn 73 0) [.t 3,.t 2]),
 q (.val 15 (.mkfn 75 0) [.t 3,.t 2]),
 q (.sp (some 16) .litC [.t 8,.t 9,.t 10,.t 11,.t 12,.t 13,.t 14,.t 15]),
 mv 5 16]
def r50_1:IC:=(.reg o50_1 [5])
def o50_2:List IOp:=[mv 17 5,
 q (.val 18 .len [.t 17]),
 q (.val 19 .mov [ki 0])]
def r50_2:IC:=(.reg o50_2 [17,18,19])
def o50_3:List IOp:=[q (.val 20 (.bin .lss) [.t 19,.t 18])]
def r50_3:IC:=(.reg o50_3 [17,18,19,20])
def o50_4:List IOp:=[q (.val 21 (.iaddrS 1) [.t 17,.t 19]),
 q (.load 22 (.t 21) 1 false),
 mv 7 22]
def r50_4:IC:=(.reg o50_4 [7,17,18,19])
def o50_5:List IOp:=[mv 23 7,
 q (.callV (some 24) (.t 23) []),
 q (.val 25 .not [.t 24])]
def r50_5:IC:=(.reg o50_5 [17,18,19,25])
def o50_6:List IOp:=[q (.val 4 .mov [.k (.p (.bool false))])]
def r50_6:IC:=(.reg o50_6 [4])
def o50_7:List IOp:=[q (.val 26 (.bin .add) [.t 19,ki 1]),
 mv 19 26]
def r50_7:IC:=(.reg o50_7 [17,18,19])
def l50_1:IC:=(.seq r50_3 (.seq (.cond (.t 20) .skip (.kp [] (.exit 0))) (.kp [17,18,19] (.seq (.block 1 (.seq r50_4 (.seq r50_5 (.cond (.t 25) (.seq r50_6 .ret) .skip)))) (.kp [17,18,19] r50_7)))))
def o50_8:List IOp:=[q (.val 4 .mov [.k (.p (.bool true))])]
def r50_8:IC:=(.reg o50_8 [4])
def b50:IC:=(.seq r50_0 (.seq r50_1 (.seq (.seq r50_2 (.block 0 (.loop l50_1))) (.seq r50_8 .ret))))
def i50:IFn:=⟨2,27,b50,[.tmp 4]⟩
def o51_0:List IOp:=[q (.val 6 .mov [.k (.p (.bool false))])]
def r51_0:IC:=(.reg o51_0 [0,1,2])
def o51_1:List IOp:=[mv 7 0,
 mv 8 1,
 q (.val 9 (.bin .geq) [.t 7,.t 8]),
 mv 10 9,
 ⟨(some (10,true)),.val 11 .mov [.t 0],[],none⟩,
 ⟨(some (10,true)),.val 12 .mov [.t 2],[],none⟩,
 ⟨(some (10,true)),.val 13 (.bin .leq) [.t 11,.t 12],[],none⟩,
 q (.val 14 .pick [.t 10,.t 13,.k (.p (.bool false))]),
 mv 6 14]
def r51_1:IC:=(.reg o51_1 [6])
def b51:IC:=(.seq r51_0 (.seq r51_1 .ret))
def i51:IFn:=⟨3,15,b51,[.tmp 6]⟩
def o52_0:List IOp:=[q (.boxL 4 (.t 0)),
 q (.boxL 5 (.t 1)),
 q (.boxL 6 (.t 2)),
 q (.val 8 .mov [.k (.p (.sl 5 true []))]),
 q (.val 9 .mov [ki 0])]
def r52_0:IC:=(.reg o52_0 [3,4,5,6])
def o52_1:List IOp:=[q (.load 13 (.t 4) 3 true),
 q (.load 14 (.t 5) 4 true),
 q (.load 15 (.t 6) 10 true),
 mv 16 3,
 q (.call (some 17) 77 [.t 13,.t 14,.t 15,.t 16]),
 mv 10 17]
def r52_1:IC:=(.reg o52_1 [3,4,5,6,10])
def o52_2:List IOp:=[mv 18 10,
 q (.val 19 (.bin .neq) [.t 18,ki 0])]
def r52_2:IC:=(.reg o52_2 [3,4,5,6,10,19])
def o52_3:List IOp:=[mv 20 10,
 q (.val 8 .mov [.k (.p (.sl 5 true []))]),
 mv 9 20]
def r52_3:IC:=(.reg o52_3 [8,9])
def o52_4:List IOp:=[q (.newH 11 [.p (.sl 5 true [])])]
def r52_4:IC:=(.reg o52_4 [3,4,5,6,11])
def o52_5:List IOp:=[q (.load 21 (.t 4) 3 true),
 q (.load 22 (.t 5) 4 true),
 q (.load 23 (.t 6) 10 true),
 mv 24 3,
 q (.call (some 25) 78 [.t 21,.t 22,.t 23,.t 24])]
def r52_5:IC:=(.reg o52_5 [11,25])
def o52_6:List IOp:=[q (.newL 12 [.p (.int .i64 0),.p (.int .i64 0),.p (.int .i64 0),.p (.int .i64 0),.p (.int .i64 0)]),
 q (.store (.t 12) (.t 26) 5)]
def r52_6:IC:=(.reg o52_6 [11,12])
def o52_7:List IOp:=[q (.load 27 (.t 11) 1 false),
 q (.load 28 (.t 12) 5 true),
 q (.litP 29 5 [.t 28]),
 q (.app 30 (.t 27) (.t 29) 5 40),
 q (.store (.t 11) (.t 30) 1)]
def r52_7:IC:=(.reg o52_7 [])
def Zcu:IC:=r52_6
def Zcs:IC:=(.block 1 r52_7)
def o52_8:List IOp:=[q (.load 31 (.t 11) 1 false),
 mv 8 31,
 q (.val 9 .mov [ki 0])]
def r52_8:IC:=(.reg o52_8 [8,9])
def b52:IC:=(.seq r52_0 (.seq (.seq r52_1 (.seq r52_2 (.cond (.t 19) (.seq r52_3 .ret) .skip))) (.kp [3,4,5,6] (.seq r52_4 (.seq (.seq r52_5 (.block 0 (.rangeF (.t 25) [26] Zcu Zcs))) (.kp [11] (.seq r52_8 .ret)))))))
def i52:IFn:=⟨4,32,b52,[.tmp 8,.tmp 9]⟩
def o53_0:List IOp:=[q (.val 4 .mov [ki 0])]
def r53_0:IC:=(.reg o53_0 [0,1])
def o53_1:List IOp:=[mv 6 0,
 mv 7 1,
 q (.val 8 (.bin .quo) [.t 6,.t 7]),
 mv 5 8]
def r53_1:IC:=(.reg o53_1 [0,1,5])
def o53_2:List IOp:=[mv 9 0,
 mv 10 1,
 q (.val 11 (.bin .rem) [.t 9,.t 10]),
 q (.val 12 (.bin .lss) [.t 11,ki 0])]
def r53_2:IC:=(.reg o53_2 [5,12])
def o53_3:List IOp:=[mv 13 5,
 q (.val 14 (.bin .sub) [.t 13,ki 1]),
 mv 5 14]
def r53_3:IC:=(.reg o53_3 [5])
def o53_4:List IOp:=[mv 15 5,
 mv 4 15]
def r53_4:IC:=(.reg o53_4 [4])
def b53:IC:=(.seq r53_0 (.seq r53_1 (.seq (.seq r53_2 (.cond (.t 12) r53_3 .skip)) (.kp [5] (.seq r53_4 .ret)))))
def i53:IFn:=⟨2,16,b53,[.tmp 4]⟩
def o54_0:List IOp:=[q (.boxH 4 (.t 0)),
 q (.boxH 5 (.t 1)),
 q (.boxL 6 (.t 2)),
 q (.val 8 .mov [ki 0]),
 q (.val 9 .mov [ki 0])]
def r54_0:IC:=(.reg o54_0 [3,4,5,6])
def o54_1:List IOp:=[q (.load 13 (.t 4) 3 true),
 q (.load 14 (.t 5) 4 true),
 q (.load 15 (.t 6) 10 true),
 mv 16 3,
 q (.call (some 17) 77 [.t 13,.t 14,.t 15,.t 16]),
 mv 10 17]
def r54_1:IC:=(.reg o54_1 [3,4,5,6,10])
def o54_2:List IOp:=[mv 18 10,
 q (.val 19 (.bin .neq) [.t 18,ki 0])]
def r54_2:IC:=(.reg o54_2 [3,4,5,6,10,19])
def o54_3:List IOp:=[mv 20 10,
 q (.val 8 .mov [ki 0]),
 mv 9 20]
def r54_3:IC:=(.reg o54_3 [8,9])
def o54_4:List IOp:=[q (.newH 11 [.p (.int .i64 0)]),
 q (.store (.t 11) (ki 0) 1)]
def r54_4:IC:=(.reg o54_4 [3,4,5,6,11])
def o54_5:List IOp:=[q (.load 21 (.t 4) 3 true),
 q (.load 22 (.t 5) 4 true),
 q (.load 23 (.t 6) 10 true),
 mv 24 3,
 q (.call (some 25) 78 [.t 21,.t 22,.t 23,.t 24])]
def r54_5:IC:=(.reg o54_5 [4,5,11,25])
def o54_6:List IOp:=[q (.newL 12 [.p (.int .i64 0),.p (.int .i64 0),.p (.int .i64 0),.p (.int .i64 0),.p (.int .i64 0)]),
 q (.store (.t 12) (.t 26) 5)]
def r54_6:IC:=(.reg o54_6 [4,5,11,12])
def o54_7:List IOp:=[q (.val 27 (.faddr 3) [.t 12]),
 ⟨none,.loadL 28 (.t 27) 1 false,[0],none⟩,
 q (.val 29 (.faddr 4) [.t 12]),
 ⟨none,.loadL 30 (.t 29) 1 false,[2],none⟩,
 ⟨none,.val 31 (.bin .add) [.t 28,.t 30],[0,1,2,3],none⟩,
 q (.val 32 (.faddr 2) [.t 4]),
 ⟨none,.loadH 33 (.t 32) 1 false,[5],none⟩,
 q (.val 34 (.faddr 0) [.t 12]),
 ⟨none,.loadL 35 (.t 34) 1 false,[7],none⟩,
 ⟨none,.val 36 (.bin .quo) [.t 35,ki 2],[7,8],none⟩,
 ⟨none,.val 37 (.iaddrS 4) [.t 33,.t 36],[5,6,7,8,9],none⟩,
 ⟨none,.val 38 (.faddr 3) [.t 37],[5,6,7,8,9,10],none⟩,
 ⟨none,.loadH 39 (.t 38) 1 false,[5,6,7,8,9,10,11],none⟩,
 ⟨none,.val 40 (.bin .add) [.t 31,.t 39],[0,1,2,3,4,5,6,7,8,9,10,11,12],none⟩,
 q (.val 41 (.faddr 2) [.t 5]),
 ⟨none,.loadH 42 (.t 41) 1 false,[14],none⟩,
 ⟨none,.val 43 (.bin .add) [.t 40,.t 42],[0,1,2,3,4,5,6,7,8,9,10,11,12,13,14,15],none⟩,
 ⟨none,.storeH (.t 11) (.t 43) 1,[0,1,2,3,4,5,6,7,8,9,10,11,12,13,14,15,16],none⟩]
def r54_7:IC:=(.regD o54_7 [])
def Zc1:IC:=r54_6
def Zc0:IC:=(.block 1 r54_7)
def o54_8:List IOp:=[q (.load 44 (.t 11) 1 false),
 mv 8 44,
 q (.val 9 .mov [ki 0])]
def r54_8:IC:=(.reg o54_8 [8,9])
def b54:IC:=(.seq r54_0 (.seq (.seq r54_1 (.seq r54_2 (.cond (.t 19) (.seq r54_3 .ret) .skip))) (.kp [3,4,5,6] (.seq r54_4 (.seq (.seq r54_5 (.block 0 (.rangeF (.t 25) [26] Zc1 Zc0))) (.kp [11] (.seq r54_8 .ret)))))))
def i54:IFn:=⟨4,45,b54,[.tmp 8,.tmp 9]⟩
def o55_0:List IOp:=[q (.val 9 (.faddr 1) [.t 1]),
 q (.load 10 (.t 9) 1 false),
 q (.val 11 .len [.t 10]),
 q (.val 12 .mov [ki 0])]
def r55_0:IC:=(.reg o55_0 [0,1,2,3,10,11,12])
def o55_1:List IOp:=[q (.val 13 (.bin .lss) [.t 12,.t 11])]
def r55_1:IC:=(.reg o55_1 [0,1,2,3,10,11,12,13])
def o55_2:List IOp:=[mv 14 12,
 q (.val 15 (.iaddrS 4) [.t 10,.t 12]),
 q (.load 16 (.t 15) 4 true),
 q (.newL 6 [.p (.int .i64 0),.p (.int .i64 0),.p (.int .i64 0),.p (.int .i64 0)]),
 mv 5 14,
 q (.store (.t 6) (.t 16) 4)]
def r55_2:IC:=(.reg o55_2 [0,1,2,3,5,6,10,11,12])
def o55_3:List IOp:=[q (.val 17 (.faddr 0) [.t 6]),
 q (.load 18 (.t 17) 1 false),
 q (.load 19 (.t 2) 1 false),
 q (.val 20 (.bin .neq) [.t 18,.t 19])]
def r55_3:IC:=(.reg o55_3 [0,1,2,3,5,6,10,11,12,20])
def o55_4:List IOp:=[q (.val 21 (.faddr 1) [.t 1]),
 q (.load 22 (.t 21) 1 false),
 q (.val 23 .len [.t 22]),
 q (.val 24 .mov [ki 0])]
def r55_4:IC:=(.reg o55_4 [0,1,2,3,5,6,10,11,12,22,23,24])
def o55_5:List IOp:=[q (.val 25 (.bin .lss) [.t 24,.t 23])]
def r55_5:IC:=(.reg o55_5 [0,1,2,3,5,6,10,11,12,22,23,24,25])
def o55_6:List IOp:=[mv 26 24,
 q (.val 27 (.iaddrS 4) [.t 22,.t 24]),
 q (.load 28 (.t 27) 4 true),
 q (.newL 8 [.p (.int .i64 0),.p (.int .i64 0),.p (.int .i64 0),.p (.int .i64 0)]),
 mv 7 26,
 q (.store (.t 8) (.t 28) 4)]
def r55_6:IC:=(.reg o55_6 [0,1,2,3,5,6,7,8,10,11,12,22,23,24])
def o55_7:List IOp:=[mv 29 7,
 mv 30 5,
 q (.val 31 (.bin .eql) [.t 29,.t 30]),
 mv 32 31,
 ⟨(some (32,false)),.val 33 (.faddr 0) [.t 8],[],none⟩,
 ⟨(some (32,false)),.load 34 (.t 33) 1 false,[],none⟩,
 ⟨(some (32,false)),.load 35 (.t 3) 1 false,[],none⟩,
 ⟨(some (32,false)),.val 36 (.bin .neq) [.t 34,.t 35],[],none⟩,
 q (.val 37 .pick [.t 32,.k (.p (.bool true)),.t 36]),
 mv 38 37,
 ⟨(some (38,false)),.val 39 (.faddr 1) [.t 8],[],none⟩,
 ⟨(some (38,false)),.load 40 (.t 39) 1 false,[],none⟩,
 ⟨(some (38,false)),.val 41 (.faddr 1) [.t 6],[],none⟩,
 ⟨(some (38,false)),.load 42 (.t 41) 1 false,[],none⟩,
 ⟨(some (38,false)),.val 43 (.bin .neq) [.t 40,.t 42],[],none⟩,
 q (.val 44 .pick [.t 38,.k (.p (.bool true)),.t 43])]
def r55_7:IC:=(.reg o55_7 [0,1,2,3,5,6,8,10,11,12,22,23,24,44])
def o55_8:List IOp:=[mv 45 0,
 q (.load 46 (.t 6) 4 true),
 q (.load 47 (.t 8) 4 true),
 q (.callY (some 48) (.t 45) [.t 46,.t 47]),
 q (.val 49 .not [.t 48])]
def r55_8:IC:=(.reg o55_8 [0,1,2,3,5,6,10,11,12,22,23,24,49])
def o55_9:List IOp:=[q (.val 50 (.bin .add) [.t 24,ki 1]),
 mv 24 50]
def r55_9:IC:=(.reg o55_9 [0,1,2,3,5,6,10,11,12,22,23,24])
def l55_2:IC:=(.seq r55_5 (.seq (.cond (.t 25) .skip (.kp [0,1,2,3,10,11,12] (.exit 2))) (.kp [0,1,2,3,5,6,10,11,12,22,23,24] (.seq (.block 3 (.seq r55_6 (.seq (.seq r55_7 (.cond (.t 44) (.kp [0,1,2,3,5,6,10,11,12,22,23,24] (.exit 3)) .skip)) (.kp [0,1,2,3,5,6,8,10,11,12,22,23,24] (.seq r55_8 (.cond (.t 49) .ret .skip)))))) (.kp [0,1,2,3,5,6,10,11,12,22,23,24] r55_9)))))
def o55_10:List IOp:=[q (.val 51 (.bin .add) [.t 12,ki 1]),
 mv 12 51]
def r55_10:IC:=(.reg o55_10 [0,1,2,3,10,11,12])
def l55_1:IC:=(.seq r55_1 (.seq (.cond (.t 13) .skip (.kp [] (.exit 0))) (.kp [0,1,2,3,10,11,12] (.seq (.block 1 (.seq r55_2 (.seq (.seq r55_3 (.cond (.t 20) (.kp [0,1,2,3,10,11,12] (.exit 1)) .skip)) (.kp [0,1,2,3,5,6,10,11,12] (.seq r55_4 (.block 2 (.loop l55_2))))))) (.kp [0,1,2,3,10,11,12] r55_10)))))
def b55:IC:=(.seq r55_0 (.block 0 (.loop l55_1)))
def i55:IFn:=⟨4,52,b55,[]⟩
def o56_0:List IOp:=[q (.boxL 1 (.t 0)),
 q (.val 2 .mov [ki 0])]
def r56_0:IC:=(.reg o56_0 [1])
def o56_1:List IOp:=[q (.val 3 (.faddr 0) [.t 1]),
 q (.load 4 (.t 3) 1 false),
 q (.val 5 (.bin .lss) [.t 4,ki 1]),
 mv 6 5,
 ⟨(some (6,false)),.val 7 (.faddr 0) [.t 1],[],none⟩,
 ⟨(some (6,false)),.load 8 (.t 7) 1 false,[],none⟩,
 ⟨(some (6,false)),.val 9 (.bin .gtr) [.t 8,ki 960],[],none⟩,
 q (.val 10 .pick [.t 6,.k (.p (.bool true)),.t 9]),
 mv 11 10,
 ⟨(some (11,false)),.val 12 (.faddr 1) [.t 1],[],none⟩,
 ⟨(some (11,false)),.load 13 (.t 12) 1 false,[],none⟩,
 ⟨(some (11,false)),.val 14 (.bin .lss) [.t 13,ki 0],[],none⟩,
 q (.val 15 .pick [.t 11,.k (.p (.bool true)),.t 14]),
 mv 16 15,
 ⟨(some (16,false)),.val 17 (.faddr 1) [.t 1],[],none⟩,
 ⟨(some (16,false)),.load 18 (.t 17) 1 false,[],none⟩,
 ⟨(some (16,false)),.val 19 (.faddr 0) [.t 1],[],none⟩,
 ⟨(some (16,false)),.load 20 (.t 19) 1 false,[],none⟩,
 ⟨(some (16,false)),.val 21 (.bin .geq) [.t 18,.t 20],[],none⟩,
 q (.val 22 .pick [.t 16,.k (.p (.bool true)),.t 21])]
def r56_1:IC:=(.reg o56_1 [1,22])
def o56_2:List IOp:=[q (.val 2 .mov [ki 330])]
def r56_2:IC:=(.reg o56_2 [2])
def o56_3:List IOp:=[q (.val 23 (.faddr 2) [.t 1]),
 q (.load 24 (.t 23) 1 false),
 q (.val 25 (.bin .lss) [.t 24,ki 1]),
 mv 26 25,
 ⟨(some (26,false)),.val 27 (.faddr 2) [.t 1],[],none⟩,
 ⟨(some (26,false)),.load 28 (.t 27) 1 false,[],none⟩,
 ⟨(some (26,false)),.val 29 (.faddr 0) [.t 1],[],none⟩,
 ⟨(some (26,false)),.load 30 (.t 29) 1 false,[],none⟩,
 ⟨(some (26,false)),.val 31 (.bin .gtr) [.t 28,.t 30],[],none⟩,
 q (.val 32 .pick [.t 26,.k (.p (.bool true)),.t 31])]
def r56_3:IC:=(.reg o56_3 [32])
def o56_4:List IOp:=[q (.val 2 .mov [ki 330])]
def r56_4:IC:=(.reg o56_4 [2])
def o56_5:List IOp:=[q (.val 2 .mov [ki 0])]
def r56_5:IC:=(.reg o56_5 [2])
def b56:IC:=(.seq r56_0 (.seq (.seq r56_1 (.cond (.t 22) (.seq r56_2 .ret) .skip)) (.kp [1] (.seq (.seq r56_3 (.cond (.t 32) (.seq r56_4 .ret) .skip)) (.kp [] (.seq r56_5 .ret))))))
def i56:IFn:=⟨1,33,b56,[.tmp 2]⟩
def o57_0:List IOp:=[q (.boxL 2 (.t 0)),
 q (.boxL 3 (.t 1)),
 q (.val 4 .mov [.k (.p (.bool false))])]
def r57_0:IC:=(.reg o57_0 [2,3])
def o57_1:List IOp:=[q (.load 9 (.t 2) 3 true),
 q (.load 10 (.t 3) 3 true),
 q (.val 11 (.eqS false [true,true,true]) [.t 9,.t 10])]
def r57_1:IC:=(.reg o57_1 [2,3,11])
def o57_2:List IOp:=[q (.val 4 .mov [.k (.p (.bool false))])]
def r57_2:IC:=(.reg o57_2 [4])
def o57_3:List IOp:=[q (.load 13 (.t 2) 3 true),
 q (.load 14 (.t 3) 3 true),
 q (.call (some 15) 79 [.t 13,.t 14]),
 mv 12 15,
 q (.val 16 (.ext 0) [.t 12]),
 q (.val 17 (.ext 1) [.t 12]),
 q (.val 18 (.ext 2) [.t 12]),
 mv 5 16,
 mv 6 17,
 mv 7 18]
def r57_3:IC:=(.reg o57_3 [2,3,5,6,7])
def o57_4:List IOp:=[q (.val 19 (.faddr 1) [.t 3]),
 q (.load 20 (.t 19) 1 false),
 q (.val 21 (.faddr 1) [.t 2]),
 q (.load 22 (.t 21) 1 false),
 q (.val 23 (.bin .sub) [.t 20,.t 22]),
 mv 24 7,
 q (.call (some 25) 80 [.t 23,.t 24]),
 mv 8 25]
def r57_4:IC:=(.reg o57_4 [5,6,8])
def o57_5:List IOp:=[mv 26 5,
 mv 27 8,
 q (.val 28 (.bin .leq) [.t 26,.t 27]),
 mv 29 28,
 ⟨(some (29,true)),.val 30 .mov [.t 8],[],none⟩,
 ⟨(some (29,true)),.val 31 .mov [.t 6],[],none⟩,
 ⟨(some (29,true)),.val 32 (.bin .leq) [.t 30,.t 31],[],none⟩,
 q (.val 33 .pick [.t 29,.t 32,.k (.p (.bool false))]),
 mv 4 33]
def r57_5:IC:=(.reg o57_5 [4])
def b57:IC:=(.seq r57_0 (.seq (.seq r57_1 (.cond (.t 11) (.seq r57_2 .ret) .skip)) (.kp [2,3] (.seq r57_3 (.seq r57_4 (.seq r57_5 .ret))))))
def i57:IFn:=⟨2,34,b57,[.tmp 4]⟩
def o60_0:List IOp:=[q (.val 2 .mov [ki 0])]
def r60_0:IC:=(.reg o60_0 [0])
def o60_1:List IOp:=[mv 6 0,
 q (.val 7 .len [.t 6]),
 q (.val 8 (.bin .gtr) [.t 7,ki 32])]
def r60_1:IC:=(.reg o60_1 [0,8])
def o60_2:List IOp:=[q (.val 2 .mov [ki 3])]
def r60_2:IC:=(.reg o60_2 [2])
def o60_3:List IOp:=[mv 9 0,
 q (.val 10 .len [.t 9]),
 q (.val 11 .mov [ki 0])]
def r60_3:IC:=(.reg o60_3 [9,10,11])
def o60_4:List IOp:=[q (.val 12 (.bin .lss) [.t 11,.t 10])]
def r60_4:IC:=(.reg o60_4 [9,10,11,12])
def o60_5:List IOp:=[q (.val 13 (.iaddrS 3) [.t 9,.t 11]),
 q (.load 14 (.t 13) 3 true),
 q (.newL 4 [.p (.int .i64 0),.p (.int .i64 0),.p (.int .i64 0)]),
 q (.store (.t 4) (.t 14) 3)]
def r60_5:IC:=(.reg o60_5 [4,9,10,11])
def o60_6:List IOp:=[q (.load 15 (.t 4) 3 true),
 q (.call (some 16) 56 [.t 15]),
 mv 5 16]
def r60_6:IC:=(.reg o60_6 [5,9,10,11])
def o60_7:List IOp:=[mv 17 5,
 q (.val 18 (.bin .neq) [.t 17,ki 0])]
def r60_7:IC:=(.reg o60_7 [5,9,10,11,18])
def o60_8:List IOp:=[mv 19 5,
 mv 2 19]
def r60_8:IC:=(.reg o60_8 [2])
def o60_9:List IOp:=[q (.val 20 (.bin .add) [.t 11,ki 1]),
 mv 11 20]
def r60_9:IC:=(.reg o60_9 [9,10,11])
def l60_1:IC:=(.seq r60_4 (.seq (.cond (.t 12) .skip (.kp [] (.exit 0))) (.kp [9,10,11] (.seq (.block 1 (.seq r60_5 (.seq r60_6 (.seq r60_7 (.cond (.t 18) (.seq r60_8 .ret) .skip))))) (.kp [9,10,11] r60_9)))))
def o60_10:List IOp:=[q (.val 2 .mov [ki 0])]
def r60_10:IC:=(.reg o60_10 [2])
def b60:IC:=(.seq r60_0 (.seq (.seq r60_1 (.cond (.t 8) (.seq r60_2 .ret) .skip)) (.kp [0] (.seq (.seq r60_3 (.block 0 (.loop l60_1))) (.seq r60_10 .ret)))))
def i60:IFn:=⟨1,21,b60,[.tmp 2]⟩
def o61_0:List IOp:=[q (.val 4 .mov [ki 0])]
def r61_0:IC:=(.reg o61_0 [0,1])
def o61_1:List IOp:=[q (.val 5 .mov [ki 1])]
def r61_1:IC:=(.reg o61_1 [0,1,5])
def o61_2:List IOp:=[mv 8 1,
 q (.val 9 .len [.t 8]),
 q (.val 10 .mov [ki 0])]
def r61_2:IC:=(.reg o61_2 [0,5,8,9,10])
def o61_3:List IOp:=[q (.val 11 (.bin .lss) [.t 10,.t 9])]
def r61_3:IC:=(.reg o61_3 [0,5,8,9,10,11])
def o61_4:List IOp:=[q (.val 12 (.iaddrS 1) [.t 8,.t 10]),
 q (.load 13 (.t 12) 1 false),
 mv 7 13]
def r61_4:IC:=(.reg o61_4 [0,5,7,8,9,10])
def o61_5:List IOp:=[mv 14 5,
 mv 15 5,
 mv 16 7,
 q (.call (some 17) 81 [.t 15,.t 16]),
 q (.val 18 (.bin .quo) [.t 14,.t 17]),
 mv 19 7,
 q (.val 20 (.bin .mul) [.t 18,.t 19]),
 mv 5 20]
def r61_5:IC:=(.reg o61_5 [0,5,8,9,10])
def o61_6:List IOp:=[mv 21 5,
 mv 22 0,
 q (.val 23 (.bin .gtr) [.t 21,.t 22])]
def r61_6:IC:=(.reg o61_6 [0,5,8,9,10,23])
def o61_7:List IOp:=[q (.val 24 (.bin .add) [.t 10,ki 1]),
 mv 10 24]
def r61_7:IC:=(.reg o61_7 [0,5,8,9,10])
def l61_1:IC:=(.seq r61_3 (.seq (.cond (.t 11) .skip (.kp [5] (.exit 0))) (.kp [0,5,8,9,10] (.seq (.block 1 (.seq r61_4 (.seq r61_5 (.seq r61_6 (.cond (.t 23) (.kp [5] (.exit 0)) .skip))))) (.kp [0,5,8,9,10] r61_7)))))
def o61_8:List IOp:=[mv 25 5,
 mv 4 25]
def r61_8:IC:=(.reg o61_8 [4])
def b61:IC:=(.seq r61_0 (.seq r61_1 (.seq (.seq r61_2 (.block 0 (.loop l61_1))) (.seq r61_8 .ret))))
def i61:IFn:=⟨2,26,b61,[.tmp 4]⟩
def o62_0:List IOp:=[q (.boxH 1 (.t 0)),
 q (.val 2 .mov [.k (.p (.bool false))])]
def r62_0:IC:=(.reg o62_0 [1])
def o62_1:List IOp:=[q (.val 7 (.mkfn 82 0) [.t 1]),
 q (.val 8 (.mkfn 84 0) [.t 1]),
 q (.val 9 (.mkfn 85 0) [.t 1]),
 q (.val 10 (.mkfn 86 0) [.t 1]),
 q (.val 11 (.build [.nl .nilFunc,.nl .nilFunc,.nl .nilFunc,.nl .nilFunc] [(0,1),(1,1),(2,1),(3,1)]) [.t 7,.t 8,.t 9,.t 10]),
 q (.newL 3 [.nl .nilFunc,.nl .nilFunc,.nl .nilFunc,.nl .nilFunc]),
 q (.store (.t 3) (.t 11) 4)]
def r62_1:IC:=(.reg o62_1 [1,3])
def o62_2:List IOp:=[q (.val 12 (.faddr 2) [.t 1]),
 q (.load 13 (.t 12) 1 false),
 q (.val 14 .len [.t 13]),
 q (.val 15 .mov [ki 0])]
def r62_2:IC:=(.reg o62_2 [3,14,15])
def o62_3:List IOp:=[q (.val 16 (.bin .lss) [.t 15,.t 14])]
def r62_3:IC:=(.reg o62_3 [3,14,15,16])
def o62_4:List IOp:=[mv 17 15,
 mv 4 17]
def r62_4:IC:=(.reg o62_4 [3,4,14,15])
def o62_5:List IOp:=[q (.load 18 (.t 3) 4 true),
 q (.val 19 .mov [ki 0])]
def r62_5:IC:=(.reg o62_5 [3,4,14,15,18,19])
def o62_6:List IOp:=[q (.val 20 (.bin .lss) [.t 19,ki 4])]
def r62_6:IC:=(.reg o62_6 [3,4,14,15,18,19,20])
def o62_7:List IOp:=[q (.val 21 (.idx 4 1 false) [.t 18,.t 19]),
 mv 6 21]
def r62_7:IC:=(.reg o62_7 [3,4,6,14,15,18,19])
def o62_8:List IOp:=[mv 22 6,
 mv 23 4,
 q (.callV (some 24) (.t 22) [.t 23]),
 q (.val 25 .not [.t 24])]
def r62_8:IC:=(.reg o62_8 [3,4,14,15,18,19,25])
def o62_9:List IOp:=[q (.val 2 .mov [.k (.p (.bool false))])]
def r62_9:IC:=(.reg o62_9 [2])
def o62_10:List IOp:=[q (.val 26 (.bin .add) [.t 19,ki 1]),
 mv 19 26]
def r62_10:IC:=(.reg o62_10 [3,4,14,15,18,19])
def l62_2:IC:=(.seq r62_6 (.seq (.cond (.t 20) .skip (.kp [3,14,15] (.exit 2))) (.kp [3,4,14,15,18,19] (.seq (.block 3 (.seq r62_7 (.seq r62_8 (.cond (.t 25) (.seq r62_9 .ret) .skip)))) (.kp [3,4,14,15,18,19] r62_10)))))
def o62_11:List IOp:=[q (.val 27 (.bin .add) [.t 15,ki 1]),
 mv 15 27]
def r62_11:IC:=(.reg o62_11 [3,14,15])
def l62_1:IC:=(.seq r62_3 (.seq (.cond (.t 16) .skip (.kp [] (.exit 0))) (.kp [3,14,15] (.seq (.block 1 (.seq r62_4 (.seq r62_5 (.block 2 (.loop l62_2))))) r62_11))))
def o62_12:List IOp:=[q (.val 2 .mov [.k (.p (.bool true))])]
def r62_12:IC:=(.reg o62_12 [2])
def b62:IC:=(.seq r62_0 (.seq r62_1 (.seq (.seq r62_2 (.block 0 (.loop l62_1))) (.seq r62_12 .ret))))
def i62:IFn:=⟨1,28,b62,[.tmp 2]⟩
def o63_0:List IOp:=[q (.val 4 .mov [.k (.p (.bool false))])]
def r63_0:IC:=(.reg o63_0 [0,1])
def o63_1:List IOp:=[mv 5 0,
 mv 6 1,
 q (.call (some 7) 87 [.t 5,.t 6]),
 q (.val 8 (.bin .geq) [.t 7,ki 0]),
 mv 4 8]
def r63_1:IC:=(.reg o63_1 [4])
def b63:IC:=(.seq r63_0 (.seq r63_1 .ret))
def i63:IFn:=⟨2,9,b63,[.tmp 4]⟩
def o64_0:List IOp:=[q (.boxL 3 (.t 0)),
 q (.boxL 5 (.t 2)),
 q (.val 6 .mov [.k (.p (.sl 1 true []))])]
def r64_0:IC:=(.reg o64_0 [1,3,5])
def o64_1:List IOp:=[q (.val 10 (.faddr 0) [.t 3]),
 q (.load 11 (.t 10) 1 false),
 q (.mkSl 12 (.t 11) (.t 11) [.bool false] 1),
 mv 7 12]
def r64_1:IC:=(.reg o64_1 [1,3,5,7])
def o64_2:List IOp:=[mv 13 7,
 mv 14 1,
 q (.val 15 (.iaddrS 1) [.t 13,.t 14]),
 q (.store (.t 15) (.k (.p (.bool true))) 1)]
def r64_2:IC:=(.reg o64_2 [3,5,7])
def o64_3:List IOp:=[q (.val 16 (.faddr 0) [.t 3]),
 q (.load 17 (.t 16) 1 false),
 q (.val 18 .mov [ki 0])]
def r64_3:IC:=(.reg o64_3 [3,5,7,17,18])
def o64_4:List IOp:=[q (.val 19 (.bin .lss) [.t 18,.t 17])]
def r64_4:IC:=(.reg o64_4 [3,5,7,17,18,19])
def o64_5:List IOp:=[q (.val 20 (.faddr 2) [.t 3]),
 q (.load 21 (.t 20) 1 false),
 q (.val 22 .len [.t 21]),
 q (.val 23 .mov [ki 0])]
def r64_5:IC:=(.reg o64_5 [3,5,7,17,18,21,22,23])
def o64_6:List IOp:=[q (.val 24 (.bin .lss) [.t 23,.t 22])]
def r64_6:IC:=(.reg o64_6 [3,5,7,17,18,21,22,23,24])
def o64_7:List IOp:=[mv 25 23,
 q (.val 26 (.iaddrS 4) [.t 21,.t 23]),
 q (.load 27 (.t 26) 4 true),
 q (.newL 9 [.p (.int .i64 0),.p (.int .i64 0),.p (.int .i64 0),.p (.int .i64 0)]),
 mv 8 25,
 q (.store (.t 9) (.t 27) 4)]
def r64_7:IC:=(.reg o64_7 [3,5,7,8,9,17,18,21,22,23])
def o64_8:List IOp:=[mv 28 8,
 ⟨none,.val 29 (.iaddr 24 1) [.t 5,.t 28],[0],none⟩,
 ⟨none,.loadL 30 (.t 29) 1 false,[0,1],none⟩,
 ⟨none,.val 31 .not [.t 30],[0,1,2],none⟩,
 ⟨none,.val 32 .mov [.t 31],[0,1,2,3],none⟩,
 ⟨(some (32,true)),.val 33 .mov [.t 7],[0,1,2,3,4],none⟩,
 ⟨(some (32,true)),.val 34 (.faddr 0) [.t 9],[0,1,2,3,4],none⟩,
 ⟨(some (32,true)),.loadL 35 (.t 34) 1 false,[0,1,2,3,4,6],none⟩,
 ⟨(some (32,true)),.val 36 (.iaddrS 1) [.t 33,.t 35],[0,1,2,3,4,5,6,7],none⟩,
 ⟨(some (32,true)),.loadH 37 (.t 36) 1 false,[0,1,2,3,4,5,6,7,8],none⟩,
 ⟨(some (32,true)),.val 38 .mov [.t 7],[0,1,2,3,4],none⟩,
 ⟨(some (32,true)),.val 39 (.faddr 1) [.t 9],[0,1,2,3,4],none⟩,
 ⟨(some (32,true)),.loadL 40 (.t 39) 1 false,[0,1,2,3,4,11],none⟩,
 ⟨(some (32,true)),.val 41 (.iaddrS 1) [.t 38,.t 40],[0,1,2,3,4,10,11,12],none⟩,
 ⟨(some (32,true)),.loadH 42 (.t 41) 1 false,[0,1,2,3,4,10,11,12,13],none⟩,
 ⟨(some (32,true)),.val 43 (.eqB true) [.t 37,.t 42],[0,1,2,3,4,5,6,7,8,9,10,11,12,13,14],none⟩,
 ⟨none,.val 44 .pick [.t 32,.t 43,.k (.p (.bool false))],[0,1,2,3,4,5,6,7,8,9,10,11,12,13,14,15],none⟩]
def r64_8:IC:=(.regD o64_8 [3,5,7,9,17,18,21,22,23,44])
def o64_9:List IOp:=[mv 45 7,
 q (.val 46 (.faddr 0) [.t 9]),
 ⟨none,.loadL 47 (.t 46) 1 false,[1],none⟩,
 mv 48 7,
 q (.val 49 (.faddr 1) [.t 9]),
 ⟨none,.loadL 50 (.t 49) 1 false,[4],none⟩,
 ⟨none,.val 51 (.iaddrS 1) [.t 45,.t 47],[0,1,2],none⟩,
 ⟨none,.storeH (.t 51) (.k (.p (.bool true))) 1,[0,1,2,6],none⟩,
 ⟨none,.val 52 (.iaddrS 1) [.t 48,.t 50],[0,1,2,3,4,5,6,7],none⟩,
 ⟨none,.storeH (.t 52) (.k (.p (.bool true))) 1,[0,1,2,3,4,5,6,7,8],none⟩]
def r64_9:IC:=(.regD o64_9 [3,5,7,17,18,21,22,23])
def o64_10:List IOp:=[q (.val 53 (.bin .add) [.t 23,ki 1]),
 mv 23 53]
def r64_10:IC:=(.reg o64_10 [3,5,7,17,18,21,22,23])
def l64_2:IC:=(.seq r64_6 (.seq (.cond (.t 24) .skip (.kp [3,5,7,17,18] (.exit 2))) (.kp [3,5,7,17,18,21,22,23] (.seq (.block 3 (.seq r64_7 (.seq r64_8 (.cond (.t 44) r64_9 .skip)))) (.kp [3,5,7,17,18,21,22,23] r64_10)))))
def o64_11:List IOp:=[q (.val 54 (.bin .add) [.t 18,ki 1]),
 mv 18 54]
def r64_11:IC:=(.reg o64_11 [3,5,7,17,18])
def l64_1:IC:=(.seq r64_4 (.seq (.cond (.t 19) .skip (.kp [7] (.exit 0))) (.kp [3,5,7,17,18] (.seq (.block 1 (.seq r64_5 (.block 2 (.loop l64_2)))) r64_11))))
def o64_12:List IOp:=[mv 55 7,
 mv 6 55]
def r64_12:IC:=(.reg o64_12 [6])
def b64:IC:=(.seq r64_0 (.seq r64_1 (.seq r64_2 (.seq (.seq r64_3 (.block 0 (.loop l64_1))) (.seq r64_12 .ret)))))
def i64:IFn:=⟨3,56,b64,[.tmp 6]⟩
def o65_0:List IOp:=[q (.val 1 .mov [.k (.p (.bool false))])]
def r65_0:IC:=(.reg o65_0 [0])
def o65_1:List IOp:=[q (.val 2 (.faddr 0) [.t 0]),
 q (.load 3 (.t 2) 1 false),
 q (.call (some 4) 51 [.t 3,ki 1,ki 4095]),
 mv 1 4]
def r65_1:IC:=(.reg o65_1 [1])
def b65:IC:=(.seq r65_0 (.seq r65_1 .ret))
def i65:IFn:=⟨1,5,b65,[.tmp 1]⟩
def o66_0:List IOp:=[q (.val 2 .mov [.k (.p (.bool false))])]
def r66_0:IC:=(.reg o66_0 [0,1])
def o66_1:List IOp:=[q (.load 3 (.t 0) 3 true),
 q (.val 4 (.faddr 1) [.t 1]),
 q (.load 5 (.t 4) 1 false),
 q (.call (some 6) 67 [.t 3,.t 5]),
 mv 7 6,
 ⟨(some (7,true)),.load 8 (.t 0) 3 true,[],none⟩,
 ⟨(some (7,true)),.val 9 (.faddr 2) [.t 1],[],none⟩,
 ⟨(some (7,true)),.load 10 (.t 9) 1 false,[],none⟩,
 ⟨(some (7,true)),.call (some 11) 67 [.t 8,.t 10],[],none⟩,
 q (.val 12 .pick [.t 7,.t 11,.k (.p (.bool false))]),
 mv 13 12,
 ⟨(some (13,true)),.val 14 (.faddr 1) [.t 1],[],none⟩,
 ⟨(some (13,true)),.load 15 (.t 14) 1 false,[],none⟩,
 ⟨(some (13,true)),.val 16 (.faddr 2) [.t 1],[],none⟩,
 ⟨(some (13,true)),.load 17 (.t 16) 1 false,[],none⟩,
 ⟨(some (13,true)),.val 18 (.bin .neq) [.t 15,.t 17],[],none⟩,
 q (.val 19 .pick [.t 13,.t 18,.k (.p (.bool false))]),
 mv 2 19]
def r66_1:IC:=(.reg o66_1 [2])
def b66:IC:=(.seq r66_0 (.seq r66_1 .ret))
def i66:IFn:=⟨2,20,b66,[.tmp 2]⟩
def o67_0:List IOp:=[q (.boxL 2 (.t 0)),
 q (.val 4 .mov [.k (.p (.bool false))])]
def r67_0:IC:=(.reg o67_0 [1,2])
def o67_1:List IOp:=[mv 5 1,
 q (.val 6 (.faddr 0) [.t 2]),
 q (.load 7 (.t 6) 1 false),
 q (.val 8 (.bin .sub) [.t 7,ki 1]),
 q (.call (some 9) 51 [.t 5,ki 0,.t 8]),
 mv 10 9,
 ⟨(some (10,true)),.val 11 (.faddr 1) [.t 2],[],none⟩,
 ⟨(some (10,true)),.load 12 (.t 11) 1 false,[],none⟩,
 ⟨(some (10,true)),.val 13 .mov [.t 1],[],none⟩,
 ⟨(some (10,true)),.val 14 (.iaddrS 1) [.t 12,.t 13],[],none⟩,
 ⟨(some (10,true)),.load 15 (.t 14) 1 false,[],none⟩,
 q (.val 16 .pick [.t 10,.t 15,.k (.p (.bool false))]),
 mv 4 16]
def r67_1:IC:=(.reg o67_1 [4])
def b67:IC:=(.seq r67_0 (.seq r67_1 .ret))
def i67:IFn:=⟨2,17,b67,[.tmp 4]⟩
def o68_0:List IOp:=[q (.val 1 .mov [.k (.p (.bool false))])]
def r68_0:IC:=(.reg o68_0 [0])
def o68_1:List IOp:=[q (.val 2 (.faddr 4) [.t 0]),
 q (.load 3 (.t 2) 1 false),
 q (.call (some 4) 51 [.t 3,ki 84,ki 1542]),
 mv 1 4]
def r68_1:IC:=(.reg o68_1 [1])
def b68:IC:=(.seq r68_0 (.seq r68_1 .ret))
def i68:IFn:=⟨1,5,b68,[.tmp 1]⟩
def o69_0:List IOp:=[q (.val 1 .mov [.k (.p (.bool false))])]
def r69_0:IC:=(.reg o69_0 [0])
def o69_1:List IOp:=[q (.val 2 (.faddr 8) [.t 0]),
 q (.load 3 (.t 2) 1 false),
 q (.call (some 4) 51 [.t 3,ki 1,ki 1099511627776]),
 mv 1 4]
def r69_1:IC:=(.reg o69_1 [1])
def b69:IC:=(.seq r69_0 (.seq r69_1 .ret))
def i69:IFn:=⟨1,5,b69,[.tmp 1]⟩
def o70_0:List IOp:=[q (.val 1 .mov [.k (.p (.bool false))])]
def r70_0:IC:=(.reg o70_0 [0])
def o70_1:List IOp:=[q (.val 2 (.faddr 3) [.t 0]),
 q (.load 3 (.t 2) 1 false)]
def r70_1:IC:=(.reg o70_1 [0,3])
def o70_2:List IOp:=[q (.val 5 (.bin .eql) [.t 3,ki 7]),
 mv 4 5]
def r70_2:IC:=(.reg o70_2 [0,3,4])
def o70_3:List IOp:=[q (.val 6 (.faddr 5) [.t 0]),
 q (.load 7 (.t 6) 1 false),
 q (.call (some 8) 51 [.t 7,ki 1,ki 240]),
 mv 9 8,
 ⟨(some (9,true)),.val 10 (.faddr 6) [.t 0],[],none⟩,
 ⟨(some (9,true)),.load 11 (.t 10) 2 true,[],none⟩,
 ⟨(some (9,true)),.val 12 (.build [.p (.int .i64 0),.p (.int .i64 0)] []) [],[],none⟩,
 ⟨(some (9,true)),.val 13 (.eqS false [true,true]) [.t 11,.t 12],[],none⟩,
 q (.val 14 .pick [.t 9,.t 13,.k (.p (.bool false))]),
 mv 1 14]
def r70_3:IC:=(.reg o70_3 [1])
def o70_4:List IOp:=[q (.val 16 (.bin .eql) [.t 3,ki 6]),
 mv 15 16]
def r70_4:IC:=(.reg o70_4 [0,15])
def o70_5:List IOp:=[q (.val 17 (.faddr 5) [.t 0]),
 q (.load 18 (.t 17) 1 false),
 q (.val 19 (.bin .eql) [.t 18,ki 0]),
 mv 20 19,
 ⟨(some (20,true)),.val 21 (.faddr 6) [.t 0],[],none⟩,
 ⟨(some (20,true)),.load 22 (.t 21) 2 true,[],none⟩,
 ⟨(some (20,true)),.call (some 23) 71 [.t 22],[],none⟩,
 ⟨(some (20,true)),.val 24 (.bin .eql) [.t 23,ki 0],[],none⟩,
 q (.val 25 .pick [.t 20,.t 24,.k (.p (.bool false))]),
 mv 26 25,
 ⟨(some (26,true)),.val 27 (.faddr 6) [.t 0],[],none⟩,
 ⟨(some (26,true)),.val 28 (.faddr 0) [.t 27],[],none⟩,
 ⟨(some (26,true)),.load 29 (.t 28) 1 false,[],none⟩,
 ⟨(some (26,true)),.val 30 (.faddr 4) [.t 0],[],none⟩,
 ⟨(some (26,true)),.load 31 (.t 30) 1 false,[],none⟩,
 ⟨(some (26,true)),.val 32 (.bin .geq) [.t 29,.t 31],[],none⟩,
 q (.val 33 .pick [.t 26,.t 32,.k (.p (.bool false))]),
 mv 1 33]
def r70_5:IC:=(.reg o70_5 [1])
def o70_6:List IOp:=[q (.val 1 .mov [.k (.p (.bool false))])]
def r70_6:IC:=(.reg o70_6 [1])
def b70:IC:=(.seq r70_0 (.seq (.seq r70_1 (.block 0 (.seq r70_2 (.cond (.t 4) (.seq r70_3 .ret) (.seq r70_4 (.cond (.t 15) (.seq r70_5 .ret) .skip)))))) (.kp [] (.seq r70_6 .ret))))
def i70:IFn:=⟨1,34,b70,[.tmp 1]⟩
def o71_0:List IOp:=[q (.boxL 1 (.t 0)),
 q (.val 2 .mov [ki 0])]
def r71_0:IC:=(.reg o71_0 [1])
def o71_1:List IOp:=[q (.val 3 (.faddr 0) [.t 1]),
 q (.load 4 (.t 3) 1 false),
 q (.call (some 5) 88 [.t 4,ki 1,ki 1048576]),
 q (.val 6 .not [.t 5]),
 mv 7 6,
 ⟨(some (7,false)),.val 8 (.faddr 1) [.t 1],[],none⟩,
 ⟨(some (7,false)),.load 9 (.t 8) 1 false,[],none⟩,
 ⟨(some (7,false)),.call (some 10) 88 [.t 9,ki 1,ki 2097152],[],none⟩,
 ⟨(some (7,false)),.val 11 .not [.t 10],[],none⟩,
 q (.val 12 .pick [.t 7,.k (.p (.bool true)),.t 11])]
def r71_1:IC:=(.reg o71_1 [12])
def o71_2:List IOp:=[q (.val 2 .mov [ki 130])]
def r71_2:IC:=(.reg o71_2 [2])
def o71_3:List IOp:=[q (.val 2 .mov [ki 0])]
def r71_3:IC:=(.reg o71_3 [2])
def b71:IC:=(.seq r71_0 (.seq (.seq r71_1 (.cond (.t 12) (.seq r71_2 .ret) .skip)) (.kp [] (.seq r71_3 .ret))))
def i71:IFn:=⟨1,13,b71,[.tmp 2]⟩
def o72_0:List IOp:=[q (.val 1 .mov [.k (.p (.bool false))])]
def r72_0:IC:=(.reg o72_0 [0])
def o72_1:List IOp:=[q (.val 2 (.faddr 9) [.t 0]),
 q (.load 3 (.t 2) 1 false),
 q (.val 4 .len [.t 3]),
 q (.call (some 5) 51 [.t 4,ki 1,ki 2]),
 mv 1 5]
def r72_1:IC:=(.reg o72_1 [1])
def b72:IC:=(.seq r72_0 (.seq r72_1 .ret))
def i72:IFn:=⟨1,6,b72,[.tmp 1]⟩
def o73_0:List IOp:=[q (.val 2 .mov [.k (.p (.bool false))])]
def r73_0:IC:=(.reg o73_0 [0,1])
def o73_1:List IOp:=[q (.val 5 (.faddr 9) [.t 0]),
 q (.load 6 (.t 5) 1 false),
 q (.val 7 .len [.t 6]),
 q (.val 8 .mov [ki 0])]
def r73_1:IC:=(.reg o73_1 [0,1,6,7,8])
def o73_2:List IOp:=[q (.val 9 (.bin .lss) [.t 8,.t 7])]
def r73_2:IC:=(.reg o73_2 [0,1,6,7,8,9])
def o73_3:List IOp:=[q (.val 10 (.iaddrS 1) [.t 6,.t 8]),
 q (.load 11 (.t 10) 1 false),
 mv 4 11]
def r73_3:IC:=(.reg o73_3 [0,1,4,6,7,8])
def o73_4:List IOp:=[q (.load 12 (.t 1) 3 true),
 mv 13 4,
 q (.val 14 (.faddr 1) [.t 0]),
 q (.load 15 (.t 14) 1 false),
 q (.val 16 (.faddr 2) [.t 0]),
 q (.load 17 (.t 16) 1 false),
 q (.call (some 18) 74 [.t 12,.t 13,.t 15,.t 17]),
 q (.val 19 .not [.t 18])]
def r73_4:IC:=(.reg o73_4 [0,1,6,7,8,19])
def o73_5:List IOp:=[q (.val 2 .mov [.k (.p (.bool false))])]
def r73_5:IC:=(.reg o73_5 [2])
def o73_6:List IOp:=[q (.val 20 (.bin .add) [.t 8,ki 1]),
 mv 8 20]
def r73_6:IC:=(.reg o73_6 [0,1,6,7,8])
def l73_1:IC:=(.seq r73_2 (.seq (.cond (.t 9) .skip (.kp [] (.exit 0))) (.kp [0,1,6,7,8] (.seq (.block 1 (.seq r73_3 (.seq r73_4 (.cond (.t 19) (.seq r73_5 .ret) .skip)))) (.kp [0,1,6,7,8] r73_6)))))
def o73_7:List IOp:=[q (.val 2 .mov [.k (.p (.bool true))])]
def r73_7:IC:=(.reg o73_7 [2])
def b73:IC:=(.seq r73_0 (.seq (.seq r73_1 (.block 0 (.loop l73_1))) (.seq r73_7 .ret)))
def i73:IFn:=⟨2,21,b73,[.tmp 2]⟩
def o74_0:List IOp:=[q (.boxL 4 (.t 0)),
 q (.val 8 .mov [.k (.p (.bool false))])]
def r74_0:IC:=(.reg o74_0 [1,2,3,4])
def o74_1:List IOp:=[q (.load 13 (.t 4) 3 true),
 mv 14 1,
 q (.call (some 15) 89 [.t 13,.t 14]),
 mv 12 15,
 q (.val 16 (.ext 0) [.t 12]),
 q (.val 17 (.ext 1) [.t 12]),
 q (.val 18 (.ext 2) [.t 12]),
 mv 9 16,
 mv 10 17,
 mv 11 18]
def r74_1:IC:=(.reg o74_1 [2,3,9,10,11])
def o74_2:List IOp:=[mv 19 11,
 q (.val 20 (.bin .eql) [.t 19,ki 0]),
 mv 21 20,
 ⟨(some (21,true)),.val 22 .mov [.t 9],[],none⟩,
 ⟨(some (21,true)),.val 23 .mov [.t 2],[],none⟩,
 ⟨(some (21,true)),.val 24 (.bin .eql) [.t 22,.t 23],[],none⟩,
 q (.val 25 .pick [.t 21,.t 24,.k (.p (.bool false))]),
 mv 26 25,
 ⟨(some (26,true)),.val 27 .mov [.t 10],[],none⟩,
 ⟨(some (26,true)),.val 28 .mov [.t 3],[],none⟩,
 ⟨(some (26,true)),.val 29 (.bin .eql) [.t 27,.t 28],[],none⟩,
 q (.val 30 .pick [.t 26,.t 29,.k (.p (.bool false))]),
 mv 8 30]
def r74_2:IC:=(.reg o74_2 [8])
def b74:IC:=(.seq r74_0 (.seq r74_1 (.seq r74_2 .ret)))
def i74:IFn:=⟨4,31,b74,[.tmp 8]⟩
def o75_0:List IOp:=[q (.val 2 .mov [.k (.p (.bool false))])]
def r75_0:IC:=(.reg o75_0 [0,1])
def o75_1:List IOp:=[q (.val 5 (.faddr 9) [.t 0]),
 q (.load 6 (.t 5) 1 false),
 q (.val 7 .len [.t 6]),
 q (.val 8 (.bin .lss) [.t 7,ki 2])]
def r75_1:IC:=(.reg o75_1 [0,1,8])
def o75_2:List IOp:=[q (.val 2 .mov [.k (.p (.bool true))])]
def r75_2:IC:=(.reg o75_2 [2])
def o75_3:List IOp:=[q (.loadH 10 (.t 1) 3 true),
 q (.val 11 (.faddr 9) [.t 0]),
 ⟨none,.loadH 12 (.t 11) 1 false,[1],none⟩,
 ⟨none,.val 13 (.iaddrS 1) [.t 12,ki 0],[1,2],none⟩,
 ⟨none,.loadH 14 (.t 13) 1 false,[1,2,3],none⟩,
 q (.val 15 (.faddr 9) [.t 0]),
 ⟨none,.loadH 16 (.t 15) 1 false,[5],none⟩,
 ⟨none,.val 17 (.iaddrS 1) [.t 16,ki 1],[5,6],none⟩,
 ⟨none,.loadH 18 (.t 17) 1 false,[5,6,7],none⟩,
 ⟨none,.call (some 19) 76 [.t 10,.t 14,.t 18],[0,1,2,3,4,5,6,7,8],none⟩,
 ⟨none,.val 9 .mov [.t 19],[0,1,2,3,4,5,6,7,8,9],none⟩,
 ⟨none,.val 20 (.ext 0) [.t 9],[0,1,2,3,4,5,6,7,8,9,10],none⟩,
 ⟨none,.val 21 (.ext 1) [.t 9],[0,1,2,3,4,5,6,7,8,9,10],none⟩,
 ⟨none,.val 3 .mov [.t 20],[0,1,2,3,4,5,6,7,8,9,10,11],none⟩,
 ⟨none,.val 4 .mov [.t 21],[0,1,2,3,4,5,6,7,8,9,10,11,12,13],none⟩]
def r75_3:IC:=(.regD o75_3 [3,4])
def o75_4:List IOp:=[mv 22 4,
 q (.val 23 (.bin .eql) [.t 22,ki 0]),
 mv 24 23,
 ⟨(some (24,true)),.val 25 .mov [.t 3],[],none⟩,
 q (.val 26 .pick [.t 24,.t 25,.k (.p (.bool false))]),
 mv 2 26]
def r75_4:IC:=(.reg o75_4 [2])
def b75:IC:=(.seq r75_0 (.seq (.seq r75_1 (.cond (.t 8) (.seq r75_2 .ret) .skip)) (.kp [0,1] (.seq r75_3 (.seq r75_4 .ret)))))
def i75:IFn:=⟨2,27,b75,[.tmp 2]⟩
def o76_0:List IOp:=[q (.boxL 3 (.t 0)),
 q (.boxH 4 (.t 1)),
 q (.boxH 5 (.t 2)),
 q (.val 6 .mov [.k (.p (.bool false))]),
 q (.val 7 .mov [ki 0])]
def r76_0:IC:=(.reg o76_0 [3,4,5])
def o76_1:List IOp:=[q (.load 8 (.t 3) 3 true),
 q (.load 9 (.t 4) 1 false),
 q (.val 10 (.mkfn 91 0) [.t 5,.t 4]),
 q (.call (some 11) 90 [.t 8,.t 9,.t 10]),
 q (.val 12 (.ext 0) [.t 11]),
 q (.val 13 (.ext 1) [.t 11]),
 mv 6 12,
 mv 7 13]
def r76_1:IC:=(.reg o76_1 [6,7])
def b76:IC:=(.seq r76_0 (.seq r76_1 .ret))
def i76:IFn:=⟨3,14,b76,[.tmp 6,.tmp 7]⟩
def o77_0:List IOp:=[q (.boxL 4 (.t 0)),
 q (.boxL 5 (.t 1)),
 q (.boxL 6 (.t 2)),
 q (.val 8 .mov [ki 0])]
def r77_0:IC:=(.reg o77_0 [3,4,5,6])
def o77_1:List IOp:=[q (.load 11 (.t 4) 3 true),
 q (.call (some 12) 49 [.t 11]),
 mv 9 12]
def r77_1:IC:=(.reg o77_1 [3,4,5,6,9])
def o77_2:List IOp:=[mv 13 9,
 q (.val 14 (.bin .neq) [.t 13,ki 0])]
def r77_2:IC:=(.reg o77_2 [3,4,5,6,9,14])
def o77_3:List IOp:=[mv 15 9,
 mv 8 15]
def r77_3:IC:=(.reg o77_3 [8])
def o77_4:List IOp:=[q (.load 16 (.t 5) 4 true),
 q (.call (some 17) 42 [.t 16]),
 mv 10 17]
def r77_4:IC:=(.reg o77_4 [3,4,6,10])
def o77_5:List IOp:=[mv 18 10,
 q (.val 19 (.bin .neq) [.t 18,ki 0])]
def r77_5:IC:=(.reg o77_5 [3,4,6,10,19])
def o77_6:List IOp:=[mv 20 10,
 mv 8 20]
def r77_6:IC:=(.reg o77_6 [8])
def o77_7:List IOp:=[q (.load 21 (.t 4) 3 true),
 q (.load 22 (.t 6) 10 true),
 q (.call (some 23) 50 [.t 21,.t 22]),
 q (.val 24 .not [.t 23])]
def r77_7:IC:=(.reg o77_7 [3,6,24])
def o77_8:List IOp:=[q (.val 8 .mov [ki 321])]
def r77_8:IC:=(.reg o77_8 [8])
def o77_9:List IOp:=[q (.val 25 (.faddr 3) [.t 6]),
 q (.load 26 (.t 25) 1 false),
 q (.val 27 (.bin .neq) [.t 26,ki 7]),
 mv 28 27,
 ⟨(some (28,false)),.val 29 .mov [.t 3],[],none⟩,
 ⟨(some (28,false)),.val 30 (.faddr 9) [.t 6],[],none⟩,
 ⟨(some (28,false)),.load 31 (.t 30) 1 false,[],none⟩,
 ⟨(some (28,false)),.val 32 .len [.t 31],[],none⟩,
 ⟨(some (28,false)),.val 33 (.bin .sub) [.t 32,ki 1],[],none⟩,
 ⟨(some (28,false)),.call (some 34) 51 [.t 29,ki 0,.t 33],[],none⟩,
 ⟨(some (28,false)),.val 35 .not [.t 34],[],none⟩,
 q (.val 36 .pick [.t 28,.k (.p (.bool true)),.t 35])]
def r77_9:IC:=(.reg o77_9 [36])
def o77_10:List IOp:=[q (.val 8 .mov [ki 2])]
def r77_10:IC:=(.reg o77_10 [8])
def o77_11:List IOp:=[q (.val 8 .mov [ki 0])]
def r77_11:IC:=(.reg o77_11 [8])
def b77:IC:=(.seq r77_0 (.seq (.seq r77_1 (.seq r77_2 (.cond (.t 14) (.seq r77_3 .ret) .skip))) (.kp [3,4,5,6] (.seq (.seq r77_4 (.seq r77_5 (.cond (.t 19) (.seq r77_6 .ret) .skip))) (.kp [3,4,6] (.seq (.seq r77_7 (.cond (.t 24) (.seq r77_8 .ret) .skip)) (.kp [3,6] (.seq (.seq r77_9 (.cond (.t 36) (.seq r77_10 .ret) .skip)) (.kp [] (.seq r77_11 .ret))))))))))
def i77:IFn:=⟨4,37,b77,[.tmp 8]⟩
def o78_0:List IOp:=[q (.boxH 4 (.t 0)),
 q (.boxH 5 (.t 1)),
 q (.boxH 6 (.t 2)),
 q (.boxH 7 (.t 3)),
 q (.val 8 .mov [.k (.nl .nilFunc)])]
def r78_0:IC:=(.reg o78_0 [4,5,6,7])
def o78_1:List IOp:=[q (.val 9 (.mkfn 95 0) [.t 6,.t 7,.t 4,.t 5]),
 mv 8 9]
def r78_1:IC:=(.reg o78_1 [8])
def b78:IC:=(.seq r78_0 (.seq r78_1 .ret))
def i78:IFn:=⟨4,10,b78,[.tmp 8]⟩
def o79_0:List IOp:=[q (.boxL 2 (.t 0)),
 q (.boxL 3 (.t 1)),
 q (.val 4 .mov [ki 0]),
 q (.val 5 .mov [ki 0]),
 q (.val 6 .mov [ki 0])]
def r79_0:IC:=(.reg o79_0 [2,3])
def o79_1:List IOp:=[q (.val 7 (.faddr 0) [.t 2]),
 q (.load 8 (.t 7) 1 false),
 q (.val 9 (.faddr 0) [.t 3]),
 q (.load 10 (.t 9) 1 false),
 q (.call (some 11) 81 [.t 8,.t 10]),
 mv 6 11]
def r79_1:IC:=(.reg o79_1 [2,3,6])
def o79_2:List IOp:=[q (.val 12 (.faddr 2) [.t 2]),
 ⟨none,.loadL 13 (.t 12) 1 false,[0],none⟩,
 mv 14 6,
 q (.val 15 (.faddr 2) [.t 3]),
 ⟨none,.loadL 16 (.t 15) 1 false,[3],none⟩,
 ⟨none,.val 17 (.bin .sub) [.t 14,.t 16],[2,3,4],none⟩,
 mv 18 6,
 ⟨none,.val 4 .mov [.t 13],[0,1],none⟩,
 ⟨none,.val 5 .mov [.t 17],[0,1,2,3,4,5,7],none⟩,
 ⟨none,.val 6 .mov [.t 18],[0,1,2,3,4,5,6,7,8],none⟩]
def r79_2:IC:=(.regD o79_2 [4,5,6])
def b79:IC:=(.seq r79_0 (.seq r79_1 (.seq r79_2 .ret)))
def i79:IFn:=⟨2,19,b79,[.tmp 4,.tmp 5,.tmp 6]⟩
def o80_0:List IOp:=[q (.val 4 .mov [ki 0])]
def r80_0:IC:=(.reg o80_0 [0,1])
def o80_1:List IOp:=[mv 5 0,
 mv 6 1,
 q (.val 7 (.bin .rem) [.t 5,.t 6]),
 mv 8 1,
 q (.val 9 (.bin .add) [.t 7,.t 8]),
 mv 10 1,
 q (.val 11 (.bin .rem) [.t 9,.t 10]),
 mv 4 11]
def r80_1:IC:=(.reg o80_1 [4])
def b80:IC:=(.seq r80_0 (.seq r80_1 .ret))
def i80:IFn:=⟨2,12,b80,[.tmp 4]⟩
def o81_0:List IOp:=[q (.val 4 .mov [ki 0])]
def r81_0:IC:=(.reg o81_0 [0,1])
def o81_1:List IOp:=[mv 5 1,
 q (.val 6 (.bin .neq) [.t 5,ki 0])]
def r81_1:IC:=(.reg o81_1 [0,1,6])
def o81_2:List IOp:=[mv 7 1,
 mv 8 0,
 mv 9 1,
 ⟨none,.val 10 (.bin .rem) [.t 8,.t 9],[1,2],none⟩,
 ⟨none,.val 0 .mov [.t 7],[0,1],none⟩,
 ⟨none,.val 1 .mov [.t 10],[0,1,2,3,4],none⟩]
def r81_2:IC:=(.regD o81_2 [0,1])
def l81_1:IC:=(.seq (.seq r81_1 (.cond (.t 6) .skip (.kp [0] (.exit 0)))) (.kp [0,1] (.block 1 r81_2)))
def o81_3:List IOp:=[mv 11 0,
 mv 4 11]
def r81_3:IC:=(.reg o81_3 [4])
def b81:IC:=(.seq r81_0 (.seq (.block 0 (.loop l81_1)) (.seq r81_3 .ret)))
def i81:IFn:=⟨2,12,b81,[.tmp 4]⟩
def o82_0:List IOp:=[q (.val 3 .mov [.k (.p (.bool false))])]
def r82_0:IC:=(.reg o82_0 [0,1])
def o82_1:List IOp:=[q (.val 5 (.faddr 2) [.t 1]),
 q (.load 6 (.t 5) 1 false),
 mv 7 0,
 q (.val 8 (.iaddrS 4) [.t 6,.t 7]),
 q (.load 9 (.t 8) 4 true),
 q (.newL 4 [.p (.int .i64 0),.p (.int .i64 0),.p (.int .i64 0),.p (.int .i64 0)]),
 q (.store (.t 4) (.t 9) 4)]
def r82_1:IC:=(.reg o82_1 [1,4])
def o82_2:List IOp:=[q (.load 10 (.t 1) 3 true),
 q (.val 11 (.faddr 0) [.t 4]),
 q (.load 12 (.t 11) 1 false),
 q (.call (some 13) 83 [.t 10,.t 12]),
 mv 14 13,
 ⟨(some (14,true)),.load 15 (.t 1) 3 true,[],none⟩,
 ⟨(some (14,true)),.val 16 (.faddr 1) [.t 4],[],none⟩,
 ⟨(some (14,true)),.load 17 (.t 16) 1 false,[],none⟩,
 ⟨(some (14,true)),.call (some 18) 83 [.t 15,.t 17],[],none⟩,
 q (.val 19 .pick [.t 14,.t 18,.k (.p (.bool false))]),
 mv 20 19,
 ⟨(some (20,true)),.val 21 (.faddr 0) [.t 4],[],none⟩,
 ⟨(some (20,true)),.load 22 (.t 21) 1 false,[],none⟩,
 ⟨(some (20,true)),.val 23 (.faddr 1) [.t 4],[],none⟩,
 ⟨(some (20,true)),.load 24 (.t 23) 1 false,[],none⟩,
 ⟨(some (20,true)),.val 25 (.bin .neq) [.t 22,.t 24],[],none⟩,
 q (.val 26 .pick [.t 20,.t 25,.k (.p (.bool false))]),
 mv 3 26]
def r82_2:IC:=(.reg o82_2 [3])
def b82:IC:=(.seq r82_0 (.seq r82_1 (.seq r82_2 .ret)))
def i82:IFn:=⟨2,27,b82,[.tmp 3]⟩
def o83_0:List IOp:=[q (.boxL 2 (.t 0)),
 q (.val 4 .mov [.k (.p (.bool false))])]
def r83_0:IC:=(.reg o83_0 [1,2])
def o83_1:List IOp:=[mv 5 1,
 q (.val 6 (.bin .geq) [.t 5,ki 0]),
 mv 7 6,
 ⟨(some (7,true)),.val 8 .mov [.t 1],[],none⟩,
 ⟨(some (7,true)),.val 9 (.faddr 0) [.t 2],[],none⟩,
 ⟨(some (7,true)),.load 10 (.t 9) 1 false,[],none⟩,
 ⟨(some (7,true)),.val 11 (.bin .lss) [.t 8,.t 10],[],none⟩,
 q (.val 12 .pick [.t 7,.t 11,.k (.p (.bool false))]),
 mv 4 12]
def r83_1:IC:=(.reg o83_1 [4])
def b83:IC:=(.seq r83_0 (.seq r83_1 .ret))
def i83:IFn:=⟨2,13,b83,[.tmp 4]⟩
def o84_0:List IOp:=[q (.val 3 .mov [.k (.p (.bool false))])]
def r84_0:IC:=(.reg o84_0 [0,1])
def o84_1:List IOp:=[q (.val 5 (.faddr 2) [.t 1]),
 q (.load 6 (.t 5) 1 false),
 mv 7 0,
 q (.val 8 (.iaddrS 4) [.t 6,.t 7]),
 q (.load 9 (.t 8) 4 true),
 q (.newL 4 [.p (.int .i64 0),.p (.int .i64 0),.p (.int .i64 0),.p (.int .i64 0)]),
 q (.store (.t 4) (.t 9) 4)]
def r84_1:IC:=(.reg o84_1 [1,4])
def o84_2:List IOp:=[q (.val 10 (.faddr 1) [.t 1]),
 q (.load 11 (.t 10) 1 false),
 q (.val 12 (.faddr 0) [.t 4]),
 q (.load 13 (.t 12) 1 false),
 q (.val 14 (.iaddrS 1) [.t 11,.t 13]),
 q (.load 15 (.t 14) 1 false),
 q (.val 16 .not [.t 15]),
 mv 17 16,
 ⟨(some (17,false)),.val 18 (.faddr 1) [.t 1],[],none⟩,
 ⟨(some (17,false)),.load 19 (.t 18) 1 false,[],none⟩,
 ⟨(some (17,false)),.val 20 (.faddr 1) [.t 4],[],none⟩,
 ⟨(some (17,false)),.load 21 (.t 20) 1 false,[],none⟩,
 ⟨(some (17,false)),.val 22 (.iaddrS 1) [.t 19,.t 21],[],none⟩,
 ⟨(some (17,false)),.load 23 (.t 22) 1 false,[],none⟩,
 ⟨(some (17,false)),.val 24 .not [.t 23],[],none⟩,
 q (.val 25 .pick [.t 17,.k (.p (.bool true)),.t 24]),
 mv 3 25]
def r84_2:IC:=(.reg o84_2 [3])
def b84:IC:=(.seq r84_0 (.seq r84_1 (.seq r84_2 .ret)))
def i84:IFn:=⟨2,26,b84,[.tmp 3]⟩
def o85_0:List IOp:=[q (.val 3 .mov [.k (.p (.bool false))])]
def r85_0:IC:=(.reg o85_0 [0,1])
def o85_1:List IOp:=[q (.val 7 (.faddr 2) [.t 1]),
 q (.load 8 (.t 7) 1 false),
 mv 9 0,
 q (.val 10 (.iaddrS 4) [.t 8,.t 9]),
 q (.load 11 (.t 10) 4 true),
 q (.newL 4 [.p (.int .i64 0),.p (.int .i64 0),.p (.int .i64 0),.p (.int .i64 0)]),
 q (.store (.t 4) (.t 11) 4)]
def r85_1:IC:=(.reg o85_1 [0,1,4])
def o85_2:List IOp:=[q (.val 12 (.faddr 2) [.t 1]),
 q (.load 13 (.t 12) 1 false),
 mv 14 0,
 q (.val 15 (.slice 4 false true false) [.t 13,.t 14]),
 q (.val 16 .len [.t 15]),
 q (.val 17 .mov [ki 0])]
def r85_2:IC:=(.reg o85_2 [4,15,16,17])
def o85_3:List IOp:=[q (.val 18 (.bin .lss) [.t 17,.t 16])]
def r85_3:IC:=(.reg o85_3 [4,15,16,17,18])
def o85_4:List IOp:=[q (.val 19 (.iaddrS 4) [.t 15,.t 17]),
 q (.load 20 (.t 19) 4 true),
 q (.newL 6 [.p (.int .i64 0),.p (.int .i64 0),.p (.int .i64 0),.p (.int .i64 0)]),
 q (.store (.t 6) (.t 20) 4)]
def r85_4:IC:=(.reg o85_4 [4,6,15,16,17])
def o85_5:List IOp:=[q (.val 21 (.faddr 0) [.t 4]),
 q (.load 22 (.t 21) 1 false),
 q (.val 23 (.faddr 0) [.t 6]),
 q (.load 24 (.t 23) 1 false),
 q (.val 25 (.bin .eql) [.t 22,.t 24]),
 mv 26 25,
 ⟨(some (26,true)),.val 27 (.faddr 1) [.t 4],[],none⟩,
 ⟨(some (26,true)),.load 28 (.t 27) 1 false,[],none⟩,
 ⟨(some (26,true)),.val 29 (.faddr 1) [.t 6],[],none⟩,
 ⟨(some (26,true)),.load 30 (.t 29) 1 false,[],none⟩,
 ⟨(some (26,true)),.val 31 (.bin .eql) [.t 28,.t 30],[],none⟩,
 q (.val 32 .pick [.t 26,.t 31,.k (.p (.bool false))]),
 mv 33 32,
 ⟨(some (33,false)),.val 34 (.faddr 0) [.t 4],[],none⟩,
 ⟨(some (33,false)),.load 35 (.t 34) 1 false,[],none⟩,
 ⟨(some (33,false)),.val 36 (.faddr 1) [.t 6],[],none⟩,
 ⟨(some (33,false)),.load 37 (.t 36) 1 false,[],none⟩,
 ⟨(some (33,false)),.val 38 (.bin .eql) [.t 35,.t 37],[],none⟩,
 ⟨(some (33,false)),.val 39 .mov [.t 38],[],none⟩,
 ⟨(some (39,true)),.val 40 (.faddr 1) [.t 4],[],none⟩,
 ⟨(some (39,true)),.load 41 (.t 40) 1 false,[],none⟩,
 ⟨(some (39,true)),.val 42 (.faddr 0) [.t 6],[],none⟩,
 ⟨(some (39,true)),.load 43 (.t 42) 1 false,[],none⟩,
 ⟨(some (39,true)),.val 44 (.bin .eql) [.t 41,.t 43],[],none⟩,
 ⟨(some (33,false)),.val 45 .pick [.t 39,.t 44,.k (.p (.bool false))],[],none⟩,
 q (.val 46 .pick [.t 33,.k (.p (.bool true)),.t 45])]
def r85_5:IC:=(.reg o85_5 [4,15,16,17,46])
def o85_6:List IOp:=[q (.val 3 .mov [.k (.p (.bool false))])]
def r85_6:IC:=(.reg o85_6 [3])
def o85_7:List IOp:=[q (.val 47 (.bin .add) [.t 17,ki 1]),
 mv 17 47]
def r85_7:IC:=(.reg o85_7 [4,15,16,17])
def l85_1:IC:=(.seq r85_3 (.seq (.cond (.t 18) .skip (.kp [] (.exit 0))) (.kp [4,15,16,17] (.seq (.block 1 (.seq r85_4 (.seq r85_5 (.cond (.t 46) (.seq r85_6 .ret) .skip)))) (.kp [4,15,16,17] r85_7)))))
def o85_8:List IOp:=[q (.val 3 .mov [.k (.p (.bool true))])]
def r85_8:IC:=(.reg o85_8 [3])
def b85:IC:=(.seq r85_0 (.seq r85_1 (.seq (.seq r85_2 (.block 0 (.loop l85_1))) (.seq r85_8 .ret))))
def i85:IFn:=⟨2,48,b85,[.tmp 3]⟩
def o86_0:List IOp:=[q (.val 3 .mov [.k (.p (.bool false))])]
def r86_0:IC:=(.reg o86_0 [0,1])
def o86_1:List IOp:=[q (.val 5 (.faddr 2) [.t 1]),
 q (.load 6 (.t 5) 1 false),
 mv 7 0,
 q (.val 8 (.iaddrS 4) [.t 6,.t 7]),
 q (.load 9 (.t 8) 4 true),
 q (.newL 4 [.p (.int .i64 0),.p (.int .i64 0),.p (.int .i64 0),.p (.int .i64 0)]),
 q (.store (.t 4) (.t 9) 4)]
def r86_1:IC:=(.reg o86_1 [4])
def o86_2:List IOp:=[q (.val 10 (.faddr 2) [.t 4]),
 q (.load 11 (.t 10) 1 false),
 q (.val 12 (.bin .geq) [.t 11,ki 1]),
 mv 13 12,
 ⟨(some (13,true)),.val 14 (.faddr 2) [.t 4],[],none⟩,
 ⟨(some (13,true)),.load 15 (.t 14) 1 false,[],none⟩,
 ⟨(some (13,true)),.val 16 (.bin .leq) [.t 15,ki 1000],[],none⟩,
 q (.val 17 .pick [.t 13,.t 16,.k (.p (.bool false))]),
 mv 18 17,
 ⟨(some (18,true)),.val 19 (.faddr 3) [.t 4],[],none⟩,
 ⟨(some (18,true)),.load 20 (.t 19) 1 false,[],none⟩,
 ⟨(some (18,true)),.val 21 (.bin .geq) [.t 20,ki 0],[],none⟩,
 q (.val 22 .pick [.t 18,.t 21,.k (.p (.bool false))]),
 mv 23 22,
 ⟨(some (23,true)),.val 24 (.faddr 3) [.t 4],[],none⟩,
 ⟨(some (23,true)),.load 25 (.t 24) 1 false,[],none⟩,
 ⟨(some (23,true)),.val 26 (.bin .leq) [.t 25,ki 10000],[],none⟩,
 q (.val 27 .pick [.t 23,.t 26,.k (.p (.bool false))]),
 mv 3 27]
def r86_2:IC:=(.reg o86_2 [3])
def b86:IC:=(.seq r86_0 (.seq r86_1 (.seq r86_2 .ret)))
def i86:IFn:=⟨2,28,b86,[.tmp 3]⟩
def o87_0:List IOp:=[q (.val 4 .mov [ki 0])]
def r87_0:IC:=(.reg o87_0 [0,1])
def o87_1:List IOp:=[mv 6 0,
 q (.val 7 .len [.t 6]),
 q (.val 8 .mov [ki 0])]
def r87_1:IC:=(.reg o87_1 [0,1,7,8])
def o87_2:List IOp:=[q (.val 9 (.bin .lss) [.t 8,.t 7])]
def r87_2:IC:=(.reg o87_2 [0,1,7,8,9])
def o87_3:List IOp:=[mv 10 8,
 mv 5 10]
def r87_3:IC:=(.reg o87_3 [0,1,5,7,8])
def o87_4:List IOp:=[mv 11 1,
 mv 12 0,
 mv 13 5,
 q (.val 14 (.iaddrS 1) [.t 12,.t 13]),
 q (.load 15 (.t 14) 1 false),
 q (.val 16 (.eqB false) [.t 11,.t 15])]
def r87_4:IC:=(.reg o87_4 [0,1,5,7,8,16])
def o87_5:List IOp:=[mv 17 5,
 mv 4 17]
def r87_5:IC:=(.reg o87_5 [4])
def o87_6:List IOp:=[q (.val 18 (.bin .add) [.t 8,ki 1]),
 mv 8 18]
def r87_6:IC:=(.reg o87_6 [0,1,7,8])
def l87_1:IC:=(.seq r87_2 (.seq (.cond (.t 9) .skip (.kp [] (.exit 0))) (.kp [0,1,7,8] (.seq (.block 1 (.seq r87_3 (.seq r87_4 (.cond (.t 16) (.seq r87_5 .ret) .skip)))) (.kp [0,1,7,8] r87_6)))))
def o87_7:List IOp:=[q (.val 4 .mov [ki (-1)])]
def r87_7:IC:=(.reg o87_7 [4])
def b87:IC:=(.seq r87_0 (.seq (.seq r87_1 (.block 0 (.loop l87_1))) (.seq r87_7 .ret)))
def i87:IFn:=⟨2,19,b87,[.tmp 4]⟩
def o88_0:List IOp:=[q (.val 6 .mov [.k (.p (.bool false))])]
def r88_0:IC:=(.reg o88_0 [0,1,2])
def o88_1:List IOp:=[mv 7 1,
 mv 8 0,
 q (.val 9 (.bin .leq) [.t 7,.t 8]),
 mv 10 9,
 ⟨(some (10,true)),.val 11 .mov [.t 0],[],none⟩,
 ⟨(some (10,true)),.val 12 .mov [.t 2],[],none⟩,
 ⟨(some (10,true)),.val 13 (.bin .leq) [.t 11,.t 12],[],none⟩,
 q (.val 14 .pick [.t 10,.t 13,.k (.p (.bool false))]),
 mv 6 14]
def r88_1:IC:=(.reg o88_1 [6])
def b88:IC:=(.seq r88_0 (.seq r88_1 .ret))
def i88:IFn:=⟨3,15,b88,[.tmp 6]⟩
def o89_0:List IOp:=[q (.boxL 2 (.t 0)),
 q (.val 4 .mov [ki 0]),
 q (.val 5 .mov [ki 0]),
 q (.val 6 .mov [ki 0])]
def r89_0:IC:=(.reg o89_0 [1,2])
def o89_1:List IOp:=[q (.load 9 (.t 2) 3 true),
 mv 10 1,
 q (.call (some 11) 96 [.t 9,.t 10]),
 mv 8 11,
 q (.val 12 (.ext 0) [.t 8]),
 q (.val 13 (.ext 1) [.t 8]),
 mv 7 12,
 mv 6 13]
def r89_1:IC:=(.reg o89_1 [6,7])
def o89_2:List IOp:=[mv 14 6,
 q (.val 15 (.bin .neq) [.t 14,ki 0])]
def r89_2:IC:=(.reg o89_2 [6,7,15])
def o89_3:List IOp:=[mv 16 6,
 q (.val 4 .mov [ki 0]),
 q (.val 5 .mov [ki 0]),
 mv 6 16]
def r89_3:IC:=(.reg o89_3 [4,5,6])
def o89_4:List IOp:=[mv 17 7,
 ⟨none,.val 18 (.iaddrS 1) [.t 17,ki 0],[0],none⟩,
 ⟨none,.loadH 19 (.t 18) 1 false,[0,1],none⟩,
 mv 20 7,
 mv 21 7,
 ⟨none,.val 22 .len [.t 21],[4],none⟩,
 ⟨none,.val 23 (.bin .sub) [.t 22,ki 1],[4,5],none⟩,
 ⟨none,.val 24 (.iaddrS 1) [.t 20,.t 23],[3,4,5,6],none⟩,
 ⟨none,.loadH 25 (.t 24) 1 false,[3,4,5,6,7],none⟩,
 ⟨none,.val 4 .mov [.t 19],[0,1,2],none⟩,
 ⟨none,.val 5 .mov [.t 25],[0,1,2,3,4,5,6,7,8,9],none⟩,
 ⟨none,.val 6 .mov [ki 0],[0,1,2,3,4,5,6,7,8,9,10],none⟩]
def r89_4:IC:=(.regD o89_4 [4,5,6])
def b89:IC:=(.seq r89_0 (.seq r89_1 (.seq (.seq r89_2 (.cond (.t 15) (.seq r89_3 .ret) .skip)) (.kp [7] (.seq r89_4 .ret)))))
def i89:IFn:=⟨2,26,b89,[.tmp 4,.tmp 5,.tmp 6]⟩
def o90_0:List IOp:=[q (.boxL 3 (.t 0)),
 q (.val 6 .mov [.k (.p (.bool false))]),
 q (.val 7 .mov [ki 0])]
def r90_0:IC:=(.reg o90_0 [1,2,3])
def o90_1:List IOp:=[q (.val 8 .mov [.k (.p (.bool false))])]
def r90_1:IC:=(.reg o90_1 [1,2,3,8])
def o90_2:List IOp:=[q (.load 10 (.t 3) 3 true),
 mv 11 1,
 q (.call (some 12) 97 [.t 10,.t 11]),
 mv 9 12]
def r90_2:IC:=(.reg o90_2 [2,3,8,9])
def o90_3:List IOp:=[mv 13 9,
 q (.val 14 (.bin .neq) [.t 13,ki 0])]
def r90_3:IC:=(.reg o90_3 [2,3,8,9,14])
def o90_4:List IOp:=[mv 15 8,
 mv 16 9,
 mv 6 15,
 mv 7 16]
def r90_4:IC:=(.reg o90_4 [6,7])
def o90_5:List IOp:=[mv 17 2,
 q (.load 18 (.t 3) 3 true),
 q (.val 19 (.build [.p (.int .i64 0),.p (.sl 1 true []),.p (.sl 4 true [])] [(0,3)]) [.t 18]),
 q (.callV (some 20) (.t 17) [.t 19]),
 q (.val 21 (.ext 0) [.t 20]),
 q (.val 22 (.ext 1) [.t 20]),
 mv 6 21,
 mv 7 22]
def r90_5:IC:=(.reg o90_5 [6,7])
def b90:IC:=(.seq r90_0 (.seq r90_1 (.seq (.seq r90_2 (.seq r90_3 (.cond (.t 14) (.seq r90_4 .ret) .skip))) (.kp [2,3] (.seq r90_5 .ret)))))
def i90:IFn:=⟨3,23,b90,[.tmp 6,.tmp 7]⟩
def o91_0:List IOp:=[q (.boxL 3 (.t 0)),
 q (.val 4 .mov [.k (.p (.bool false))]),
 q (.val 5 .mov [ki 0])]
def r91_0:IC:=(.reg o91_0 [1,2,3])
def o91_1:List IOp:=[q (.load 6 (.t 3) 3 true),
 q (.load 7 (.t 1) 1 false),
 q (.call (some 8) 92 [.t 6,.t 7]),
 q (.val 9 .not [.t 8])]
def r91_1:IC:=(.reg o91_1 [1,2,3,9])
def o91_2:List IOp:=[q (.val 4 .mov [.k (.p (.bool false))]),
 q (.val 5 .mov [ki 310])]
def r91_2:IC:=(.reg o91_2 [4,5])
def o91_3:List IOp:=[q (.load 10 (.t 2) 1 false),
 q (.load 11 (.t 1) 1 false),
 q (.call (some 12) 93 [.t 10,.t 11]),
 q (.val 13 .not [.t 12]),
 mv 14 13,
 ⟨(some (14,true)),.load 15 (.t 3) 3 true,[],none⟩,
 ⟨(some (14,true)),.load 16 (.t 2) 1 false,[],none⟩,
 ⟨(some (14,true)),.load 17 (.t 1) 1 false,[],none⟩,
 ⟨(some (14,true)),.call (some 18) 94 [.t 15,.t 16,.t 17],[],none⟩,
 ⟨(some (14,true)),.val 19 .not [.t 18],[],none⟩,
 q (.val 20 .pick [.t 14,.t 19,.k (.p (.bool false))]),
 mv 21 20,
 ⟨(some (21,true)),.load 22 (.t 3) 3 true,[],none⟩,
 ⟨(some (21,true)),.load 23 (.t 1) 1 false,[],none⟩,
 ⟨(some (21,true)),.load 24 (.t 2) 1 false,[],none⟩,
 ⟨(some (21,true)),.call (some 25) 94 [.t 22,.t 23,.t 24],[],none⟩,
 ⟨(some (21,true)),.val 26 .not [.t 25],[],none⟩,
 q (.val 27 .pick [.t 21,.t 26,.k (.p (.bool false))]),
 mv 4 27,
 q (.val 5 .mov [ki 0])]
def r91_3:IC:=(.reg o91_3 [4,5])
def b91:IC:=(.seq r91_0 (.seq (.seq r91_1 (.cond (.t 9) (.seq r91_2 .ret) .skip)) (.kp [1,2,3] (.seq r91_3 .ret))))
def i91:IFn:=⟨3,28,b91,[.tmp 4,.tmp 5]⟩
def o92_0:List IOp:=[q (.boxH 2 (.t 0)),
 q (.val 4 .mov [.k (.p (.bool false))])]
def r92_0:IC:=(.reg o92_0 [1,2])
def o92_1:List IOp:=[mv 10 1,
 q (.val 11 .len [.t 10]),
 q (.val 12 (.bin .lss) [.t 11,ki 1]),
 mv 13 12,
 ⟨(some (13,false)),.val 14 .mov [.t 1],[],none⟩,
 ⟨(some (13,false)),.val 15 .len [.t 14],[],none⟩,
 ⟨(some (13,false)),.val 16 (.bin .gtr) [.t 15,ki 8],[],none⟩,
 q (.val 17 .pick [.t 13,.k (.p (.bool true)),.t 16])]
def r92_1:IC:=(.reg o92_1 [1,2,17])
def o92_2:List IOp:=[q (.val 4 .mov [.k (.p (.bool false))])]
def r92_2:IC:=(.reg o92_2 [4])
def o92_3:List IOp:=[q (.newH 5 [.p (.bool false),.p (.bool false),.p (.bool false),.p (.bool false),.p (.bool false),.p (.bool false),.p (.bool false),.p (.bool false),.p (.bool false),.p (.bool false),.p (.bool false),.p (.bool false)])]
def r92_3:IC:=(.reg o92_3 [1,2,5])
def o92_4:List IOp:=[q (.newH 6 [.p (.int .i64 0)]),
 q (.newH 7 [.p (.int .i64 0)]),
 q (.store (.t 6) (ki 0) 1),
 q (.store (.t 7) (ki 0) 1)]
def r92_4:IC:=(.reg o92_4 [1,2,5,6,7])
def o92_5:List IOp:=[q (.load 18 (.t 2) 3 true),
 mv 19 1,
 q (.call (some 20) 98 [.t 18,.t 19])]
def r92_5:IC:=(.reg o92_5 [1,2,5,6,7,20])
def o92_6:List IOp:=[mv 8 21]
def r92_6:IC:=(.reg o92_6 [2,5,6,7,8,22])
def o92_7:List IOp:=[q (.newL 9 [.p (.int .i64 0),.p (.int .i64 0),.p (.int .i64 0)]),
 q (.store (.t 9) (.t 22) 3)]
def r92_7:IC:=(.reg o92_7 [2,5,6,7,8,9])
def o92_8:List IOp:=[mv 23 8,
 q (.val 24 (.bin .eql) [.t 23,ki 0])]
def r92_8:IC:=(.reg o92_8 [2,5,6,7,9,24])
def o92_9:List IOp:=[q (.val 25 (.faddr 1) [.t 9]),
 q (.load 26 (.t 25) 1 false),
 q (.val 27 (.iaddr 12 1) [.t 5,.t 26]),
 q (.store (.t 27) (.k (.p (.bool true))) 1)]
def r92_9:IC:=(.reg o92_9 [5,6,7,9])
def o92_10:List IOp:=[q (.val 28 (.faddr 1) [.t 9]),
 q (.load 29 (.t 28) 1 false),
 q (.load 30 (.t 6) 1 false),
 q (.val 31 (.bin .neq) [.t 29,.t 30]),
 mv 32 31,
 ⟨(some (32,false)),.val 33 (.faddr 0) [.t 2],[],none⟩,
 ⟨(some (32,false)),.val 34 (.faddr 1) [.t 33],[],none⟩,
 ⟨(some (32,false)),.load 35 (.t 34) 1 false,[],none⟩,
 ⟨(some (32,false)),.load 36 (.t 6) 1 false,[],none⟩,
 ⟨(some (32,false)),.val 37 (.iaddrS 1) [.t 35,.t 36],[],none⟩,
 ⟨(some (32,false)),.load 38 (.t 37) 1 false,[],none⟩,
 q (.val 39 .pick [.t 32,.k (.p (.bool true)),.t 38])]
def r92_10:IC:=(.reg o92_10 [5,6,7,9,39])
def o92_11:List IOp:=[q (.val 40 (.faddr 2) [.t 9]),
 q (.load 41 (.t 40) 1 false),
 q (.val 42 (.iaddr 12 1) [.t 5,.t 41]),
 q (.load 43 (.t 42) 1 false)]
def r92_11:IC:=(.reg o92_11 [5,6,7,9,43])
def o92_12:List IOp:=[q (.val 44 (.faddr 2) [.t 9]),
 q (.load 45 (.t 44) 1 false),
 q (.val 46 (.iaddr 12 1) [.t 5,.t 45]),
 q (.store (.t 46) (.k (.p (.bool true))) 1)]
def r92_12:IC:=(.reg o92_12 [6,7,9])
def o92_13:List IOp:=[q (.val 47 (.faddr 2) [.t 9]),
 q (.load 48 (.t 47) 1 false),
 q (.store (.t 6) (.t 48) 1)]
def r92_13:IC:=(.reg o92_13 [7])
def o92_14:List IOp:=[q (.load 49 (.t 7) 1 false),
 q (.val 50 (.bin .add) [.t 49,ki 1]),
 q (.store (.t 7) (.t 50) 1)]
def r92_14:IC:=(.reg o92_14 [])
def ZaY:IC:=(.seq r92_6 r92_7)
def ZaX:IC:=(.block 1 (.seq (.seq r92_8 (.cond (.t 24) r92_9 (.seq r92_10 (.cond (.t 39) (.kp [] (.exit 0)) .skip)))) (.kp [5,6,7,9] (.seq (.seq r92_11 (.cond (.t 43) (.kp [] (.exit 0)) .skip)) (.kp [5,6,7,9] (.seq r92_12 (.seq r92_13 r92_14)))))))
def o92_15:List IOp:=[q (.load 51 (.t 7) 1 false),
 mv 52 1,
 q (.val 53 .len [.t 52]),
 q (.val 54 (.bin .eql) [.t 51,.t 53]),
 mv 4 54]
def r92_15:IC:=(.reg o92_15 [4])
def b92:IC:=(.seq r92_0 (.seq (.seq r92_1 (.cond (.t 17) (.seq r92_2 .ret) .skip)) (.kp [1,2] (.seq r92_3 (.seq r92_4 (.seq (.seq r92_5 (.block 0 (.rangeF (.t 20) [21,22] ZaY ZaX))) (.kp [1,7] (.seq r92_15 .ret))))))))
def i92:IFn:=⟨2,55,b92,[.tmp 4]⟩
def o93_0:List IOp:=[q (.val 4 .mov [.k (.p (.bool false))])]
def r93_0:IC:=(.reg o93_0 [0,1])
def o93_1:List IOp:=[mv 9 0,
 q (.val 10 .len [.t 9]),
 q (.val 11 .mov [ki 0])]
def r93_1:IC:=(.reg o93_1 [1,9,10,11])
def o93_2:List IOp:=[q (.val 12 (.bin .lss) [.t 11,.t 10])]
def r93_2:IC:=(.reg o93_2 [1,9,10,11,12])
def o93_3:List IOp:=[q (.val 13 (.iaddrS 1) [.t 9,.t 11]),
 q (.load 14 (.t 13) 1 false),
 mv 6 14]
def r93_3:IC:=(.reg o93_3 [1,6,9,10,11])
def o93_4:List IOp:=[mv 15 1,
 q (.val 16 .len [.t 15]),
 q (.val 17 .mov [ki 0])]
def r93_4:IC:=(.reg o93_4 [1,6,9,10,11,15,16,17])
def o93_5:List IOp:=[q (.val 18 (.bin .lss) [.t 17,.t 16])]
def r93_5:IC:=(.reg o93_5 [1,6,9,10,11,15,16,17,18])
def o93_6:List IOp:=[q (.val 19 (.iaddrS 1) [.t 15,.t 17]),
 q (.load 20 (.t 19) 1 false),
 mv 8 20]
def r93_6:IC:=(.reg o93_6 [1,6,8,9,10,11,15,16,17])
def o93_7:List IOp:=[mv 21 6,
 q (.val 22 (.bin .quo) [.t 21,ki 2]),
 mv 23 8,
 q (.val 24 (.bin .quo) [.t 23,ki 2]),
 q (.val 25 (.bin .eql) [.t 22,.t 24])]
def r93_7:IC:=(.reg o93_7 [1,6,9,10,11,15,16,17,25])
def o93_8:List IOp:=[q (.val 4 .mov [.k (.p (.bool true))])]
def r93_8:IC:=(.reg o93_8 [4])
def o93_9:List IOp:=[q (.val 26 (.bin .add) [.t 17,ki 1]),
 mv 17 26]
def r93_9:IC:=(.reg o93_9 [1,6,9,10,11,15,16,17])
def l93_2:IC:=(.seq r93_5 (.seq (.cond (.t 18) .skip (.kp [1,9,10,11] (.exit 2))) (.kp [1,6,9,10,11,15,16,17] (.seq (.block 3 (.seq r93_6 (.seq r93_7 (.cond (.t 25) (.seq r93_8 .ret) .skip)))) (.kp [1,6,9,10,11,15,16,17] r93_9)))))
def o93_10:List IOp:=[q (.val 27 (.bin .add) [.t 11,ki 1]),
 mv 11 27]
def r93_10:IC:=(.reg o93_10 [1,9,10,11])
def l93_1:IC:=(.seq r93_2 (.seq (.cond (.t 12) .skip (.kp [] (.exit 0))) (.kp [1,9,10,11] (.seq (.block 1 (.seq r93_3 (.seq r93_4 (.block 2 (.loop l93_2))))) r93_10))))
def o93_11:List IOp:=[q (.val 4 .mov [.k (.p (.bool false))])]
def r93_11:IC:=(.reg o93_11 [4])
def b93:IC:=(.seq r93_0 (.seq (.seq r93_1 (.block 0 (.loop l93_1))) (.seq r93_11 .ret)))
def i93:IFn:=⟨2,28,b93,[.tmp 4]⟩
def o94_0:List IOp:=[q (.boxL 3 (.t 0)),
 q (.val 6 .mov [.k (.p (.bool false))])]
def r94_0:IC:=(.reg o94_0 [1,2,3])
def o94_1:List IOp:=[q (.load 12 (.t 3) 3 true),
 mv 13 1,
 q (.call (some 14) 99 [.t 12,.t 13]),
 mv 7 14]
def r94_1:IC:=(.reg o94_1 [2,3,7])
def o94_2:List IOp:=[mv 15 7,
 q (.val 16 .len [.t 15]),
 q (.val 17 (.bin .sub) [.t 16,ki 1]),
 mv 8 17]
def r94_2:IC:=(.reg o94_2 [2,3,7,8])
def o94_3:List IOp:=[q (.load 18 (.t 3) 3 true),
 mv 19 2,
 q (.call (some 20) 99 [.t 18,.t 19]),
 mv 9 20]
def r94_3:IC:=(.reg o94_3 [7,8,9])
def o94_4:List IOp:=[mv 21 7,
 mv 22 8,
 mv 23 8,
 q (.val 24 (.slice 1 true true true) [.t 21,ki 1,.t 22,.t 23]),
 q (.val 25 .len [.t 24]),
 q (.val 26 .mov [ki 0])]
def r94_4:IC:=(.reg o94_4 [9,24,25,26])
def o94_5:List IOp:=[q (.val 27 (.bin .lss) [.t 26,.t 25])]
def r94_5:IC:=(.reg o94_5 [9,24,25,26,27])
def o94_6:List IOp:=[q (.val 28 (.iaddrS 1) [.t 24,.t 26]),
 q (.load 29 (.t 28) 1 false),
 mv 11 29]
def r94_6:IC:=(.reg o94_6 [9,11,24,25,26])
def o94_7:List IOp:=[mv 30 9,
 mv 31 11,
 q (.call (some 32) 100 [.t 30,.t 31])]
def r94_7:IC:=(.reg o94_7 [9,24,25,26,32])
def o94_8:List IOp:=[q (.val 6 .mov [.k (.p (.bool true))])]
def r94_8:IC:=(.reg o94_8 [6])
def o94_9:List IOp:=[q (.val 33 (.bin .add) [.t 26,ki 1]),
 mv 26 33]
def r94_9:IC:=(.reg o94_9 [9,24,25,26])
def l94_1:IC:=(.seq r94_5 (.seq (.cond (.t 27) .skip (.kp [] (.exit 0))) (.kp [9,24,25,26] (.seq (.block 1 (.seq r94_6 (.seq r94_7 (.cond (.t 32) (.seq r94_8 .ret) .skip)))) (.kp [9,24,25,26] r94_9)))))
def o94_10:List IOp:=[q (.val 6 .mov [.k (.p (.bool false))])]
def r94_10:IC:=(.reg o94_10 [6])
def b94:IC:=(.seq r94_0 (.seq r94_1 (.seq r94_2 (.seq r94_3 (.seq (.seq r94_4 (.block 0 (.loop l94_1))) (.seq r94_10 .ret))))))
def i94:IFn:=⟨3,34,b94,[.tmp 6]⟩
def o95_0:List IOp:=[q (.newL 6 [.p (.int .i64 0),.p (.int .i64 0),.p (.int .i64 0),.p (.int .i64 0),.p (.int .i64 0)])]
def r95_0:IC:=(.reg o95_0 [0,1,2,3,4,6])
def o95_1:List IOp:=[q (.val 10 (.faddr 9) [.t 1]),
 q (.load 11 (.t 10) 1 false),
 q (.load 12 (.t 2) 1 false),
 q (.val 13 (.iaddrS 1) [.t 11,.t 12]),
 q (.load 14 (.t 13) 1 false),
 q (.val 15 .len [.t 14]),
 q (.val 16 .mov [ki 0])]
def r95_1:IC:=(.reg o95_1 [0,1,3,4,6,14,15,16])
def o95_2:List IOp:=[q (.val 17 (.bin .lss) [.t 16,.t 15])]
def r95_2:IC:=(.reg o95_2 [0,1,3,4,6,14,15,16,17])
def o95_3:List IOp:=[mv 18 16,
 q (.val 19 (.iaddrS 1) [.t 14,.t 16]),
 q (.load 20 (.t 19) 1 false),
 mv 7 18,
 mv 8 20]
def r95_3:IC:=(.reg o95_3 [0,1,3,4,6,7,8,14,15,16])
def o95_4:List IOp:=[mv 21 7,
 q (.val 22 (.bin .gtr) [.t 21,ki 0])]
def r95_4:IC:=(.reg o95_4 [0,1,3,4,6,8,14,15,16,22])
def o95_5:List IOp:=[q (.val 23 (.faddr 3) [.t 6]),
 ⟨none,.loadL 24 (.t 23) 1 false,[0],none⟩,
 q (.val 25 (.faddr 4) [.t 6]),
 ⟨none,.loadL 26 (.t 25) 1 false,[2],none⟩,
 ⟨none,.val 27 (.bin .add) [.t 24,.t 26],[0,1,2,3],none⟩,
 q (.val 28 (.faddr 2) [.t 3]),
 ⟨none,.loadH 29 (.t 28) 1 false,[5],none⟩,
 q (.val 30 (.faddr 0) [.t 6]),
 ⟨none,.loadL 31 (.t 30) 1 false,[7],none⟩,
 ⟨none,.val 32 (.bin .quo) [.t 31,ki 2],[7,8],none⟩,
 ⟨none,.val 33 (.iaddrS 4) [.t 29,.t 32],[5,6,7,8,9],none⟩,
 ⟨none,.val 34 (.faddr 3) [.t 33],[5,6,7,8,9,10],none⟩,
 ⟨none,.loadH 35 (.t 34) 1 false,[5,6,7,8,9,10,11],none⟩,
 ⟨none,.val 36 (.bin .add) [.t 27,.t 35],[0,1,2,3,4,5,6,7,8,9,10,11,12],none⟩,
 q (.val 37 (.faddr 2) [.t 4]),
 ⟨none,.loadH 38 (.t 37) 1 false,[14],none⟩,
 ⟨none,.val 39 (.bin .add) [.t 36,.t 38],[0,1,2,3,4,5,6,7,8,9,10,11,12,13,14,15],none⟩,
 ⟨none,.val 9 .mov [.t 39],[0,1,2,3,4,5,6,7,8,9,10,11,12,13,14,15,16],none⟩]
def r95_5:IC:=(.regD o95_5 [0,1,3,4,6,8,9,14,15,16])
def o95_6:List IOp:=[mv 40 9,
 q (.val 41 (.faddr 1) [.t 4]),
 ⟨none,.loadH 42 (.t 41) 1 false,[1],none⟩,
 ⟨none,.val 43 (.bin .mul) [ki 2,.t 42],[1,2],none⟩,
 ⟨none,.val 44 (.bin .sub) [.t 40,.t 43],[0,1,2,3],none⟩,
 mv 45 9,
 q (.val 46 (.faddr 1) [.t 4]),
 ⟨none,.loadH 47 (.t 46) 1 false,[6],none⟩,
 ⟨none,.val 48 (.bin .mul) [ki 2,.t 47],[6,7],none⟩,
 ⟨none,.val 49 (.bin .add) [.t 45,.t 48],[5,6,7,8],none⟩,
 ⟨none,.val 50 (.faddr 1) [.t 6],[0,1,2,3,4],none⟩,
 ⟨none,.store (.t 50) (.t 44) 1,[0,1,2,3,4,10],(some 6)⟩,
 ⟨none,.val 51 (.faddr 2) [.t 6],[0,1,2,3,4,5,6,7,8,9,10,11],none⟩,
 ⟨none,.store (.t 51) (.t 49) 1,[0,1,2,3,4,5,6,7,8,9,10,11,12],none⟩]
def r95_6:IC:=(.regD o95_6 [0,1,3,4,6,8,14,15,16])
def o95_7:List IOp:=[q (.val 52 (.faddr 2) [.t 6]),
 ⟨none,.loadL 53 (.t 52) 1 false,[0],none⟩,
 q (.val 54 (.faddr 0) [.t 4]),
 ⟨none,.loadH 55 (.t 54) 1 false,[2],none⟩,
 ⟨none,.val 56 (.bin .add) [.t 53,.t 55],[0,1,2,3],none⟩,
 ⟨none,.val 57 (.bin .sub) [.t 56,ki 1],[0,1,2,3,4],none⟩,
 q (.val 58 (.faddr 0) [.t 4]),
 ⟨none,.loadH 59 (.t 58) 1 false,[6],none⟩,
 ⟨none,.val 60 (.bin .quo) [.t 57,.t 59],[0,1,2,3,4,5,6,7],none⟩,
 q (.val 61 (.faddr 0) [.t 4]),
 ⟨none,.loadH 62 (.t 61) 1 false,[9],none⟩,
 ⟨none,.val 63 (.bin .mul) [.t 60,.t 62],[0,1,2,3,4,5,6,7,8,9,10],none⟩,
 ⟨none,.val 64 (.faddr 3) [.t 6],[0,1,2,3,4,5,6,7,8,9,10,11],none⟩,
 ⟨none,.store (.t 64) (.t 63) 1,[0,1,2,3,4,5,6,7,8,9,10,11,12],none⟩]
def r95_7:IC:=(.regD o95_7 [0,1,3,4,6,8,14,15,16])
def o95_8:List IOp:=[mv 65 8,
 q (.val 66 (.faddr 4) [.t 1]),
 ⟨none,.loadH 67 (.t 66) 1 false,[1],none⟩,
 q (.val 68 (.faddr 2) [.t 3]),
 ⟨none,.loadH 69 (.t 68) 1 false,[3],none⟩,
 mv 70 8,
 ⟨none,.val 71 (.bin .quo) [.t 70,ki 2],[5],none⟩,
 ⟨none,.val 72 (.iaddrS 4) [.t 69,.t 71],[3,4,5,6],none⟩,
 ⟨none,.val 73 (.faddr 2) [.t 72],[3,4,5,6,7],none⟩,
 ⟨none,.loadH 74 (.t 73) 1 false,[3,4,5,6,7,8],none⟩,
 ⟨none,.val 75 (.bin .mul) [.t 67,.t 74],[1,2,3,4,5,6,7,8,9],none⟩,
 ⟨none,.val 76 (.faddr 0) [.t 6],[0],none⟩,
 ⟨none,.store (.t 76) (.t 65) 1,[0,11],(some 6)⟩,
 ⟨none,.val 77 (.faddr 4) [.t 6],[0,1,2,3,4,5,6,7,8,9,10,11,12],none⟩,
 ⟨none,.store (.t 77) (.t 75) 1,[0,1,2,3,4,5,6,7,8,9,10,11,12,13],none⟩]
def r95_8:IC:=(.regD o95_8 [0,1,3,4,6,14,15,16])
def o95_9:List IOp:=[mv 78 0,
 q (.load 79 (.t 6) 5 true),
 q (.callY (some 80) (.t 78) [.t 79]),
 q (.val 81 .not [.t 80])]
def r95_9:IC:=(.reg o95_9 [0,1,3,4,6,14,15,16,81])
def o95_10:List IOp:=[q (.val 82 (.bin .add) [.t 16,ki 1]),
 mv 16 82]
def r95_10:IC:=(.reg o95_10 [0,1,3,4,6,14,15,16])
def l95_1:IC:=(.seq r95_2 (.seq (.cond (.t 17) .skip (.kp [] (.exit 0))) (.kp [0,1,3,4,6,14,15,16] (.seq (.block 1 (.seq r95_3 (.seq (.seq r95_4 (.cond (.t 22) (.seq r95_5 (.seq r95_6 r95_7)) .skip)) (.kp [0,1,3,4,6,8,14,15,16] (.seq r95_8 (.seq r95_9 (.cond (.t 81) .ret .skip))))))) (.kp [0,1,3,4,6,14,15,16] r95_10)))))
def b95:IC:=(.seq r95_0 (.seq r95_1 (.block 0 (.loop l95_1))))
def i95:IFn:=⟨5,83,b95,[]⟩
def o96_0:List IOp:=[q (.boxL 2 (.t 0)),
 q (.boxH 3 (.t 1)),
 q (.val 4 .mov [.k (.p (.sl 1 true []))]),
 q (.val 5 .mov [ki 0])]
def r96_0:IC:=(.reg o96_0 [2,3])
def o96_1:List IOp:=[q (.load 6 (.t 2) 3 true),
 q (.load 7 (.t 3) 1 false),
 q (.val 8 (.mkfn 102 0) [.t 3]),
 q (.call (some 9) 101 [.t 6,.t 7,.t 8]),
 q (.val 10 (.ext 0) [.t 9]),
 q (.val 11 (.ext 1) [.t 9]),
 mv 4 10,
 mv 5 11]
def r96_1:IC:=(.reg o96_1 [4,5])
def b96:IC:=(.seq r96_0 (.seq r96_1 .ret))
def i96:IFn:=⟨2,12,b96,[.tmp 4,.tmp 5]⟩
def o97_0:List IOp:=[q (.boxL 2 (.t 0)),
 q (.val 4 .mov [ki 0])]
def r97_0:IC:=(.reg o97_0 [1,2])
def o97_1:List IOp:=[q (.load 6 (.t 2) 3 true),
 q (.call (some 7) 49 [.t 6]),
 mv 5 7]
def r97_1:IC:=(.reg o97_1 [1,2,5])
def o97_2:List IOp:=[mv 8 5,
 q (.val 9 (.bin .neq) [.t 8,ki 0])]
def r97_2:IC:=(.reg o97_2 [1,2,5,9])
def o97_3:List IOp:=[mv 10 5,
 mv 4 10]
def r97_3:IC:=(.reg o97_3 [4])
def o97_4:List IOp:=[q (.load 11 (.t 2) 3 true),
 q (.val 12 (.build [.p (.int .i64 0),.p (.sl 1 true []),.p (.sl 4 true [])] [(0,3)]) [.t 11]),
 mv 13 1,
 q (.call (some 14) 92 [.t 12,.t 13]),
 q (.val 15 .not [.t 14])]
def r97_4:IC:=(.reg o97_4 [15])
def o97_5:List IOp:=[q (.val 4 .mov [ki 310])]
def r97_5:IC:=(.reg o97_5 [4])
def o97_6:List IOp:=[q (.val 4 .mov [ki 0])]
def r97_6:IC:=(.reg o97_6 [4])
def b97:IC:=(.seq r97_0 (.seq (.seq r97_1 (.seq r97_2 (.cond (.t 9) (.seq r97_3 .ret) .skip))) (.kp [1,2] (.seq (.seq r97_4 (.cond (.t 15) (.seq r97_5 .ret) .skip)) (.kp [] (.seq r97_6 .ret))))))
def i97:IFn:=⟨2,16,b97,[.tmp 4]⟩
def o98_0:List IOp:=[q (.boxH 2 (.t 0)),
 q (.boxH 3 (.t 1)),
 q (.val 4 .mov [.k (.nl .nilFunc)])]
def r98_0:IC:=(.reg o98_0 [2,3])
def o98_1:List IOp:=[q (.val 5 (.mkfn 103 0) [.t 3,.t 2]),
 mv 4 5]
def r98_1:IC:=(.reg o98_1 [4])
def b98:IC:=(.seq r98_0 (.seq r98_1 .ret))
def i98:IFn:=⟨2,6,b98,[.tmp 4]⟩
def o99_0:List IOp:=[q (.boxL 2 (.t 0)),
 q (.val 4 .mov [.k (.p (.sl 1 true []))])]
def r99_0:IC:=(.reg o99_0 [1,2])
def o99_1:List IOp:=[mv 8 1,
 q (.val 9 .len [.t 8]),
 q (.val 10 (.bin .add) [.t 9,ki 1]),
 q (.mkSl 11 (ki 0) (.t 10) [.int .i64 0] 8),
 q (.newH 5 [.p (.sl 1 true [])]),
 q (.store (.t 5) (.t 11) 1)]
def r99_1:IC:=(.reg o99_1 [1,2,5])
def o99_2:List IOp:=[q (.load 12 (.t 2) 3 true),
 mv 13 1,
 q (.call (some 14) 98 [.t 12,.t 13])]
def r99_2:IC:=(.reg o99_2 [5,14])
def o99_3:List IOp:=[mv 6 15]
def r99_3:IC:=(.reg o99_3 [5,6,16])
def o99_4:List IOp:=[q (.newL 7 [.p (.int .i64 0),.p (.int .i64 0),.p (.int .i64 0)]),
 q (.store (.t 7) (.t 16) 3)]
def r99_4:IC:=(.reg o99_4 [5,6,7])
def o99_5:List IOp:=[mv 17 6,
 q (.val 18 (.bin .eql) [.t 17,ki 0])]
def r99_5:IC:=(.reg o99_5 [5,7,18])
def o99_6:List IOp:=[q (.load 19 (.t 5) 1 false),
 q (.val 20 (.faddr 1) [.t 7]),
 q (.load 21 (.t 20) 1 false),
 q (.litP 22 1 [.t 21]),
 q (.app 23 (.t 19) (.t 22) 1 8),
 q (.store (.t 5) (.t 23) 1)]
def r99_6:IC:=(.reg o99_6 [5,7])
def o99_7:List IOp:=[q (.load 24 (.t 5) 1 false),
 q (.val 25 (.faddr 2) [.t 7]),
 q (.load 26 (.t 25) 1 false),
 q (.litP 27 1 [.t 26]),
 q (.app 28 (.t 24) (.t 27) 1 8),
 q (.store (.t 5) (.t 28) 1)]
def r99_7:IC:=(.reg o99_7 [])
def Zbb:IC:=(.seq r99_3 r99_4)
def Zba:IC:=(.block 1 (.seq (.seq r99_5 (.cond (.t 18) r99_6 .skip)) (.kp [5,7] r99_7)))
def o99_8:List IOp:=[q (.load 29 (.t 5) 1 false),
 mv 4 29]
def r99_8:IC:=(.reg o99_8 [4])
def b99:IC:=(.seq r99_0 (.seq r99_1 (.seq (.seq r99_2 (.block 0 (.rangeF (.t 14) [15,16] Zbb Zba))) (.kp [5] (.seq r99_8 .ret)))))
def i99:IFn:=⟨2,30,b99,[.tmp 4]⟩
def o100_0:List IOp:=[q (.val 4 .mov [.k (.p (.bool false))])]
def r100_0:IC:=(.reg o100_0 [0,1])
def o100_1:List IOp:=[mv 5 0,
 mv 6 1,
 q (.call (some 7) 104 [.t 5,.t 6]),
 q (.val 8 (.bin .geq) [.t 7,ki 0]),
 mv 4 8]
def r100_1:IC:=(.reg o100_1 [4])
def b100:IC:=(.seq r100_0 (.seq r100_1 .ret))
def i100:IFn:=⟨2,9,b100,[.tmp 4]⟩
def o101_0:List IOp:=[q (.boxL 3 (.t 0)),
 q (.val 6 .mov [.k (.p (.sl 1 true []))]),
 q (.val 7 .mov [ki 0])]
def r101_0:IC:=(.reg o101_0 [1,2,3])
def o101_1:List IOp:=[q (.val 8 .mov [.k (.p (.sl 1 true []))])]
def r101_1:IC:=(.reg o101_1 [1,2,3,8])
def o101_2:List IOp:=[q (.load 10 (.t 3) 3 true),
 mv 11 1,
 q (.call (some 12) 97 [.t 10,.t 11]),
 mv 9 12]
def r101_2:IC:=(.reg o101_2 [2,3,8,9])
def o101_3:List IOp:=[mv 13 9,
 q (.val 14 (.bin .neq) [.t 13,ki 0])]
def r101_3:IC:=(.reg o101_3 [2,3,8,9,14])
def o101_4:List IOp:=[mv 15 8,
 mv 16 9,
 mv 6 15,
 mv 7 16]
def r101_4:IC:=(.reg o101_4 [6,7])
def o101_5:List IOp:=[mv 17 2,
 q (.load 18 (.t 3) 3 true),
 q (.val 19 (.build [.p (.int .i64 0),.p (.sl 1 true []),.p (.sl 4 true [])] [(0,3)]) [.t 18]),
 q (.callV (some 20) (.t 17) [.t 19]),
 q (.val 21 (.ext 0) [.t 20]),
 q (.val 22 (.ext 1) [.t 20]),
 mv 6 21,
 mv 7 22]
def r101_5:IC:=(.reg o101_5 [6,7])
def b101:IC:=(.seq r101_0 (.seq r101_1 (.seq (.seq r101_2 (.seq r101_3 (.cond (.t 14) (.seq r101_4 .ret) .skip))) (.kp [2,3] (.seq r101_5 .ret)))))
def i101:IFn:=⟨3,23,b101,[.tmp 6,.tmp 7]⟩
def o102_0:List IOp:=[q (.boxL 2 (.t 0)),
 q (.val 3 .mov [.k (.p (.sl 1 true []))]),
 q (.val 4 .mov [ki 0])]
def r102_0:IC:=(.reg o102_0 [1,2])
def o102_1:List IOp:=[q (.load 5 (.t 2) 3 true),
 q (.load 6 (.t 1) 1 false),
 q (.call (some 7) 99 [.t 5,.t 6]),
 mv 3 7,
 q (.val 4 .mov [ki 0])]
def r102_1:IC:=(.reg o102_1 [3,4])
def b102:IC:=(.seq r102_0 (.seq r102_1 .ret))
def i102:IFn:=⟨2,8,b102,[.tmp 3,.tmp 4]⟩
def o103_0:List IOp:=[q (.load 8 (.t 1) 1 false),
 q (.val 9 .len [.t 8]),
 q (.val 10 .mov [ki 0])]
def r103_0:IC:=(.reg o103_0 [0,2,8,9,10])
def o103_1:List IOp:=[q (.val 11 (.bin .lss) [.t 10,.t 9])]
def r103_1:IC:=(.reg o103_1 [0,2,8,9,10,11])
def o103_2:List IOp:=[mv 12 10,
 q (.val 13 (.iaddrS 1) [.t 8,.t 10]),
 q (.load 14 (.t 13) 1 false),
 mv 4 12,
 mv 5 14]
def r103_2:IC:=(.reg o103_2 [0,2,4,5,8,9,10])
def o103_3:List IOp:=[mv 15 5,
 q (.val 16 (.bin .lss) [.t 15,ki 0]),
 mv 17 16,
 ⟨(some (17,false)),.val 18 .mov [.t 5],[],none⟩,
 ⟨(some (17,false)),.val 19 (.faddr 0) [.t 2],[],none⟩,
 ⟨(some (17,false)),.val 20 (.faddr 2) [.t 19],[],none⟩,
 ⟨(some (17,false)),.load 21 (.t 20) 1 false,[],none⟩,
 ⟨(some (17,false)),.val 22 .len [.t 21],[],none⟩,
 ⟨(some (17,false)),.val 23 (.bin .mul) [ki 2,.t 22],[],none⟩,
 ⟨(some (17,false)),.val 24 (.bin .geq) [.t 18,.t 23],[],none⟩,
 q (.val 25 .pick [.t 17,.k (.p (.bool true)),.t 24])]
def r103_3:IC:=(.reg o103_3 [0,2,4,5,8,9,10,25])
def o103_4:List IOp:=[q (.val 26 (.faddr 0) [.t 2]),
 q (.val 27 (.faddr 2) [.t 26]),
 q (.load 28 (.t 27) 1 false),
 mv 29 5,
 q (.val 30 (.bin .quo) [.t 29,ki 2]),
 q (.val 31 (.iaddrS 4) [.t 28,.t 30]),
 q (.load 32 (.t 31) 4 true),
 q (.newL 6 [.p (.int .i64 0),.p (.int .i64 0),.p (.int .i64 0),.p (.int .i64 0)]),
 q (.store (.t 6) (.t 32) 4)]
def r103_4:IC:=(.reg o103_4 [0,2,4,5,6,8,9,10])
def o103_5:List IOp:=[mv 33 5,
 q (.val 34 (.faddr 0) [.t 6]),
 q (.load 35 (.t 34) 1 false),
 q (.val 36 (.faddr 1) [.t 6]),
 q (.load 37 (.t 36) 1 false),
 q (.val 38 (.build [.p (.int .i64 0),.p (.int .i64 0),.p (.int .i64 0)] [(0,1),(1,1),(2,1)]) [.t 33,.t 35,.t 37]),
 q (.newL 7 [.p (.int .i64 0),.p (.int .i64 0),.p (.int .i64 0)]),
 q (.store (.t 7) (.t 38) 3)]
def r103_5:IC:=(.reg o103_5 [0,2,4,5,6,7,8,9,10])
def o103_6:List IOp:=[mv 39 5,
 q (.val 40 (.bin .rem) [.t 39,ki 2]),
 q (.val 41 (.bin .eql) [.t 40,ki 1])]
def r103_6:IC:=(.reg o103_6 [0,2,4,5,6,7,8,9,10,41])
def o103_7:List IOp:=[mv 42 5,
 q (.val 43 (.faddr 1) [.t 6]),
 q (.load 44 (.t 43) 1 false),
 q (.val 45 (.faddr 0) [.t 6]),
 q (.load 46 (.t 45) 1 false),
 q (.val 47 (.build [.p (.int .i64 0),.p (.int .i64 0),.p (.int .i64 0)] [(0,1),(1,1),(2,1)]) [.t 42,.t 44,.t 46]),
 q (.store (.t 7) (.t 47) 3)]
def r103_7:IC:=(.reg o103_7 [0,2,4,7,8,9,10])
def o103_8:List IOp:=[mv 48 0,
 mv 49 4,
 q (.load 50 (.t 7) 3 true),
 q (.callY (some 51) (.t 48) [.t 49,.t 50]),
 q (.val 52 .not [.t 51])]
def r103_8:IC:=(.reg o103_8 [0,2,8,9,10,52])
def o103_9:List IOp:=[q (.val 53 (.bin .add) [.t 10,ki 1]),
 mv 10 53]
def r103_9:IC:=(.reg o103_9 [0,2,8,9,10])
def l103_1:IC:=(.seq r103_1 (.seq (.cond (.t 11) .skip (.kp [] (.exit 0))) (.kp [0,2,8,9,10] (.seq (.block 1 (.seq r103_2 (.seq (.seq r103_3 (.cond (.t 25) (.kp [] (.exit 0)) .skip)) (.kp [0,2,4,5,8,9,10] (.seq r103_4 (.seq r103_5 (.seq (.seq r103_6 (.cond (.t 41) r103_7 .skip)) (.kp [0,2,4,7,8,9,10] (.seq r103_8 (.cond (.t 52) (.kp [] (.exit 0)) .skip)))))))))) (.kp [0,2,8,9,10] r103_9)))))
def s103:IC:=(.seq (.label 0) (.seq r103_0 (.block 0 (.loop l103_1))))
def b103:IC:=(.scope s103)
def i103:IFn:=⟨3,54,b103,[]⟩
def o104_0:List IOp:=[q (.val 4 .mov [ki 0])]
def r104_0:IC:=(.reg o104_0 [0,1])
def o104_1:List IOp:=[mv 6 0,
 q (.val 7 .len [.t 6]),
 q (.val 8 .mov [ki 0])]
def r104_1:IC:=(.reg o104_1 [0,1,7,8])
def o104_2:List IOp:=[q (.val 9 (.bin .lss) [.t 8,.t 7])]
def r104_2:IC:=(.reg o104_2 [0,1,7,8,9])
def o104_3:List IOp:=[mv 10 8,
 mv 5 10]
def r104_3:IC:=(.reg o104_3 [0,1,5,7,8])
def o104_4:List IOp:=[mv 11 1,
 mv 12 0,
 mv 13 5,
 q (.val 14 (.iaddrS 1) [.t 12,.t 13]),
 q (.load 15 (.t 14) 1 false),
 q (.val 16 (.bin .eql) [.t 11,.t 15])]
def r104_4:IC:=(.reg o104_4 [0,1,5,7,8,16])
def o104_5:List IOp:=[mv 17 5,
 mv 4 17]
def r104_5:IC:=(.reg o104_5 [4])
def o104_6:List IOp:=[q (.val 18 (.bin .add) [.t 8,ki 1]),
 mv 8 18]
def r104_6:IC:=(.reg o104_6 [0,1,7,8])
def l104_1:IC:=(.seq r104_2 (.seq (.cond (.t 9) .skip (.kp [] (.exit 0))) (.kp [0,1,7,8] (.seq (.block 1 (.seq r104_3 (.seq r104_4 (.cond (.t 16) (.seq r104_5 .ret) .skip)))) (.kp [0,1,7,8] r104_6)))))
def o104_7:List IOp:=[q (.val 4 .mov [ki (-1)])]
def r104_7:IC:=(.reg o104_7 [4])
def b104:IC:=(.seq r104_0 (.seq (.seq r104_1 (.block 0 (.loop l104_1))) (.seq r104_7 .ret)))
def i104:IFn:=⟨2,19,b104,[.tmp 4]⟩
end Go.Eng

