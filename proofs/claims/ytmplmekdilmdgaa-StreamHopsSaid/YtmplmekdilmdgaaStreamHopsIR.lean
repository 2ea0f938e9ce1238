/- Part of the proof; written by a program out of the texts in wip/. -/
import Derived.Test.YtmplmekdilmdgaaStreamHopsE16
import Derived.Test.YtmplmekdilmdgaaProg
import Derived.KernelRfl
namespace Go.Eng
open Go Go.Proofs
set_option maxRecDepth 100000
set_option linter.unusedVariables false
set_option linter.unusedSimpArgs false
def q (i:Ins):IOp:=⟨none,i,[],none⟩
def mv (d x:Nat):IOp:=⟨none,.val d .mov [.t x],[],none⟩
def ki (n:Int):IX:=.k (.p (.int .i64 n))
def o3_0:List IOp:=[q (.boxL 2 (.t 0)),
 q (.val 4 .mov [.k (.p (.bool false))])]
def r3_0:IC:=(.reg o3_0 [1,2])
def o3_1:List IOp:=[q (.val 21 (.faddr 0) [.t 2]),
 q (.load 22 (.t 21) 6 true),
 q (.call (some 23) 8 [.t 22]),
 q (.newL 5 [.p (.int .i64 0),.p (.sl 1 true []),.p (.sl 4 true [])]),
 q (.store (.t 5) (.t 23) 3)]
def r3_1:IC:=(.reg o3_1 [1,2,5])
def o3_2:List IOp:=[q (.load 24 (.t 2) 26 true),
 q (.load 25 (.t 5) 3 true),
 q (.call (some 26) 9 [.t 24,.t 25]),
 q (.val 27 .mov [ki 0])]
def r3_2:IC:=(.reg o3_2 [1,2,5,26,27])
def o3_3:List IOp:=[q (.val 28 (.bin .lss) [.t 27,ki 2])]
def r3_3:IC:=(.reg o3_3 [1,2,5,26,27,28])
def o3_4:List IOp:=[q (.val 29 (.idx 2 1 false) [.t 26,.t 27]),
 mv 7 29]
def r3_4:IC:=(.reg o3_4 [1,2,5,7,26,27])
def o3_5:List IOp:=[q (.val 8 .mov [ki 0])]
def r3_5:IC:=(.reg o3_5 [1,2,5,7,8,26,27])
def o3_6:List IOp:=[mv 30 8,
 mv 31 7,
 q (.val 32 .len [.t 31]),
 q (.val 33 (.bin .lss) [.t 30,.t 32])]
def r3_6:IC:=(.reg o3_6 [1,2,5,7,8,26,27,33])
def o3_8:List IOp:=[q (.val 36 (.faddr 22) [.t 2]),
 ⟨none,.loadL 37 (.t 36) 4 true,[0],none⟩,
 q (.val 38 (.faddr 7) [.t 2]),
 ⟨none,.val 39 (.iaddr 3 1) [.t 38,ki 0],[2],none⟩,
 ⟨none,.loadL 40 (.t 39) 1 false,[2,3],none⟩,
 q (.val 41 (.faddr 7) [.t 2]),
 ⟨none,.val 42 (.iaddr 3 1) [.t 41,ki 1],[5],none⟩,
 ⟨none,.loadL 43 (.t 42) 1 false,[5,6],none⟩,
 q (.val 44 (.faddr 7) [.t 2]),
 ⟨none,.val 45 (.iaddr 3 1) [.t 44,ki 2],[8],none⟩,
 ⟨none,.loadL 46 (.t 45) 1 false,[8,9],none⟩,
 ⟨none,.callP 47 10 [.t 40,.t 43,.t 46],[2,3,4,5,6,7,8,9,10],none⟩,
 ⟨none,.val 48 (.build [.p (.int .i64 0),.p (.int .i64 0),.p (.int .i64 0),.p (.int .i64 0),.p (.int .i64 0),.p (.int .i64 0),.p (.int .i64 0),.p (.int .i64 0)] [(0,4),(4,4)]) [.t 37,.t 47],[0,1,2,3,4,5,6,7,8,9,10,11],none⟩,
 q (.val 49 .mov [ki 0])]
def r3_8:IC:=(.regD o3_8 [1,2,5,7,8,26,27,48,49])
def o3_9:List IOp:=[q (.val 50 (.bin .lss) [.t 49,ki 2])]
def r3_9:IC:=(.reg o3_9 [1,2,5,7,8,26,27,48,49,50])
def o3_10:List IOp:=[q (.val 51 (.idx 2 4 true) [.t 48,.t 49]),
 q (.newL 10 [.p (.int .i64 0),.p (.int .i64 0),.p (.int .i64 0),.p (.int .i64 0)]),
 q (.store (.t 10) (.t 51) 4)]
def r3_10:IC:=(.reg o3_10 [1,2,5,7,8,10,26,27,48,49])
def o3_11:List IOp:=[mv 52 1,
 q (.val 53 (.build [.p (.int .i64 0),.p (.int .i64 0),.p (.int .i64 0)] [(0,1),(1,1),(2,1)]) [.t 52,ki 0,ki 1]),
 q (.val 54 .mov [ki 0])]
def r3_11:IC:=(.reg o3_11 [1,2,5,7,8,10,26,27,48,49,53,54])
def o3_12:List IOp:=[q (.val 55 (.bin .lss) [.t 54,ki 3])]
def r3_12:IC:=(.reg o3_12 [1,2,5,7,8,10,26,27,48,49,53,54,55])
def o3_13:List IOp:=[q (.val 56 (.idx 3 1 false) [.t 53,.t 54]),
 mv 12 56]
def r3_13:IC:=(.reg o3_13 [1,2,5,7,8,10,12,26,27,48,49,53,54])
def o3_14:List IOp:=[q (.loadL 58 (.t 5) 3 true),
 q (.loadL 59 (.t 10) 4 true),
 mv 60 7,
 mv 61 8,
 ⟨none,.val 62 (.iaddrS 10) [.t 60,.t 61],[2,3],none⟩,
 ⟨none,.loadH 63 (.t 62) 10 true,[2,3,4],none⟩,
 mv 64 12,
 ⟨none,.call (some 65) 11 [.t 58,.t 59,.t 63,.t 64],[0,1,2,3,4,5,6],none⟩,
 ⟨none,.val 57 .mov [.t 65],[0,1,2,3,4,5,6,7],none⟩,
 ⟨none,.val 66 (.ext 0) [.t 57],[0,1,2,3,4,5,6,7,8],none⟩,
 ⟨none,.val 67 (.ext 1) [.t 57],[0,1,2,3,4,5,6,7,8],none⟩,
 ⟨none,.val 13 .mov [.t 66],[0,1,2,3,4,5,6,7,8,9],none⟩,
 ⟨none,.val 14 .mov [.t 67],[0,1,2,3,4,5,6,7,8,9,10,11],none⟩]
def r3_14:IC:=(.regD o3_14 [1,2,5,7,8,10,12,13,14,26,27,48,49,53,54])
def o3_15:List IOp:=[q (.loadL 69 (.t 5) 3 true),
 q (.loadL 70 (.t 10) 4 true),
 mv 71 7,
 mv 72 8,
 ⟨none,.val 73 (.iaddrS 10) [.t 71,.t 72],[2,3],none⟩,
 ⟨none,.loadH 74 (.t 73) 10 true,[2,3,4],none⟩,
 mv 75 12,
 ⟨none,.call (some 76) 12 [.t 69,.t 70,.t 74,.t 75],[0,1,2,3,4,5,6],none⟩,
 ⟨none,.val 68 .mov [.t 76],[0,1,2,3,4,5,6,7],none⟩,
 ⟨none,.val 77 (.ext 0) [.t 68],[0,1,2,3,4,5,6,7,8],none⟩,
 ⟨none,.val 78 (.ext 1) [.t 68],[0,1,2,3,4,5,6,7,8],none⟩,
 ⟨none,.val 15 .mov [.t 77],[0,1,2,3,4,5,6,7,8,9],none⟩,
 ⟨none,.val 16 .mov [.t 78],[0,1,2,3,4,5,6,7,8,9,10,11],none⟩]
def r3_15:IC:=(.regD o3_15 [1,2,5,7,8,10,12,13,14,15,16,26,27,48,49,53,54])
def o3_16:List IOp:=[q (.loadL 80 (.t 5) 3 true),
 q (.loadL 81 (.t 10) 4 true),
 mv 82 7,
 mv 83 8,
 ⟨none,.val 84 (.iaddrS 10) [.t 82,.t 83],[2,3],none⟩,
 ⟨none,.loadH 85 (.t 84) 10 true,[2,3,4],none⟩,
 mv 86 12,
 ⟨none,.call (some 87) 13 [.t 80,.t 81,.t 85,.t 86],[0,1,2,3,4,5,6],none⟩,
 ⟨none,.val 79 .mov [.t 87],[0,1,2,3,4,5,6,7],none⟩,
 ⟨none,.val 88 (.ext 0) [.t 79],[0,1,2,3,4,5,6,7,8],none⟩,
 ⟨none,.val 89 (.ext 1) [.t 79],[0,1,2,3,4,5,6,7,8],none⟩,
 ⟨none,.val 17 .mov [.t 88],[0,1,2,3,4,5,6,7,8,9],none⟩,
 ⟨none,.val 18 .mov [.t 89],[0,1,2,3,4,5,6,7,8,9,10,11],none⟩]
def r3_16:IC:=(.regD o3_16 [1,2,5,7,8,10,12,13,14,15,16,17,18,26,27,48,49,53,54])
def o3_17:List IOp:=[q (.loadL 91 (.t 5) 3 true),
 q (.loadL 92 (.t 10) 4 true),
 mv 93 7,
 mv 94 8,
 ⟨none,.val 95 (.iaddrS 10) [.t 93,.t 94],[2,3],none⟩,
 ⟨none,.loadH 96 (.t 95) 10 true,[2,3,4],none⟩,
 mv 97 12,
 ⟨none,.call (some 98) 14 [.t 91,.t 92,.t 96,.t 97],[0,1,2,3,4,5,6],none⟩,
 ⟨none,.val 90 .mov [.t 98],[0,1,2,3,4,5,6,7],none⟩,
 ⟨none,.val 99 (.ext 0) [.t 90],[0,1,2,3,4,5,6,7,8],none⟩,
 ⟨none,.val 100 (.ext 1) [.t 90],[0,1,2,3,4,5,6,7,8],none⟩,
 ⟨none,.val 19 .mov [.t 99],[0,1,2,3,4,5,6,7,8,9],none⟩,
 ⟨none,.val 20 .mov [.t 100],[0,1,2,3,4,5,6,7,8,9,10,11],none⟩]
def r3_17:IC:=(.regD o3_17 [1,2,5,7,8,10,13,14,15,16,17,18,19,20,26,27,48,49,53,54])
def o3_18:List IOp:=[mv 101 14,
 mv 102 16,
 q (.val 103 (.bin .neq) [.t 101,.t 102]),
 mv 104 103,
 ⟨(some (104,false)),.val 105 .mov [.t 18],[],none⟩,
 ⟨(some (104,false)),.val 106 .mov [.t 20],[],none⟩,
 ⟨(some (104,false)),.val 107 (.bin .neq) [.t 105,.t 106],[],none⟩,
 q (.val 108 .pick [.t 104,.k (.p (.bool true)),.t 107]),
 mv 109 108,
 ⟨(some (109,false)),.val 110 .mov [.t 17],[],none⟩,
 ⟨(some (109,false)),.val 111 .mov [.t 19],[],none⟩,
 ⟨(some (109,false)),.val 112 (.bin .neq) [.t 110,.t 111],[],none⟩,
 q (.val 113 .pick [.t 109,.k (.p (.bool true)),.t 112]),
 mv 114 113,
 ⟨(some (114,false)),.val 115 .mov [.t 13],[],none⟩,
 ⟨(some (114,false)),.val 116 .mov [.t 15],[],none⟩,
 ⟨(some (114,false)),.call (some 117) 15 [.t 115,.t 116],[],none⟩,
 ⟨(some (114,false)),.val 118 .not [.t 117],[],none⟩,
 q (.val 119 .pick [.t 114,.k (.p (.bool true)),.t 118])]
def r3_18:IC:=(.reg o3_18 [1,2,5,7,8,10,26,27,48,49,53,54,119])
def o3_19:List IOp:=[q (.val 4 .mov [.k (.p (.bool false))])]
def r3_19:IC:=(.reg o3_19 [4])
def o3_20:List IOp:=[q (.val 120 (.bin .add) [.t 54,ki 1]),
 mv 54 120]
def r3_20:IC:=(.reg o3_20 [1,2,5,7,8,10,26,27,48,49,53,54])
def l3_4:IC:=(.seq r3_12 (.seq (.cond (.t 55) .skip (.kp [1,2,5,7,8,26,27,48,49] (.exit 6))) (.kp [1,2,5,7,8,10,26,27,48,49,53,54] (.seq (.block 7 (.seq r3_13 (.seq r3_14 (.seq r3_15 (.seq r3_16 (.seq r3_17 (.seq r3_18 (.cond (.t 119) (.seq r3_19 .ret) .skip)))))))) (.kp [1,2,5,7,8,10,26,27,48,49,53,54] r3_20)))))
def o3_21:List IOp:=[q (.val 121 (.bin .add) [.t 49,ki 1]),
 mv 49 121]
def r3_21:IC:=(.reg o3_21 [1,2,5,7,8,26,27,48,49])
def l3_3:IC:=(.seq r3_9 (.seq (.cond (.t 50) .skip (.kp [1,2,5,7,8,26,27] (.exit 4))) (.kp [1,2,5,7,8,26,27,48,49] (.seq (.block 5 (.seq r3_10 (.seq r3_11 (.block 6 (.loop l3_4))))) r3_21))))
def o3_7:List IOp:=[mv 34 8,
 q (.val 35 (.bin .add) [.t 34,ki 1]),
 mv 8 35]
def r3_7:IC:=(.reg o3_7 [1,2,5,7,8,26,27])
def l3_2:IC:=(.seq (.seq r3_6 (.cond (.t 33) .skip (.kp [1,2,5,26,27] (.exit 2)))) (.kp [1,2,5,7,8,26,27] (.seq (.block 3 (.seq r3_8 (.block 4 (.loop l3_3)))) r3_7)))
def o3_22:List IOp:=[q (.val 122 (.bin .add) [.t 27,ki 1]),
 mv 27 122]
def r3_22:IC:=(.reg o3_22 [1,2,5,26,27])
def l3_1:IC:=(.seq r3_3 (.seq (.cond (.t 28) .skip (.kp [] (.exit 0))) (.kp [1,2,5,26,27] (.seq (.block 1 (.seq r3_4 (.seq r3_5 (.block 2 (.loop l3_2))))) r3_22))))
def o3_23:List IOp:=[q (.call (some 123) 16 []),
 mv 4 123]
def r3_23:IC:=(.reg o3_23 [4])
def b3:IC:=(.seq r3_0 (.seq r3_1 (.seq (.seq r3_2 (.block 0 (.loop l3_1))) (.seq r3_23 .ret))))
def i3:IFn:=⟨2,124,b3,[.tmp 4]⟩
def o8_0:List IOp:=[q (.boxL 1 (.t 0)),
 q (.newL 2 [.p (.int .i64 0),.p (.sl 1 true []),.p (.sl 4 true [])])]
def r8_0:IC:=(.reg o8_0 [1,2])
def o8_1:List IOp:=[q (.val 11 (.faddr 0) [.t 1]),
 q (.load 12 (.t 11) 1 false),
 q (.val 13 (.bin .rem) [.t 12,.k (.p (.int .u8 6))]),
 q (.val 14 (.conv .i64) [.t 13]),
 q (.val 15 (.bin .add) [ki 1,.t 14]),
 mv 3 15]
def r8_1:IC:=(.reg o8_1 [1,2,3])
def o8_2:List IOp:=[q (.val 16 (.faddr 1) [.t 1]),
 q (.load 17 (.t 16) 1 false),
 q (.val 18 (.bin .rem) [.t 17,.k (.p (.int .u8 5))]),
 q (.val 19 (.conv .i64) [.t 18]),
 q (.val 20 (.bin .add) [ki 2,.t 19]),
 mv 4 20]
def r8_2:IC:=(.reg o8_2 [1,2,3,4])
def o8_3:List IOp:=[mv 21 3,
 mv 22 4,
 q (.val 23 (.bin .add) [.t 21,.t 22]),
 q (.val 24 (.build [.p (.int .i64 0),.p (.sl 1 true []),.p (.sl 4 true [])] [(0,1)]) [.t 23]),
 q (.newL 5 [.p (.int .i64 0),.p (.sl 1 true []),.p (.sl 4 true [])]),
 q (.store (.t 5) (.t 24) 3)]
def r8_3:IC:=(.reg o8_3 [1,2,3,4,5])
def o8_4:List IOp:=[q (.val 6 .mov [ki 0])]
def r8_4:IC:=(.reg o8_4 [1,2,3,4,5,6])
def o8_5:List IOp:=[mv 25 6,
 q (.val 26 (.faddr 0) [.t 5]),
 q (.load 27 (.t 26) 1 false),
 q (.val 28 (.bin .lss) [.t 25,.t 27])]
def r8_5:IC:=(.reg o8_5 [1,2,3,4,5,6,28])
def o8_7:List IOp:=[q (.val 31 (.faddr 1) [.t 5]),
 q (.load 32 (.t 31) 1 false),
 mv 33 6,
 mv 34 3,
 q (.val 35 (.bin .geq) [.t 33,.t 34]),
 q (.litP 36 1 [.t 35]),
 q (.app 37 (.t 32) (.t 36) 1 1),
 q (.val 38 (.faddr 1) [.t 5]),
 q (.store (.t 38) (.t 37) 1)]
def r8_7:IC:=(.reg o8_7 [1,2,3,4,5,6])
def o8_6:List IOp:=[mv 29 6,
 q (.val 30 (.bin .add) [.t 29,ki 1]),
 mv 6 30]
def r8_6:IC:=(.reg o8_6 [1,2,3,4,5,6])
def l8_1:IC:=(.seq (.seq r8_5 (.cond (.t 28) .skip (.kp [1,2,3,4,5] (.exit 0)))) (.kp [1,2,3,4,5,6] (.seq (.block 1 r8_7) r8_6)))
def o8_8:List IOp:=[q (.val 7 .mov [ki 1])]
def r8_8:IC:=(.reg o8_8 [1,2,3,4,5,7])
def o8_9:List IOp:=[mv 39 7,
 mv 40 3,
 q (.val 41 (.bin .lss) [.t 39,.t 40])]
def r8_9:IC:=(.reg o8_9 [1,2,3,4,5,7,41])
def o8_11:List IOp:=[q (.load 44 (.t 1) 6 true),
 q (.load 45 (.t 5) 3 true),
 mv 46 7,
 q (.val 47 (.bin .sub) [.t 46,ki 1]),
 mv 48 7,
 q (.call (some 49) 30 [.t 44,.t 45,.t 47,.t 48]),
 q (.store (.t 5) (.t 49) 3)]
def r8_11:IC:=(.reg o8_11 [1,2,3,4,5,7])
def o8_10:List IOp:=[mv 42 7,
 q (.val 43 (.bin .add) [.t 42,ki 1]),
 mv 7 43]
def r8_10:IC:=(.reg o8_10 [1,2,3,4,5,7])
def l8_2:IC:=(.seq (.seq r8_9 (.cond (.t 41) .skip (.kp [1,2,3,4,5] (.exit 2)))) (.kp [1,2,3,4,5,7] (.seq (.block 3 r8_11) r8_10)))
def o8_12:List IOp:=[q (.val 8 .mov [ki 0])]
def r8_12:IC:=(.reg o8_12 [1,2,3,4,5,8])
def o8_13:List IOp:=[mv 50 8,
 mv 51 4,
 q (.val 52 (.bin .lss) [.t 50,.t 51])]
def r8_13:IC:=(.reg o8_13 [1,2,3,4,5,8,52])
def o8_15:List IOp:=[q (.loadL 55 (.t 1) 6 true),
 q (.loadL 56 (.t 5) 3 true),
 mv 57 3,
 mv 58 8,
 ⟨none,.val 59 (.bin .add) [.t 57,.t 58],[2,3],none⟩,
 q (.val 60 (.faddr 3) [.t 1]),
 ⟨none,.loadL 61 (.t 60) 1 false,[5],none⟩,
 mv 62 8,
 ⟨none,.val 63 (.bin .mul) [ki 2,.t 62],[7],none⟩,
 ⟨none,.callP 64 31 [.t 61,.t 63],[5,6,7,8],none⟩,
 mv 65 3,
 ⟨none,.val 66 (.bin .rem) [.t 64,.t 65],[5,6,7,8,9,10],none⟩,
 ⟨none,.call (some 67) 30 [.t 55,.t 56,.t 59,.t 66],[0,1,2,3,4,5,6,7,8,9,10,11],none⟩,
 ⟨none,.store (.t 5) (.t 67) 3,[0,1,2,3,4,5,6,7,8,9,10,11,12],none⟩]
def r8_15:IC:=(.regD o8_15 [1,2,3,4,5,8])
def o8_14:List IOp:=[mv 53 8,
 q (.val 54 (.bin .add) [.t 53,ki 1]),
 mv 8 54]
def r8_14:IC:=(.reg o8_14 [1,2,3,4,5,8])
def l8_3:IC:=(.seq (.seq r8_13 (.cond (.t 52) .skip (.kp [1,2,3,4,5] (.exit 4)))) (.kp [1,2,3,4,5,8] (.seq (.block 5 r8_15) r8_14)))
def o8_16:List IOp:=[mv 68 3,
 q (.val 69 (.bin .gtr) [.t 68,ki 2]),
 mv 70 69,
 ⟨(some (70,true)),.val 71 (.faddr 0) [.t 1],[],none⟩,
 ⟨(some (70,true)),.load 72 (.t 71) 1 false,[],none⟩,
 ⟨(some (70,true)),.val 73 (.bin .rem) [.t 72,.k (.p (.int .u8 2))],[],none⟩,
 ⟨(some (70,true)),.val 74 (.bin .eql) [.t 73,.k (.p (.int .u8 0))],[],none⟩,
 q (.val 75 .pick [.t 70,.t 74,.k (.p (.bool false))])]
def r8_16:IC:=(.reg o8_16 [1,2,3,4,5,75])
def o8_17:List IOp:=[q (.load 76 (.t 1) 6 true),
 q (.load 77 (.t 5) 3 true),
 mv 78 3,
 q (.val 79 (.bin .sub) [.t 78,ki 1]),
 q (.call (some 80) 30 [.t 76,.t 77,.t 79,ki 0]),
 q (.store (.t 5) (.t 80) 3)]
def r8_17:IC:=(.reg o8_17 [1,2,3,4,5])
def o8_18:List IOp:=[q (.val 9 .mov [ki 0])]
def r8_18:IC:=(.reg o8_18 [1,2,3,4,5,9])
def o8_19:List IOp:=[mv 81 9,
 mv 82 4,
 q (.val 83 (.bin .lss) [.t 81,.t 82])]
def r8_19:IC:=(.reg o8_19 [1,2,3,4,5,9,83])
def o8_21:List IOp:=[q (.val 86 (.faddr 3) [.t 1]),
 q (.load 87 (.t 86) 1 false),
 mv 88 9,
 q (.val 89 (.bin .mul) [ki 2,.t 88]),
 q (.val 90 (.bin .add) [.t 89,ki 1]),
 q (.call (some 91) 31 [.t 87,.t 90]),
 q (.val 92 (.bin .rem) [.t 91,ki 3]),
 q (.val 93 (.bin .gtr) [.t 92,ki 0])]
def r8_21:IC:=(.reg o8_21 [1,2,3,4,5,9,93])
def o8_22:List IOp:=[q (.loadL 94 (.t 1) 6 true),
 q (.loadL 95 (.t 5) 3 true),
 mv 96 3,
 mv 97 9,
 ⟨none,.val 98 (.bin .add) [.t 96,.t 97],[2,3],none⟩,
 q (.val 99 (.faddr 3) [.t 1]),
 ⟨none,.loadL 100 (.t 99) 1 false,[5],none⟩,
 mv 101 9,
 ⟨none,.val 102 (.bin .mul) [ki 2,.t 101],[7],none⟩,
 ⟨none,.val 103 (.bin .add) [.t 102,ki 1],[7,8],none⟩,
 ⟨none,.callP 104 31 [.t 100,.t 103],[5,6,7,8,9],none⟩,
 mv 105 3,
 ⟨none,.val 106 (.bin .rem) [.t 104,.t 105],[5,6,7,8,9,10,11],none⟩,
 ⟨none,.call (some 107) 30 [.t 94,.t 95,.t 98,.t 106],[0,1,2,3,4,5,6,7,8,9,10,11,12],none⟩,
 ⟨none,.store (.t 5) (.t 107) 3,[0,1,2,3,4,5,6,7,8,9,10,11,12,13],none⟩]
def r8_22:IC:=(.regD o8_22 [1,2,3,4,5,9])
def o8_20:List IOp:=[mv 84 9,
 q (.val 85 (.bin .add) [.t 84,ki 1]),
 mv 9 85]
def r8_20:IC:=(.reg o8_20 [1,2,3,4,5,9])
def l8_4:IC:=(.seq (.seq r8_19 (.cond (.t 83) .skip (.kp [1,2,3,5] (.exit 6)))) (.kp [1,2,3,4,5,9] (.seq (.block 7 (.seq r8_21 (.cond (.t 93) r8_22 .skip))) (.kp [1,2,3,4,5,9] r8_20))))
def o8_23:List IOp:=[q (.val 10 .mov [ki 0])]
def r8_23:IC:=(.reg o8_23 [1,2,3,5,10])
def o8_24:List IOp:=[mv 108 10,
 q (.val 109 (.bin .add) [.t 108,ki 1]),
 q (.val 110 (.faddr 2) [.t 1]),
 q (.load 111 (.t 110) 1 false),
 q (.val 112 .len [.t 111]),
 q (.val 113 (.bin .lss) [.t 109,.t 112]),
 mv 114 113,
 ⟨(some (114,true)),.val 115 .mov [.t 10],[],none⟩,
 ⟨(some (114,true)),.val 116 (.bin .lss) [.t 115,ki 12],[],none⟩,
 q (.val 117 .pick [.t 114,.t 116,.k (.p (.bool false))])]
def r8_24:IC:=(.reg o8_24 [1,2,3,5,10,117])
def o8_26:List IOp:=[q (.loadL 120 (.t 1) 6 true),
 q (.loadL 121 (.t 5) 3 true),
 q (.val 122 (.faddr 2) [.t 1]),
 ⟨none,.loadL 123 (.t 122) 1 false,[2],none⟩,
 mv 124 10,
 ⟨none,.val 125 (.iaddrS 1) [.t 123,.t 124],[2,3,4],none⟩,
 ⟨none,.loadH 126 (.t 125) 1 false,[2,3,4,5],none⟩,
 ⟨none,.val 127 (.conv .i64) [.t 126],[2,3,4,5,6],none⟩,
 mv 128 3,
 ⟨none,.val 129 (.bin .rem) [.t 127,.t 128],[2,3,4,5,6,7,8],none⟩,
 q (.val 130 (.faddr 2) [.t 1]),
 ⟨none,.loadL 131 (.t 130) 1 false,[10],none⟩,
 mv 132 10,
 ⟨none,.val 133 (.bin .add) [.t 132,ki 1],[12],none⟩,
 ⟨none,.val 134 (.iaddrS 1) [.t 131,.t 133],[10,11,12,13],none⟩,
 ⟨none,.loadH 135 (.t 134) 1 false,[10,11,12,13,14],none⟩,
 ⟨none,.val 136 (.conv .i64) [.t 135],[10,11,12,13,14,15],none⟩,
 mv 137 3,
 ⟨none,.val 138 (.bin .rem) [.t 136,.t 137],[10,11,12,13,14,15,16,17],none⟩,
 ⟨none,.call (some 139) 30 [.t 120,.t 121,.t 129,.t 138],[0,1,2,3,4,5,6,7,8,9,10,11,12,13,14,15,16,17,18],none⟩,
 ⟨none,.store (.t 5) (.t 139) 3,[0,1,2,3,4,5,6,7,8,9,10,11,12,13,14,15,16,17,18,19],none⟩]
def r8_26:IC:=(.regD o8_26 [1,2,3,5,10])
def o8_25:List IOp:=[mv 118 10,
 q (.val 119 (.bin .add) [.t 118,ki 2]),
 mv 10 119]
def r8_25:IC:=(.reg o8_25 [1,2,3,5,10])
def l8_5:IC:=(.seq (.seq r8_24 (.cond (.t 117) .skip (.kp [2,5] (.exit 8)))) (.kp [1,2,3,5,10] (.seq (.block 9 r8_26) r8_25)))
def o8_27:List IOp:=[q (.load 140 (.t 5) 3 true),
 q (.store (.t 2) (.t 140) 3)]
def r8_27:IC:=(.reg o8_27 [2])
def b8:IC:=(.seq r8_0 (.seq r8_1 (.seq r8_2 (.seq r8_3 (.seq (.seq r8_4 (.block 0 (.loop l8_1))) (.seq (.seq r8_8 (.block 2 (.loop l8_2))) (.seq (.seq r8_12 (.block 4 (.loop l8_3))) (.seq (.seq r8_16 (.cond (.t 75) r8_17 .skip)) (.kp [1,2,3,4,5] (.seq (.seq r8_18 (.block 6 (.loop l8_4))) (.seq (.seq r8_23 (.block 8 (.loop l8_5))) (.seq r8_27 .ret))))))))))))
def i8:IFn:=⟨1,141,b8,[.cell 2 3 true]⟩
def o9_0:List IOp:=[q (.boxL 2 (.t 0)),
 q (.boxL 3 (.t 1)),
 q (.newL 4 [.p (.sl 10 true []),.p (.sl 10 true [])])]
def r9_0:IC:=(.reg o9_0 [2,3,4])
def o9_1:List IOp:=[q (.load 9 (.t 3) 3 true),
 q (.val 10 (.faddr 6) [.t 2]),
 q (.load 11 (.t 10) 1 false),
 q (.call (some 12) 17 [.t 9,.t 11]),
 mv 5 12]
def r9_1:IC:=(.reg o9_1 [2,4,5])
def o9_2:List IOp:=[q (.litP 13 10 []),
 mv 14 5,
 q (.app 15 (.t 13) (.t 14) 10 96),
 mv 6 15]
def r9_2:IC:=(.reg o9_2 [2,4,5,6])
def o9_3:List IOp:=[mv 16 6,
 q (.val 17 .len [.t 16]),
 q (.val 18 (.bin .gtr) [.t 17,ki 0])]
def r9_3:IC:=(.reg o9_3 [2,4,5,6,18])
def o9_4:List IOp:=[q (.val 19 (.faddr 10) [.t 2]),
 q (.load 20 (.t 19) 1 false),
 q (.val 21 (.conv .i64) [.t 20]),
 mv 22 6,
 q (.val 23 .len [.t 22]),
 q (.val 24 (.bin .rem) [.t 21,.t 23]),
 mv 7 24]
def r9_4:IC:=(.reg o9_4 [2,4,5,6,7])
def o9_5:List IOp:=[mv 25 6,
 mv 26 7,
 q (.val 27 (.iaddrS 10) [.t 25,.t 26]),
 q (.load 28 (.t 27) 10 true),
 q (.newL 8 [.p (.int .i64 0),.p (.int .i64 0),.p (.int .i64 0),.p (.int .i64 0),.p (.int .i64 0),.p (.int .i64 0),.p (.int .i64 0),.p (.int .i64 0),.p (.int .i64 0),.p (.sl 1 true [])]),
 q (.store (.t 8) (.t 28) 10)]
def r9_5:IC:=(.reg o9_5 [2,4,5,6,7,8])
def o9_6:List IOp:=[q (.val 29 (.faddr 11) [.t 2]),
 q (.load 30 (.t 29) 1 false),
 q (.val 31 (.bin .rem) [.t 30,.k (.p (.int .u8 14))])]
def r9_6:IC:=(.reg o9_6 [2,4,5,6,7,8,31])
def o9_8:List IOp:=[q (.val 35 (.bin .eql) [.t 31,.k (.p (.int .u8 0))]),
 mv 34 35]
def r9_8:IC:=(.reg o9_8 [2,4,5,6,7,8,31,34])
def o9_9:List IOp:=[q (.val 36 (.faddr 12) [.t 2]),
 q (.val 37 (.faddr 0) [.t 36]),
 q (.load 38 (.t 37) 1 false),
 q (.val 39 (.faddr 0) [.t 8]),
 q (.store (.t 39) (.t 38) 1)]
def r9_9:IC:=(.reg o9_9 [4,5,6,7,8])
def o9_10:List IOp:=[q (.val 41 (.bin .eql) [.t 31,.k (.p (.int .u8 1))]),
 mv 40 41]
def r9_10:IC:=(.reg o9_10 [2,4,5,6,7,8,31,40])
def o9_11:List IOp:=[q (.val 42 (.faddr 2) [.t 8]),
 q (.load 43 (.t 42) 1 false),
 q (.val 44 (.faddr 1) [.t 8]),
 q (.load 45 (.t 44) 1 false),
 q (.val 46 (.faddr 1) [.t 8]),
 q (.store (.t 46) (.t 43) 1),
 q (.val 47 (.faddr 2) [.t 8]),
 q (.store (.t 47) (.t 45) 1)]
def r9_11:IC:=(.reg o9_11 [4,5,6,7,8])
def o9_12:List IOp:=[q (.val 49 (.bin .eql) [.t 31,.k (.p (.int .u8 2))]),
 mv 48 49]
def r9_12:IC:=(.reg o9_12 [2,4,5,6,7,8,31,48])
def o9_13:List IOp:=[q (.val 50 (.faddr 12) [.t 2]),
 q (.val 51 (.faddr 3) [.t 50]),
 q (.load 52 (.t 51) 1 false),
 q (.val 53 (.faddr 3) [.t 8]),
 q (.store (.t 53) (.t 52) 1)]
def r9_13:IC:=(.reg o9_13 [4,5,6,7,8])
def o9_14:List IOp:=[q (.val 55 (.bin .eql) [.t 31,.k (.p (.int .u8 3))]),
 mv 54 55]
def r9_14:IC:=(.reg o9_14 [2,4,5,6,7,8,31,54])
def o9_15:List IOp:=[q (.val 56 (.faddr 12) [.t 2]),
 q (.val 57 (.faddr 4) [.t 56]),
 q (.load 58 (.t 57) 1 false),
 q (.val 59 (.faddr 4) [.t 8]),
 q (.store (.t 59) (.t 58) 1)]
def r9_15:IC:=(.reg o9_15 [4,5,6,7,8])
def o9_16:List IOp:=[q (.val 61 (.bin .eql) [.t 31,.k (.p (.int .u8 4))]),
 mv 60 61]
def r9_16:IC:=(.reg o9_16 [2,4,5,6,7,8,31,60])
def o9_17:List IOp:=[q (.val 62 (.faddr 12) [.t 2]),
 q (.val 63 (.faddr 5) [.t 62]),
 q (.load 64 (.t 63) 1 false),
 q (.val 65 (.faddr 5) [.t 8]),
 q (.store (.t 65) (.t 64) 1)]
def r9_17:IC:=(.reg o9_17 [4,5,6,7,8])
def o9_18:List IOp:=[q (.val 67 (.bin .eql) [.t 31,.k (.p (.int .u8 5))]),
 mv 66 67]
def r9_18:IC:=(.reg o9_18 [2,4,5,6,7,8,31,66])
def o9_19:List IOp:=[q (.val 68 (.faddr 12) [.t 2]),
 q (.val 69 (.faddr 6) [.t 68]),
 q (.load 70 (.t 69) 2 true),
 q (.val 71 (.faddr 6) [.t 8]),
 q (.store (.t 71) (.t 70) 2)]
def r9_19:IC:=(.reg o9_19 [4,5,6,7,8])
def o9_20:List IOp:=[q (.val 73 (.bin .eql) [.t 31,.k (.p (.int .u8 6))]),
 mv 72 73]
def r9_20:IC:=(.reg o9_20 [2,4,5,6,7,8,31,72])
def o9_21:List IOp:=[q (.val 74 (.faddr 12) [.t 2]),
 q (.val 75 (.faddr 8) [.t 74]),
 q (.load 76 (.t 75) 1 false),
 q (.val 77 (.faddr 8) [.t 8]),
 q (.store (.t 77) (.t 76) 1)]
def r9_21:IC:=(.reg o9_21 [4,5,6,7,8])
def o9_22:List IOp:=[q (.val 79 (.bin .eql) [.t 31,.k (.p (.int .u8 7))]),
 mv 78 79]
def r9_22:IC:=(.reg o9_22 [2,4,5,6,7,8,31,78])
def o9_23:List IOp:=[⟨none,.litP 80 1 [],[1000000],none⟩,
 ⟨none,.val 81 (.faddr 9) [.t 8],[1000001],none⟩,
 ⟨none,.loadL 82 (.t 81) 1 false,[1,1000002],none⟩,
 ⟨none,.val 84 (.faddr 9) [.t 8],[1000004],none⟩,
 ⟨none,.loadL 85 (.t 84) 1 false,[4,1000005],none⟩,
 ⟨none,.val 86 (.iaddrS 1) [.t 85,ki 0],[4,5,1000006],none⟩,
 ⟨none,.loadH 87 (.t 86) 1 false,[4,5,6,1000007],none⟩,
 ⟨none,.litP 88 1 [.t 87],[4,5,6,7,1000008],none⟩,
 ⟨none,.appN 83 (.t 80) (.t 82) 1 24,[0,1,2,1000003],none⟩,
 ⟨none,.app 89 (.t 83) (.t 88) 1 24,[0,1,2,3,4,5,6,7,8,1000009],none⟩,
 ⟨none,.val 90 (.faddr 9) [.t 8],[0,1,2,3,4,5,6,7,8,9,1000010],none⟩,
 ⟨none,.store (.t 90) (.t 89) 1,[0,1,2,3,4,5,6,7,8,9,10,1000011],none⟩]
def r9_23:IC:=(.pu [1000008] (.regD o9_23 [4,5,6,7,8]))
def o9_24:List IOp:=[q (.val 92 (.bin .eql) [.t 31,.k (.p (.int .u8 8))]),
 mv 91 92]
def r9_24:IC:=(.reg o9_24 [2,4,5,6,7,8,31,91])
def o9_25:List IOp:=[q (.val 93 (.faddr 9) [.t 8]),
 q (.load 94 (.t 93) 1 false),
 q (.val 95 (.iaddrS 1) [.t 94,ki 0]),
 q (.load 96 (.t 95) 1 false),
 q (.val 97 (.slice 1 true false false) [.t 96,ki 1]),
 q (.litP 98 1 [.t 97]),
 q (.val 99 (.faddr 9) [.t 8]),
 q (.store (.t 99) (.t 98) 1)]
def r9_25:IC:=(.reg o9_25 [4,5,6,7,8])
def o9_26:List IOp:=[q (.val 101 (.bin .eql) [.t 31,.k (.p (.int .u8 9))]),
 mv 100 101]
def r9_26:IC:=(.reg o9_26 [2,4,5,6,7,8,31,100])
def o9_27:List IOp:=[q (.val 102 (.faddr 9) [.t 8]),
 q (.store (.t 102) (.k (.p (.sl 1 true []))) 1)]
def r9_27:IC:=(.reg o9_27 [4,5,6,7,8])
def o9_28:List IOp:=[q (.val 104 (.bin .eql) [.t 31,.k (.p (.int .u8 10))]),
 mv 103 104]
def r9_28:IC:=(.reg o9_28 [2,4,5,6,7,8,31,103])
def o9_29:List IOp:=[q (.val 105 (.faddr 1) [.t 8]),
 q (.load 106 (.t 105) 1 false),
 q (.val 107 (.faddr 2) [.t 8]),
 q (.store (.t 107) (.t 106) 1)]
def r9_29:IC:=(.reg o9_29 [4,5,6,7,8])
def o9_30:List IOp:=[q (.val 109 (.bin .eql) [.t 31,.k (.p (.int .u8 11))]),
 mv 108 109]
def r9_30:IC:=(.reg o9_30 [2,4,5,6,7,8,31,108])
def o9_31:List IOp:=[mv 110 6,
 q (.val 111 (.iaddrS 10) [.t 110,ki 0]),
 q (.val 112 (.faddr 0) [.t 111]),
 q (.load 113 (.t 112) 1 false),
 q (.val 114 (.faddr 0) [.t 8]),
 q (.store (.t 114) (.t 113) 1)]
def r9_31:IC:=(.reg o9_31 [4,5,6,7,8])
def o9_32:List IOp:=[q (.val 116 (.bin .eql) [.t 31,.k (.p (.int .u8 12))]),
 mv 115 116]
def r9_32:IC:=(.reg o9_32 [2,4,5,6,7,8,115])
def o9_33:List IOp:=[⟨none,.litP 117 1 [],[1000000],none⟩,
 ⟨none,.val 118 (.faddr 9) [.t 8],[1000001],none⟩,
 ⟨none,.loadL 119 (.t 118) 1 false,[1,1000002],none⟩,
 ⟨none,.val 121 .mov [.t 6],[1000004],none⟩,
 ⟨none,.val 122 (.iaddrS 10) [.t 121,ki 0],[4,1000005],none⟩,
 ⟨none,.val 123 (.faddr 9) [.t 122],[4,5,1000006],none⟩,
 ⟨none,.loadH 124 (.t 123) 1 false,[4,5,6,1000007],none⟩,
 ⟨none,.val 125 (.iaddrS 1) [.t 124,ki 0],[4,5,6,7,1000008],none⟩,
 ⟨none,.loadH 126 (.t 125) 1 false,[4,5,6,7,8,1000009],none⟩,
 ⟨none,.litP 127 1 [.t 126],[4,5,6,7,8,9,1000010],none⟩,
 ⟨none,.appN 120 (.t 117) (.t 119) 1 24,[0,1,2,1000003],none⟩,
 ⟨none,.app 128 (.t 120) (.t 127) 1 24,[0,1,2,3,4,5,6,7,8,9,10,1000011],none⟩,
 ⟨none,.val 129 (.faddr 9) [.t 8],[0,1,2,3,4,5,6,7,8,9,10,11,1000012],none⟩,
 ⟨none,.store (.t 129) (.t 128) 1,[0,1,2,3,4,5,6,7,8,9,10,11,12,1000013],none⟩]
def r9_33:IC:=(.pu [1000008] (.regD o9_33 [4,5,6,7,8]))
def o9_7:List IOp:=[q (.val 32 (.faddr 12) [.t 2]),
 q (.load 33 (.t 32) 10 true),
 q (.store (.t 8) (.t 33) 10)]
def r9_7:IC:=(.reg o9_7 [4,5,6,7,8])
def o9_34:List IOp:=[mv 130 6,
 mv 131 7,
 q (.load 132 (.t 8) 10 true),
 q (.val 133 (.iaddrS 10) [.t 130,.t 131]),
 q (.store (.t 133) (.t 132) 10)]
def r9_34:IC:=(.reg o9_34 [4,5,6])
def o9_35:List IOp:=[mv 134 5,
 mv 135 6,
 q (.val 136 (.build [.p (.sl 10 true []),.p (.sl 10 true [])] [(0,1),(1,1)]) [.t 134,.t 135]),
 q (.store (.t 4) (.t 136) 2)]
def r9_35:IC:=(.reg o9_35 [4])
def b9:IC:=(.seq r9_0 (.seq r9_1 (.seq r9_2 (.seq (.seq r9_3 (.cond (.t 18) (.seq r9_4 (.seq r9_5 (.seq (.seq r9_6 (.block 0 (.seq r9_8 (.cond (.t 34) r9_9 (.seq r9_10 (.cond (.t 40) r9_11 (.seq r9_12 (.cond (.t 48) r9_13 (.seq r9_14 (.cond (.t 54) r9_15 (.seq r9_16 (.cond (.t 60) r9_17 (.seq r9_18 (.cond (.t 66) r9_19 (.seq r9_20 (.cond (.t 72) r9_21 (.seq r9_22 (.cond (.t 78) r9_23 (.seq r9_24 (.cond (.t 91) r9_25 (.seq r9_26 (.cond (.t 100) r9_27 (.seq r9_28 (.cond (.t 103) r9_29 (.seq r9_30 (.cond (.t 108) r9_31 (.seq r9_32 (.cond (.t 115) r9_33 r9_7)))))))))))))))))))))))))))) (.kp [4,5,6,7,8] r9_34)))) .skip)) (.kp [4,5,6] (.seq r9_35 .ret))))))
def i9:IFn:=⟨2,137,b9,[.cell 4 2 true]⟩
def o10_0:List IOp:=[q (.newL 6 [.p (.int .i64 0),.p (.int .i64 0),.p (.int .i64 0),.p (.int .i64 0)])]
def r10_0:IC:=(.reg o10_0 [0,1,2,6])
def o10_1:List IOp:=[mv 7 0,
 q (.val 8 (.conv .i64) [.t 7]),
 q (.val 9 (.bin .mul) [ki 20,.t 8]),
 q (.val 10 (.bin .add) [ki 100,.t 9]),
 mv 11 1,
 q (.val 12 (.bin .rem) [.t 11,.k (.p (.int .u8 40))]),
 q (.val 13 (.conv .i64) [.t 12]),
 mv 14 2,
 q (.val 15 (.conv .i64) [.t 14]),
 q (.val 16 (.build [.p (.int .i64 0),.p (.int .i64 0),.p (.int .i64 0),.p (.int .i64 0)] [(0,1),(1,1),(2,1),(3,1)]) [.t 10,.t 13,.t 15,ki 8000]),
 q (.store (.t 6) (.t 16) 4)]
def r10_1:IC:=(.reg o10_1 [6])
def b10:IC:=(.seq r10_0 (.seq r10_1 .ret))
def i10:IFn:=⟨3,17,b10,[.cell 6 4 true]⟩
def o11_0:List IOp:=[q (.boxL 4 (.t 0)),
 q (.boxL 5 (.t 1)),
 q (.boxL 6 (.t 2)),
 q (.val 8 .mov [.k (.p (.sl 5 true []))]),
 q (.val 9 .mov [ki 0])]
def r11_0:IC:=(.reg o11_0 [3,4,5,6])
def o11_1:List IOp:=[q (.load 13 (.t 4) 3 true),
 q (.load 14 (.t 5) 4 true),
 q (.load 15 (.t 6) 10 true),
 mv 16 3,
 q (.call (some 17) 32 [.t 13,.t 14,.t 15,.t 16]),
 mv 10 17]
def r11_1:IC:=(.reg o11_1 [3,4,5,6,10])
def o11_2:List IOp:=[mv 18 10,
 q (.val 19 (.bin .neq) [.t 18,ki 0])]
def r11_2:IC:=(.reg o11_2 [3,4,5,6,10,19])
def o11_3:List IOp:=[mv 20 10,
 q (.val 8 .mov [.k (.p (.sl 5 true []))]),
 mv 9 20]
def r11_3:IC:=(.reg o11_3 [8,9])
def o11_4:List IOp:=[q (.newH 11 [.p (.sl 5 true [])])]
def r11_4:IC:=(.reg o11_4 [3,4,5,6,11])
def o11_5:List IOp:=[q (.load 21 (.t 4) 3 true),
 q (.load 22 (.t 5) 4 true),
 q (.load 23 (.t 6) 10 true),
 mv 24 3,
 q (.call (some 25) 33 [.t 21,.t 22,.t 23,.t 24])]
def r11_5:IC:=(.reg o11_5 [11,25])
def o11_6:List IOp:=[q (.newL 12 [.p (.int .i64 0),.p (.int .i64 0),.p (.int .i64 0),.p (.int .i64 0),.p (.int .i64 0)]),
 q (.store (.t 12) (.t 26) 5)]
def r11_6:IC:=(.reg o11_6 [11,12])
def o11_7:List IOp:=[q (.load 27 (.t 11) 1 false),
 q (.load 28 (.t 12) 5 true),
 q (.litP 29 5 [.t 28]),
 q (.app 30 (.t 27) (.t 29) 5 40),
 q (.store (.t 11) (.t 30) 1)]
def r11_7:IC:=(.reg o11_7 [])
def ZdK:IC:=r11_6
def ZdJ:IC:=(.block 1 r11_7)
def o11_8:List IOp:=[q (.load 31 (.t 11) 1 false),
 mv 8 31,
 q (.val 9 .mov [ki 0])]
def r11_8:IC:=(.reg o11_8 [8,9])
def b11:IC:=(.seq r11_0 (.seq (.seq r11_1 (.seq r11_2 (.cond (.t 19) (.seq r11_3 .ret) .skip))) (.kp [3,4,5,6] (.seq r11_4 (.seq (.seq r11_5 (.block 0 (.rangeF (.t 25) [26] ZdK ZdJ))) (.kp [11] (.seq r11_8 .ret)))))))
def i11:IFn:=⟨4,32,b11,[.tmp 8,.tmp 9]⟩
def o12_0:List IOp:=[q (.boxL 4 (.t 0)),
 q (.boxL 5 (.t 1)),
 q (.boxL 6 (.t 2)),
 q (.val 8 .mov [.k (.p (.sl 5 true []))]),
 q (.val 9 .mov [ki 0])]
def r12_0:IC:=(.reg o12_0 [3,4,5,6])
def o12_1:List IOp:=[q (.load 11 (.t 4) 3 true),
 q (.load 12 (.t 5) 4 true),
 q (.load 13 (.t 6) 10 true),
 mv 14 3,
 q (.call (some 15) 34 [.t 11,.t 12,.t 13,.t 14]),
 mv 10 15]
def r12_1:IC:=(.reg o12_1 [3,4,5,6,10])
def o12_2:List IOp:=[mv 16 10,
 q (.val 17 (.bin .neq) [.t 16,ki 0])]
def r12_2:IC:=(.reg o12_2 [3,4,5,6,10,17])
def o12_3:List IOp:=[mv 18 10,
 q (.val 8 .mov [.k (.p (.sl 5 true []))]),
 mv 9 18]
def r12_3:IC:=(.reg o12_3 [8,9])
def o12_4:List IOp:=[q (.loadL 19 (.t 4) 3 true),
 q (.loadL 20 (.t 5) 4 true),
 q (.loadL 21 (.t 6) 10 true),
 q (.val 22 (.faddr 9) [.t 6]),
 ⟨none,.loadL 23 (.t 22) 1 false,[3],none⟩,
 mv 24 3,
 ⟨none,.val 25 (.iaddrS 1) [.t 23,.t 24],[3,4,5],none⟩,
 ⟨none,.loadH 26 (.t 25) 1 false,[3,4,5,6],none⟩,
 ⟨none,.call (some 27) 35 [.t 19,.t 20,.t 21,.t 26],[0,1,2,3,4,5,6,7],none⟩,
 ⟨none,.val 8 .mov [.t 27],[0,1,2,3,4,5,6,7,8],none⟩,
 ⟨none,.val 9 .mov [ki 0],[0,1,2,3,4,5,6,7,8,9],none⟩]
def r12_4:IC:=(.regD o12_4 [8,9])
def b12:IC:=(.seq r12_0 (.seq r12_1 (.seq (.seq r12_2 (.cond (.t 17) (.seq r12_3 .ret) .skip)) (.kp [3,4,5,6] (.seq r12_4 .ret)))))
def i12:IFn:=⟨4,28,b12,[.tmp 8,.tmp 9]⟩
def o13_0:List IOp:=[q (.boxH 4 (.t 0)),
 q (.boxH 5 (.t 1)),
 q (.boxL 6 (.t 2)),
 q (.val 8 .mov [ki 0]),
 q (.val 9 .mov [ki 0])]
def r13_0:IC:=(.reg o13_0 [3,4,5,6])
def o13_1:List IOp:=[q (.load 13 (.t 4) 3 true),
 q (.load 14 (.t 5) 4 true),
 q (.load 15 (.t 6) 10 true),
 mv 16 3,
 q (.call (some 17) 32 [.t 13,.t 14,.t 15,.t 16]),
 mv 10 17]
def r13_1:IC:=(.reg o13_1 [3,4,5,6,10])
def o13_2:List IOp:=[mv 18 10,
 q (.val 19 (.bin .neq) [.t 18,ki 0])]
def r13_2:IC:=(.reg o13_2 [3,4,5,6,10,19])
def o13_3:List IOp:=[mv 20 10,
 q (.val 8 .mov [ki 0]),
 mv 9 20]
def r13_3:IC:=(.reg o13_3 [8,9])
def o13_4:List IOp:=[q (.newH 11 [.p (.int .i64 0)]),
 q (.store (.t 11) (ki 0) 1)]
def r13_4:IC:=(.reg o13_4 [3,4,5,6,11])
def o13_5:List IOp:=[q (.load 21 (.t 4) 3 true),
 q (.load 22 (.t 5) 4 true),
 q (.load 23 (.t 6) 10 true),
 mv 24 3,
 q (.call (some 25) 33 [.t 21,.t 22,.t 23,.t 24])]
def r13_5:IC:=(.reg o13_5 [4,5,11,25])
def o13_6:List IOp:=[q (.newL 12 [.p (.int .i64 0),.p (.int .i64 0),.p (.int .i64 0),.p (.int .i64 0),.p (.int .i64 0)]),
 q (.store (.t 12) (.t 26) 5)]
def r13_6:IC:=(.reg o13_6 [4,5,11,12])
def o13_7:List IOp:=[q (.val 27 (.faddr 3) [.t 12]),
 ⟨none,.loadL 28 (.t 27) 1 false,[0],none⟩,
 q (.val 29 (.faddr 4) [.t 12]),
 ⟨none,.loadL 30 (.t 29) 1 false,[2],none⟩,
 ⟨none,.val 31 (.bin .add) [.t 28,.t 30],[0,1,2,3],none⟩,
 q (.val 32 (.faddr 2) [.t 4]),
 ⟨none,.loadH 33 (.t 32) 1 false,[5],none⟩,
 q (.val 34 (.faddr 0) [.t 12]),
 ⟨none,.loadL 35 (.t 34) 1 false,[7],none⟩,
 ⟨none,.val 36 (.bin .quo) [.t 35,ki 2],[7,8],none⟩,
 ⟨none,.val 37 (.iaddrS 4) [.t 33,.t 36],[5,6,7,8,9],none⟩,
 ⟨none,.val 38 (.faddr 3) [.t 37],[5,6,7,8,9,10],none⟩,
 ⟨none,.loadH 39 (.t 38) 1 false,[5,6,7,8,9,10,11],none⟩,
 ⟨none,.val 40 (.bin .add) [.t 31,.t 39],[0,1,2,3,4,5,6,7,8,9,10,11,12],none⟩,
 q (.val 41 (.faddr 2) [.t 5]),
 ⟨none,.loadH 42 (.t 41) 1 false,[14],none⟩,
 ⟨none,.val 43 (.bin .add) [.t 40,.t 42],[0,1,2,3,4,5,6,7,8,9,10,11,12,13,14,15],none⟩,
 ⟨none,.storeH (.t 11) (.t 43) 1,[0,1,2,3,4,5,6,7,8,9,10,11,12,13,14,15,16],none⟩]
def r13_7:IC:=(.regD o13_7 [])
def Zep:IC:=r13_6
def Zeo:IC:=(.block 1 r13_7)
def o13_8:List IOp:=[q (.load 44 (.t 11) 1 false),
 mv 8 44,
 q (.val 9 .mov [ki 0])]
def r13_8:IC:=(.reg o13_8 [8,9])
def b13:IC:=(.seq r13_0 (.seq (.seq r13_1 (.seq r13_2 (.cond (.t 19) (.seq r13_3 .ret) .skip))) (.kp [3,4,5,6] (.seq r13_4 (.seq (.seq r13_5 (.block 0 (.rangeF (.t 25) [26] Zep Zeo))) (.kp [11] (.seq r13_8 .ret)))))))
def i13:IFn:=⟨4,45,b13,[.tmp 8,.tmp 9]⟩
def o14_0:List IOp:=[q (.boxL 4 (.t 0)),
 q (.boxL 5 (.t 1)),
 q (.boxL 6 (.t 2)),
 q (.val 8 .mov [ki 0]),
 q (.val 9 .mov [ki 0])]
def r14_0:IC:=(.reg o14_0 [3,4,5,6])
def o14_1:List IOp:=[q (.load 11 (.t 4) 3 true),
 q (.load 12 (.t 5) 4 true),
 q (.load 13 (.t 6) 10 true),
 mv 14 3,
 q (.call (some 15) 34 [.t 11,.t 12,.t 13,.t 14]),
 mv 10 15]
def r14_1:IC:=(.reg o14_1 [3,4,5,6,10])
def o14_2:List IOp:=[mv 16 10,
 q (.val 17 (.bin .neq) [.t 16,ki 0])]
def r14_2:IC:=(.reg o14_2 [3,4,5,6,10,17])
def o14_3:List IOp:=[mv 18 10,
 q (.val 8 .mov [ki 0]),
 mv 9 18]
def r14_3:IC:=(.reg o14_3 [8,9])
def o14_4:List IOp:=[q (.loadL 19 (.t 4) 3 true),
 q (.loadL 20 (.t 5) 4 true),
 q (.loadL 21 (.t 6) 10 true),
 q (.val 22 (.faddr 9) [.t 6]),
 ⟨none,.loadL 23 (.t 22) 1 false,[3],none⟩,
 mv 24 3,
 ⟨none,.val 25 (.iaddrS 1) [.t 23,.t 24],[3,4,5],none⟩,
 ⟨none,.loadH 26 (.t 25) 1 false,[3,4,5,6],none⟩,
 ⟨none,.call (some 27) 36 [.t 19,.t 20,.t 21,.t 26],[0,1,2,3,4,5,6,7],none⟩,
 ⟨none,.val 8 .mov [.t 27],[0,1,2,3,4,5,6,7,8],none⟩,
 ⟨none,.val 9 .mov [ki 0],[0,1,2,3,4,5,6,7,8,9],none⟩]
def r14_4:IC:=(.regD o14_4 [8,9])
def b14:IC:=(.seq r14_0 (.seq r14_1 (.seq (.seq r14_2 (.cond (.t 17) (.seq r14_3 .ret) .skip)) (.kp [3,4,5,6] (.seq r14_4 .ret)))))
def i14:IFn:=⟨4,28,b14,[.tmp 8,.tmp 9]⟩
def o15_0:List IOp:=[q (.val 4 .mov [.k (.p (.bool false))])]
def r15_0:IC:=(.reg o15_0 [0,1])
def o15_1:List IOp:=[mv 6 0,
 q (.val 7 .len [.t 6]),
 mv 8 1,
 q (.val 9 .len [.t 8]),
 q (.val 10 (.bin .neq) [.t 7,.t 9])]
def r15_1:IC:=(.reg o15_1 [0,1,10])
def o15_2:List IOp:=[q (.val 4 .mov [.k (.p (.bool false))])]
def r15_2:IC:=(.reg o15_2 [4])
def o15_3:List IOp:=[q (.val 5 .mov [ki 0])]
def r15_3:IC:=(.reg o15_3 [0,1,5])
def o15_4:List IOp:=[mv 11 5,
 mv 12 0,
 q (.val 13 .len [.t 12]),
 q (.val 14 (.bin .lss) [.t 11,.t 13])]
def r15_4:IC:=(.reg o15_4 [0,1,5,14])
def o15_6:List IOp:=[mv 17 0,
 mv 18 5,
 ⟨none,.val 19 (.iaddrS 5) [.t 17,.t 18],[0,1],none⟩,
 ⟨none,.loadH 20 (.t 19) 5 true,[0,1,2],none⟩,
 mv 21 1,
 mv 22 5,
 ⟨none,.val 23 (.iaddrS 5) [.t 21,.t 22],[4,5],none⟩,
 ⟨none,.loadH 24 (.t 23) 5 true,[4,5,6],none⟩,
 ⟨none,.val 25 (.eqS true [true,true,true,true,true]) [.t 20,.t 24],[0,1,2,3,4,5,6,7],none⟩]
def r15_6:IC:=(.regD o15_6 [0,1,5,25])
def o15_7:List IOp:=[q (.val 4 .mov [.k (.p (.bool false))])]
def r15_7:IC:=(.reg o15_7 [4])
def o15_5:List IOp:=[mv 15 5,
 q (.val 16 (.bin .add) [.t 15,ki 1]),
 mv 5 16]
def r15_5:IC:=(.reg o15_5 [0,1,5])
def l15_1:IC:=(.seq (.seq r15_4 (.cond (.t 14) .skip (.kp [] (.exit 0)))) (.kp [0,1,5] (.seq (.block 1 (.seq r15_6 (.cond (.t 25) (.seq r15_7 .ret) .skip))) (.kp [0,1,5] r15_5))))
def o15_8:List IOp:=[q (.val 4 .mov [.k (.p (.bool true))])]
def r15_8:IC:=(.reg o15_8 [4])
def b15:IC:=(.seq r15_0 (.seq (.seq r15_1 (.cond (.t 10) (.seq r15_2 .ret) .skip)) (.kp [0,1] (.seq (.seq r15_3 (.block 0 (.loop l15_1))) (.seq r15_8 .ret)))))
def i15:IFn:=⟨2,26,b15,[.tmp 4]⟩
def o16_0:List IOp:=[q (.val 0 .mov [.k (.p (.bool false))])]
def r16_0:IC:=(.reg o16_0 [])
def o16_1:List IOp:=[q (.call (some 14) 26 []),
 q (.call (some 15) 27 []),
 q (.call (some 16) 28 []),
 q (.newL 1 [.p (.int .i64 0),.p (.sl 1 true []),.p (.sl 4 true [])]),
 q (.newL 2 [.p (.int .i64 0),.p (.int .i64 0),.p (.int .i64 0),.p (.int .i64 0)]),
 q (.newL 3 [.p (.int .i64 0),.p (.int .i64 0),.p (.int .i64 0),.p (.int .i64 0),.p (.int .i64 0),.p (.int .i64 0),.p (.int .i64 0),.p (.int .i64 0),.p (.int .i64 0),.p (.sl 1 true [])]),
 q (.store (.t 1) (.t 14) 3),
 q (.store (.t 2) (.t 15) 4),
 q (.store (.t 3) (.t 16) 10)]
def r16_1:IC:=(.reg o16_1 [1,2,3])
def o16_2:List IOp:=[q (.load 18 (.t 1) 3 true),
 q (.load 19 (.t 2) 4 true),
 q (.load 20 (.t 3) 10 true),
 q (.call (some 21) 11 [.t 18,.t 19,.t 20,ki 0]),
 mv 17 21,
 q (.val 22 (.ext 0) [.t 17]),
 q (.val 23 (.ext 1) [.t 17]),
 mv 4 22,
 mv 5 23]
def r16_2:IC:=(.reg o16_2 [1,2,3,4,5])
def o16_3:List IOp:=[q (.load 25 (.t 1) 3 true),
 q (.load 26 (.t 2) 4 true),
 q (.load 27 (.t 3) 10 true),
 q (.call (some 28) 13 [.t 25,.t 26,.t 27,ki 0]),
 mv 24 28,
 q (.val 29 (.ext 0) [.t 24]),
 q (.val 30 (.ext 1) [.t 24]),
 mv 6 29,
 mv 7 30]
def r16_3:IC:=(.reg o16_3 [1,2,3,4,5,6,7])
def o16_4:List IOp:=[q (.load 32 (.t 1) 3 true),
 q (.load 33 (.t 2) 4 true),
 q (.load 34 (.t 3) 10 true),
 q (.call (some 35) 11 [.t 32,.t 33,.t 34,ki 1]),
 mv 31 35,
 q (.val 36 (.ext 0) [.t 31]),
 q (.val 37 (.ext 1) [.t 31]),
 mv 8 36,
 mv 9 37]
def r16_4:IC:=(.reg o16_4 [1,3,4,5,6,7,9])
def o16_5:List IOp:=[mv 38 5,
 q (.val 39 (.bin .neq) [.t 38,ki 0]),
 mv 40 39,
 ⟨(some (40,false)),.val 41 .mov [.t 7],[],none⟩,
 ⟨(some (40,false)),.val 42 (.bin .neq) [.t 41,ki 0],[],none⟩,
 q (.val 43 .pick [.t 40,.k (.p (.bool true)),.t 42]),
 mv 44 43,
 ⟨(some (44,false)),.val 45 .mov [.t 4],[],none⟩,
 ⟨(some (44,false)),.val 46 .len [.t 45],[],none⟩,
 ⟨(some (44,false)),.val 47 (.bin .neq) [.t 46,ki 2],[],none⟩,
 q (.val 48 .pick [.t 44,.k (.p (.bool true)),.t 47]),
 mv 49 48,
 ⟨(some (49,false)),.val 50 .mov [.t 4],[],none⟩,
 ⟨(some (49,false)),.val 51 (.iaddrS 5) [.t 50,ki 0],[],none⟩,
 ⟨(some (49,false)),.load 52 (.t 51) 5 true,[],none⟩,
 ⟨(some (49,false)),.val 53 (.build [.p (.int .i64 0),.p (.int .i64 0),.p (.int .i64 0),.p (.int .i64 0),.p (.int .i64 0)] [(0,1),(4,1)]) [ki 0,ki 800],[],none⟩,
 ⟨(some (49,false)),.val 54 (.eqS true [true,true,true,true,true]) [.t 52,.t 53],[],none⟩,
 q (.val 55 .pick [.t 49,.k (.p (.bool true)),.t 54]),
 mv 56 55,
 ⟨(some (56,false)),.val 57 .mov [.t 4],[],none⟩,
 ⟨(some (56,false)),.val 58 (.iaddrS 5) [.t 57,ki 1],[],none⟩,
 ⟨(some (56,false)),.load 59 (.t 58) 5 true,[],none⟩,
 ⟨(some (56,false)),.val 60 (.build [.p (.int .i64 0),.p (.int .i64 0),.p (.int .i64 0),.p (.int .i64 0),.p (.int .i64 0)] [(0,1),(1,1),(2,1),(3,1),(4,1)]) [ki 2,ki 811,ki 819,ki 900,ki 800],[],none⟩,
 ⟨(some (56,false)),.val 61 (.eqS true [true,true,true,true,true]) [.t 59,.t 60],[],none⟩,
 q (.val 62 .pick [.t 56,.k (.p (.bool true)),.t 61])]
def r16_5:IC:=(.reg o16_5 [1,3,6,9,62])
def o16_6:List IOp:=[q (.val 0 .mov [.k (.p (.bool false))])]
def r16_6:IC:=(.reg o16_6 [0])
def o16_7:List IOp:=[q (.loadL 63 (.t 3) 10 true),
 ⟨none,.loadL 64 (.t 3) 10 true,[],(some 3)⟩,
 ⟨none,.loadL 65 (.t 3) 10 true,[],(some 3)⟩,
 q (.newL 10 [.p (.int .i64 0),.p (.int .i64 0),.p (.int .i64 0),.p (.int .i64 0),.p (.int .i64 0),.p (.int .i64 0),.p (.int .i64 0),.p (.int .i64 0),.p (.int .i64 0),.p (.sl 1 true [])]),
 q (.newL 11 [.p (.int .i64 0),.p (.int .i64 0),.p (.int .i64 0),.p (.int .i64 0),.p (.int .i64 0),.p (.int .i64 0),.p (.int .i64 0),.p (.int .i64 0),.p (.int .i64 0),.p (.sl 1 true [])]),
 q (.newL 12 [.p (.int .i64 0),.p (.int .i64 0),.p (.int .i64 0),.p (.int .i64 0),.p (.int .i64 0),.p (.int .i64 0),.p (.int .i64 0),.p (.int .i64 0),.p (.int .i64 0),.p (.sl 1 true [])]),
 ⟨none,.store (.t 10) (.t 63) 10,[0,3,4,5],(some 10)⟩,
 ⟨none,.store (.t 11) (.t 64) 10,[0,1,3,4,5,6],(some 11)⟩,
 ⟨none,.store (.t 12) (.t 65) 10,[0,1,2,3,4,5,6,7],none⟩]
def r16_7:IC:=(.regD o16_7 [1,3,6,9,10,11,12])
def o16_8:List IOp:=[q (.litP 66 1 [ki 2,ki 0]),
 q (.litP 67 1 [.t 66]),
 q (.val 68 (.faddr 2) [.t 10]),
 q (.store (.t 68) (ki 1) 1),
 q (.val 69 (.faddr 4) [.t 11]),
 q (.store (.t 69) (ki 83) 1),
 q (.val 70 (.faddr 9) [.t 12]),
 q (.store (.t 70) (.t 67) 1)]
def r16_8:IC:=(.reg o16_8 [1,3,6,9,10,11,12])
def o16_9:List IOp:=[q (.load 71 (.t 1) 3 true),
 q (.load 72 (.t 10) 10 true),
 q (.call (some 73) 18 [.t 71,.t 72]),
 q (.val 74 (.bin .eql) [.t 73,ki 321]),
 mv 75 74,
 ⟨(some (75,true)),.load 76 (.t 1) 3 true,[],none⟩,
 ⟨(some (75,true)),.load 77 (.t 11) 10 true,[],none⟩,
 ⟨(some (75,true)),.call (some 78) 18 [.t 76,.t 77],[],none⟩,
 ⟨(some (75,true)),.val 79 (.bin .eql) [.t 78,ki 321],[],none⟩,
 q (.val 80 .pick [.t 75,.t 79,.k (.p (.bool false))]),
 mv 81 80,
 ⟨(some (81,true)),.load 82 (.t 1) 3 true,[],none⟩,
 ⟨(some (81,true)),.load 83 (.t 12) 10 true,[],none⟩,
 ⟨(some (81,true)),.call (some 84) 18 [.t 82,.t 83],[],none⟩,
 ⟨(some (81,true)),.val 85 (.bin .eql) [.t 84,ki 321],[],none⟩,
 q (.val 86 .pick [.t 81,.t 85,.k (.p (.bool false))]),
 mv 13 86]
def r16_9:IC:=(.reg o16_9 [1,3,6,9,13])
def o16_10:List IOp:=[mv 87 6,
 q (.val 88 (.bin .eql) [.t 87,ki 1715]),
 mv 89 88,
 ⟨(some (89,true)),.val 90 .mov [.t 9],[],none⟩,
 ⟨(some (89,true)),.val 91 (.bin .eql) [.t 90,ki 2],[],none⟩,
 q (.val 92 .pick [.t 89,.t 91,.k (.p (.bool false))]),
 mv 93 92,
 ⟨(some (93,true)),.val 94 .mov [.t 13],[],none⟩,
 q (.val 95 .pick [.t 93,.t 94,.k (.p (.bool false))]),
 mv 96 95,
 ⟨(some (96,true)),.load 97 (.t 1) 3 true,[],none⟩,
 ⟨(some (96,true)),.load 98 (.t 3) 10 true,[],none⟩,
 ⟨(some (96,true)),.load 99 (.t 3) 10 true,[],none⟩,
 ⟨(some (96,true)),.litP 100 10 [.t 98,.t 99],[],none⟩,
 ⟨(some (96,true)),.call (some 101) 19 [.t 97,.t 100],[],none⟩,
 ⟨(some (96,true)),.val 102 (.bin .eql) [.t 101,ki 322],[],none⟩,
 q (.val 103 .pick [.t 96,.t 102,.k (.p (.bool false))]),
 mv 104 103,
 ⟨(some (104,true)),.load 105 (.t 1) 3 true,[],none⟩,
 ⟨(some (104,true)),.load 106 (.t 3) 10 true,[],none⟩,
 ⟨(some (104,true)),.call (some 107) 18 [.t 105,.t 106],[],none⟩,
 ⟨(some (104,true)),.val 108 (.bin .eql) [.t 107,ki 0],[],none⟩,
 q (.val 109 .pick [.t 104,.t 108,.k (.p (.bool false))]),
 mv 0 109]
def r16_10:IC:=(.reg o16_10 [0])
def b16:IC:=(.seq r16_0 (.seq r16_1 (.seq r16_2 (.seq r16_3 (.seq r16_4 (.seq (.seq r16_5 (.cond (.t 62) (.seq r16_6 .ret) .skip)) (.kp [1,3,6,9] (.seq r16_7 (.seq r16_8 (.seq r16_9 (.seq r16_10 .ret)))))))))))
def i16:IFn:=⟨0,110,b16,[.tmp 0]⟩
def o17_0:List IOp:=[q (.boxL 2 (.t 0)),
 q (.val 4 .mov [.k (.p (.sl 10 true []))])]
def r17_0:IC:=(.reg o17_0 [1,2])
def o17_1:List IOp:=[q (.val 5 .mov [.k (.p (.sl 10 true []))])]
def r17_1:IC:=(.reg o17_1 [1,2,5])
def o17_2:List IOp:=[q (.val 6 .mov [ki 0])]
def r17_2:IC:=(.reg o17_2 [1,2,5,6])
def o17_3:List IOp:=[mv 9 6,
 mv 10 1,
 q (.val 11 .len [.t 10]),
 q (.val 12 (.bin .lss) [.t 9,.t 11]),
 mv 13 12,
 ⟨(some (13,true)),.val 14 .mov [.t 5],[],none⟩,
 ⟨(some (13,true)),.val 15 .len [.t 14],[],none⟩,
 ⟨(some (13,true)),.val 16 (.bin .lss) [.t 15,ki 6],[],none⟩,
 q (.val 17 .pick [.t 13,.t 16,.k (.p (.bool false))])]
def r17_3:IC:=(.reg o17_3 [1,2,5,6,17])
def o17_5:List IOp:=[mv 21 1,
 mv 22 6,
 ⟨none,.val 23 (.iaddrS 8) [.t 21,.t 22],[0,1],none⟩,
 ⟨none,.loadH 24 (.t 23) 8 true,[0,1,2],none⟩,
 q (.loadL 25 (.t 2) 3 true),
 mv 26 5,
 ⟨none,.val 27 .len [.t 26],[5],none⟩,
 ⟨none,.val 28 (.bin .add) [.t 27,ki 1],[5,6],none⟩,
 ⟨none,.callP 29 37 [.t 24,.t 25,.t 28],[0,1,2,3,4,5,6,7],none⟩,
 ⟨none,.val 20 .mov [.t 29],[0,1,2,3,4,5,6,7,8],none⟩,
 ⟨none,.val 30 (.ext 0) [.t 20],[0,1,2,3,4,5,6,7,8,9],none⟩,
 ⟨none,.val 31 (.ext 1) [.t 20],[0,1,2,3,4,5,6,7,8,9],none⟩,
 q (.newL 7 [.p (.int .i64 0),.p (.int .i64 0),.p (.int .i64 0),.p (.int .i64 0),.p (.int .i64 0),.p (.int .i64 0),.p (.int .i64 0),.p (.int .i64 0),.p (.int .i64 0),.p (.sl 1 true [])]),
 ⟨none,.store (.t 7) (.t 30) 10,[0,1,2,3,4,5,6,7,8,9,10,12],none⟩,
 ⟨none,.val 8 .mov [.t 31],[0,1,2,3,4,5,6,7,8,9,10,11,12,13],none⟩]
def r17_5:IC:=(.regD o17_5 [1,2,5,6,7,8])
def o17_6:List IOp:=[mv 32 8]
def r17_6:IC:=(.reg o17_6 [1,2,5,6,7,32])
def o17_7:List IOp:=[mv 33 5,
 q (.load 34 (.t 7) 10 true),
 q (.litP 35 10 [.t 34]),
 q (.app 36 (.t 33) (.t 35) 10 96),
 mv 5 36]
def r17_7:IC:=(.reg o17_7 [1,2,5,6])
def o17_4:List IOp:=[mv 18 6,
 q (.val 19 (.bin .add) [.t 18,ki 1]),
 mv 6 19]
def r17_4:IC:=(.reg o17_4 [1,2,5,6])
def l17_1:IC:=(.seq (.seq r17_3 (.cond (.t 17) .skip (.kp [5] (.exit 0)))) (.kp [1,2,5,6] (.seq (.block 1 (.seq r17_5 (.seq r17_6 (.cond (.t 32) r17_7 .skip)))) (.kp [1,2,5,6] r17_4))))
def o17_8:List IOp:=[mv 37 5,
 mv 4 37]
def r17_8:IC:=(.reg o17_8 [4])
def b17:IC:=(.seq r17_0 (.seq r17_1 (.seq (.seq r17_2 (.block 0 (.loop l17_1))) (.seq r17_8 .ret))))
def i17:IFn:=⟨2,38,b17,[.tmp 4]⟩
def o18_0:List IOp:=[q (.boxL 2 (.t 0)),
 q (.boxL 3 (.t 1)),
 q (.val 4 .mov [ki 0])]
def r18_0:IC:=(.reg o18_0 [2,3])
def o18_1:List IOp:=[q (.load 6 (.t 2) 3 true),
 q (.call (some 7) 38 [.t 6]),
 mv 5 7]
def r18_1:IC:=(.reg o18_1 [2,3,5])
def o18_2:List IOp:=[mv 8 5,
 q (.val 9 (.bin .neq) [.t 8,ki 0])]
def r18_2:IC:=(.reg o18_2 [2,3,5,9])
def o18_3:List IOp:=[mv 10 5,
 mv 4 10]
def r18_3:IC:=(.reg o18_3 [4])
def o18_4:List IOp:=[q (.load 11 (.t 2) 3 true),
 q (.load 12 (.t 3) 10 true),
 q (.call (some 13) 39 [.t 11,.t 12]),
 q (.val 14 .not [.t 13])]
def r18_4:IC:=(.reg o18_4 [14])
def o18_5:List IOp:=[q (.val 4 .mov [ki 321])]
def r18_5:IC:=(.reg o18_5 [4])
def o18_6:List IOp:=[q (.val 4 .mov [ki 0])]
def r18_6:IC:=(.reg o18_6 [4])
def b18:IC:=(.seq r18_0 (.seq (.seq r18_1 (.seq r18_2 (.cond (.t 9) (.seq r18_3 .ret) .skip))) (.kp [2,3] (.seq (.seq r18_4 (.cond (.t 14) (.seq r18_5 .ret) .skip)) (.kp [] (.seq r18_6 .ret))))))
def i18:IFn:=⟨2,15,b18,[.tmp 4]⟩
def o19_0:List IOp:=[q (.boxL 2 (.t 0)),
 q (.val 4 .mov [ki 0])]
def r19_0:IC:=(.reg o19_0 [1,2])
def o19_1:List IOp:=[q (.load 11 (.t 2) 3 true),
 q (.call (some 12) 38 [.t 11]),
 mv 5 12]
def r19_1:IC:=(.reg o19_1 [1,2,5])
def o19_2:List IOp:=[mv 13 5,
 q (.val 14 (.bin .neq) [.t 13,ki 0])]
def r19_2:IC:=(.reg o19_2 [1,2,5,14])
def o19_3:List IOp:=[mv 15 5,
 mv 4 15]
def r19_3:IC:=(.reg o19_3 [4])
def o19_4:List IOp:=[mv 16 1,
 q (.val 17 .len [.t 16]),
 q (.val 18 (.bin .gtr) [.t 17,ki 12])]
def r19_4:IC:=(.reg o19_4 [1,2,18])
def o19_5:List IOp:=[q (.val 4 .mov [ki 3])]
def r19_5:IC:=(.reg o19_5 [4])
def o19_6:List IOp:=[mv 19 1,
 q (.val 20 .len [.t 19]),
 q (.val 21 .mov [ki 0])]
def r19_6:IC:=(.reg o19_6 [1,2,19,20,21])
def o19_7:List IOp:=[q (.val 22 (.bin .lss) [.t 21,.t 20])]
def r19_7:IC:=(.reg o19_7 [1,2,19,20,21,22])
def o19_8:List IOp:=[q (.val 23 (.iaddrS 10) [.t 19,.t 21]),
 q (.load 24 (.t 23) 10 true),
 q (.newL 7 [.p (.int .i64 0),.p (.int .i64 0),.p (.int .i64 0),.p (.int .i64 0),.p (.int .i64 0),.p (.int .i64 0),.p (.int .i64 0),.p (.int .i64 0),.p (.int .i64 0),.p (.sl 1 true [])]),
 q (.store (.t 7) (.t 24) 10)]
def r19_8:IC:=(.reg o19_8 [1,2,7,19,20,21])
def o19_9:List IOp:=[q (.load 25 (.t 2) 3 true),
 q (.load 26 (.t 7) 10 true),
 q (.call (some 27) 39 [.t 25,.t 26]),
 q (.val 28 .not [.t 27])]
def r19_9:IC:=(.reg o19_9 [1,2,19,20,21,28])
def o19_10:List IOp:=[q (.val 4 .mov [ki 321])]
def r19_10:IC:=(.reg o19_10 [4])
def o19_11:List IOp:=[q (.val 29 (.bin .add) [.t 21,ki 1]),
 mv 21 29]
def r19_11:IC:=(.reg o19_11 [1,2,19,20,21])
def l19_1:IC:=(.seq r19_7 (.seq (.cond (.t 22) .skip (.kp [1] (.exit 0))) (.kp [1,2,19,20,21] (.seq (.block 1 (.seq r19_8 (.seq r19_9 (.cond (.t 28) (.seq r19_10 .ret) .skip)))) (.kp [1,2,19,20,21] r19_11)))))
def o19_12:List IOp:=[q (.sp (some 30) .mkMap []),
 mv 8 30]
def r19_12:IC:=(.reg o19_12 [1,8])
def o19_13:List IOp:=[mv 31 1,
 q (.val 32 .len [.t 31]),
 q (.val 33 .mov [ki 0])]
def r19_13:IC:=(.reg o19_13 [8,31,32,33])
def o19_14:List IOp:=[q (.val 34 (.bin .lss) [.t 33,.t 32])]
def r19_14:IC:=(.reg o19_14 [8,31,32,33,34])
def o19_15:List IOp:=[q (.val 35 (.iaddrS 10) [.t 31,.t 33]),
 q (.load 36 (.t 35) 10 true),
 q (.newL 10 [.p (.int .i64 0),.p (.int .i64 0),.p (.int .i64 0),.p (.int .i64 0),.p (.int .i64 0),.p (.int .i64 0),.p (.int .i64 0),.p (.int .i64 0),.p (.int .i64 0),.p (.sl 1 true [])]),
 q (.store (.t 10) (.t 36) 10)]
def r19_15:IC:=(.reg o19_15 [8,10,31,32,33])
def o19_16:List IOp:=[mv 37 8,
 q (.val 38 (.faddr 0) [.t 10]),
 q (.load 39 (.t 38) 1 false),
 q (.sp (some 40) (.mapGet 0 false (.p (.bool false))) [.t 37,.t 39])]
def r19_16:IC:=(.reg o19_16 [8,10,31,32,33,40])
def o19_17:List IOp:=[q (.val 4 .mov [ki 322])]
def r19_17:IC:=(.reg o19_17 [4])
def o19_18:List IOp:=[mv 41 8,
 q (.val 42 (.faddr 0) [.t 10]),
 q (.load 43 (.t 42) 1 false),
 q (.sp none (.mapSet 0) [.t 41,.t 43,.k (.p (.bool true))])]
def r19_18:IC:=(.reg o19_18 [8,31,32,33])
def o19_19:List IOp:=[q (.val 44 (.bin .add) [.t 33,ki 1]),
 mv 33 44]
def r19_19:IC:=(.reg o19_19 [8,31,32,33])
def l19_2:IC:=(.seq r19_14 (.seq (.cond (.t 34) .skip (.kp [] (.exit 2))) (.kp [8,31,32,33] (.seq (.block 3 (.seq r19_15 (.seq (.seq r19_16 (.cond (.t 40) (.seq r19_17 .ret) .skip)) (.kp [8,10,31,32,33] r19_18)))) (.kp [8,31,32,33] r19_19)))))
def o19_20:List IOp:=[q (.val 4 .mov [ki 0])]
def r19_20:IC:=(.reg o19_20 [4])
def b19:IC:=(.seq r19_0 (.seq (.seq r19_1 (.seq r19_2 (.cond (.t 14) (.seq r19_3 .ret) .skip))) (.kp [1,2] (.seq (.seq r19_4 (.cond (.t 18) (.seq r19_5 .ret) .skip)) (.kp [1,2] (.seq (.seq r19_6 (.block 0 (.loop l19_1))) (.seq r19_12 (.seq (.seq r19_13 (.block 2 (.loop l19_2))) (.seq r19_20 .ret)))))))))
def i19:IFn:=⟨2,45,b19,[.tmp 4]⟩
def o20_0:List IOp:=[q (.boxL 1 (.t 0)),
 q (.val 2 .mov [ki 0])]
def r20_0:IC:=(.reg o20_0 [1])
def o20_1:List IOp:=[q (.val 3 (.faddr 0) [.t 1]),
 q (.load 4 (.t 3) 1 false),
 q (.call (some 5) 40 [.t 4,ki 1,ki 10000]),
 q (.val 6 .not [.t 5]),
 mv 7 6,
 ⟨(some (7,false)),.val 8 (.faddr 1) [.t 1],[],none⟩,
 ⟨(some (7,false)),.load 9 (.t 8) 1 false,[],none⟩,
 ⟨(some (7,false)),.call (some 10) 40 [.t 9,ki 0,ki 1000],[],none⟩,
 ⟨(some (7,false)),.val 11 .not [.t 10],[],none⟩,
 q (.val 12 .pick [.t 7,.k (.p (.bool true)),.t 11])]
def r20_1:IC:=(.reg o20_1 [1,12])
def o20_2:List IOp:=[q (.val 2 .mov [ki 320])]
def r20_2:IC:=(.reg o20_2 [2])
def o20_3:List IOp:=[q (.val 13 (.faddr 2) [.t 1]),
 q (.load 14 (.t 13) 1 false),
 q (.call (some 15) 40 [.t 14,ki 0,ki 10000]),
 q (.val 16 .not [.t 15]),
 mv 17 16,
 ⟨(some (17,false)),.val 18 (.faddr 3) [.t 1],[],none⟩,
 ⟨(some (17,false)),.load 19 (.t 18) 1 false,[],none⟩,
 ⟨(some (17,false)),.call (some 20) 40 [.t 19,ki 1542,ki 65536],[],none⟩,
 ⟨(some (17,false)),.val 21 .not [.t 20],[],none⟩,
 q (.val 22 .pick [.t 17,.k (.p (.bool true)),.t 21])]
def r20_3:IC:=(.reg o20_3 [22])
def o20_4:List IOp:=[q (.val 2 .mov [ki 320])]
def r20_4:IC:=(.reg o20_4 [2])
def o20_5:List IOp:=[q (.val 2 .mov [ki 0])]
def r20_5:IC:=(.reg o20_5 [2])
def b20:IC:=(.seq r20_0 (.seq (.seq r20_1 (.cond (.t 12) (.seq r20_2 .ret) .skip)) (.kp [1] (.seq (.seq r20_3 (.cond (.t 22) (.seq r20_4 .ret) .skip)) (.kp [] (.seq r20_5 .ret))))))
def i20:IFn:=⟨1,23,b20,[.tmp 2]⟩
def o26_0:List IOp:=[q (.newL 0 [.p (.int .i64 0),.p (.sl 1 true []),.p (.sl 4 true [])])]
def r26_0:IC:=(.reg o26_0 [0])
def o26_1:List IOp:=[q (.litP 1 1 [.k (.p (.bool true)),.k (.p (.bool false)),.k (.p (.bool true))]),
 q (.val 2 (.build [.p (.int .i64 0),.p (.int .i64 0),.p (.int .i64 0),.p (.int .i64 0)] [(0,1),(1,1),(2,1),(3,1)]) [ki 0,ki 1,ki 8,ki 5]),
 q (.val 3 (.build [.p (.int .i64 0),.p (.int .i64 0),.p (.int .i64 0),.p (.int .i64 0)] [(0,1),(1,1),(2,1),(3,1)]) [ki 1,ki 2,ki 8,ki 5]),
 q (.litP 4 4 [.t 2,.t 3]),
 q (.val 5 (.build [.p (.int .i64 0),.p (.sl 1 true []),.p (.sl 4 true [])] [(0,1),(1,1),(2,1)]) [ki 3,.t 1,.t 4]),
 q (.store (.t 0) (.t 5) 3)]
def r26_1:IC:=(.reg o26_1 [0])
def b26:IC:=(.seq r26_0 (.seq r26_1 .ret))
def i26:IFn:=⟨0,6,b26,[.cell 0 3 true]⟩
def o27_0:List IOp:=[q (.newL 0 [.p (.int .i64 0),.p (.int .i64 0),.p (.int .i64 0),.p (.int .i64 0)])]
def r27_0:IC:=(.reg o27_0 [0])
def o27_1:List IOp:=[q (.val 1 (.build [.p (.int .i64 0),.p (.int .i64 0),.p (.int .i64 0),.p (.int .i64 0)] [(0,1),(1,1),(2,1),(3,1)]) [ki 100,ki 2,ki 10,ki 8000]),
 q (.store (.t 0) (.t 1) 4)]
def r27_1:IC:=(.reg o27_1 [0])
def b27:IC:=(.seq r27_0 (.seq r27_1 .ret))
def i27:IFn:=⟨0,2,b27,[.cell 0 4 true]⟩
def o28_0:List IOp:=[q (.newL 0 [.p (.int .i64 0),.p (.int .i64 0),.p (.int .i64 0),.p (.int .i64 0),.p (.int .i64 0),.p (.int .i64 0),.p (.int .i64 0),.p (.int .i64 0),.p (.int .i64 0),.p (.sl 1 true [])])]
def r28_0:IC:=(.reg o28_0 [0])
def o28_1:List IOp:=[q (.litP 1 1 [ki 0,ki 2]),
 q (.litP 2 1 [.t 1]),
 q (.val 3 (.build [.p (.int .i64 0),.p (.int .i64 0),.p (.int .i64 0),.p (.int .i64 0),.p (.int .i64 0),.p (.int .i64 0),.p (.int .i64 0),.p (.int .i64 0),.p (.int .i64 0),.p (.sl 1 true [])] [(0,1),(1,1),(2,1),(3,1),(4,1),(5,1),(8,1),(9,1)]) [ki 1,ki 0,ki 2,ki 7,ki 100,ki 20,ki 10000,.t 2]),
 q (.store (.t 0) (.t 3) 10)]
def r28_1:IC:=(.reg o28_1 [0])
def b28:IC:=(.seq r28_0 (.seq r28_1 .ret))
def i28:IFn:=⟨0,4,b28,[.cell 0 10 true]⟩
def o29_0:List IOp:=[q (.boxL 1 (.t 0)),
 q (.val 2 .mov [.k (.p (.bool false))])]
def r29_0:IC:=(.reg o29_0 [1])
def o29_1:List IOp:=[q (.val 9 (.faddr 0) [.t 1]),
 q (.load 10 (.t 9) 1 false),
 q (.val 11 (.bin .lss) [.t 10,ki 2]),
 mv 12 11,
 ⟨(some (12,false)),.val 13 (.faddr 0) [.t 1],[],none⟩,
 ⟨(some (12,false)),.load 14 (.t 13) 1 false,[],none⟩,
 ⟨(some (12,false)),.val 15 (.bin .gtr) [.t 14,ki 12],[],none⟩,
 q (.val 16 .pick [.t 12,.k (.p (.bool true)),.t 15]),
 mv 17 16,
 ⟨(some (17,false)),.val 18 (.faddr 1) [.t 1],[],none⟩,
 ⟨(some (17,false)),.load 19 (.t 18) 1 false,[],none⟩,
 ⟨(some (17,false)),.val 20 .len [.t 19],[],none⟩,
 ⟨(some (17,false)),.val 21 (.faddr 0) [.t 1],[],none⟩,
 ⟨(some (17,false)),.load 22 (.t 21) 1 false,[],none⟩,
 ⟨(some (17,false)),.val 23 (.bin .neq) [.t 20,.t 22],[],none⟩,
 q (.val 24 .pick [.t 17,.k (.p (.bool true)),.t 23]),
 mv 25 24,
 ⟨(some (25,false)),.val 26 (.faddr 2) [.t 1],[],none⟩,
 ⟨(some (25,false)),.load 27 (.t 26) 1 false,[],none⟩,
 ⟨(some (25,false)),.val 28 .len [.t 27],[],none⟩,
 ⟨(some (25,false)),.val 29 (.bin .gtr) [.t 28,ki 24],[],none⟩,
 q (.val 30 .pick [.t 25,.k (.p (.bool true)),.t 29])]
def r29_1:IC:=(.reg o29_1 [1,30])
def o29_2:List IOp:=[q (.val 2 .mov [.k (.p (.bool false))])]
def r29_2:IC:=(.reg o29_2 [2])
def o29_3:List IOp:=[q (.val 31 (.faddr 0) [.t 1]),
 q (.load 32 (.t 31) 1 false),
 q (.mkSl 33 (.t 32) (.t 32) [.int .i64 0] 8),
 mv 3 33]
def r29_3:IC:=(.reg o29_3 [1,3])
def o29_4:List IOp:=[q (.val 4 .mov [ki 0])]
def r29_4:IC:=(.reg o29_4 [1,3,4])
def o29_5:List IOp:=[mv 34 4,
 q (.val 35 (.faddr 2) [.t 1]),
 q (.load 36 (.t 35) 1 false),
 q (.val 37 .len [.t 36]),
 q (.val 38 (.bin .lss) [.t 34,.t 37])]
def r29_5:IC:=(.reg o29_5 [1,3,4,38])
def o29_7:List IOp:=[q (.val 41 (.faddr 2) [.t 1]),
 q (.load 42 (.t 41) 1 false),
 mv 43 4,
 q (.val 44 (.iaddrS 4) [.t 42,.t 43]),
 q (.load 45 (.t 44) 4 true),
 q (.newL 5 [.p (.int .i64 0),.p (.int .i64 0),.p (.int .i64 0),.p (.int .i64 0)]),
 q (.store (.t 5) (.t 45) 4)]
def r29_7:IC:=(.reg o29_7 [1,3,4,5])
def o29_8:List IOp:=[q (.load 46 (.t 1) 3 true),
 q (.load 47 (.t 5) 4 true),
 q (.call (some 48) 43 [.t 46,.t 47]),
 q (.val 49 .not [.t 48])]
def r29_8:IC:=(.reg o29_8 [1,3,4,5,49])
def o29_9:List IOp:=[q (.val 2 .mov [.k (.p (.bool false))])]
def r29_9:IC:=(.reg o29_9 [2])
def o29_10:List IOp:=[q (.val 6 .mov [ki 0])]
def r29_10:IC:=(.reg o29_10 [1,3,4,5,6])
def o29_11:List IOp:=[mv 50 6,
 mv 51 4,
 q (.val 52 (.bin .lss) [.t 50,.t 51])]
def r29_11:IC:=(.reg o29_11 [1,3,4,5,6,52])
def o29_13:List IOp:=[q (.val 55 (.faddr 2) [.t 1]),
 ⟨none,.loadL 56 (.t 55) 1 false,[0],none⟩,
 mv 57 6,
 ⟨none,.val 58 (.iaddrS 4) [.t 56,.t 57],[0,1,2],none⟩,
 ⟨none,.loadH 59 (.t 58) 4 true,[0,1,2,3],none⟩,
 q (.val 60 (.faddr 0) [.t 5]),
 ⟨none,.loadL 61 (.t 60) 1 false,[5],none⟩,
 q (.val 62 (.faddr 1) [.t 5]),
 ⟨none,.loadL 63 (.t 62) 1 false,[7],none⟩,
 ⟨none,.call (some 64) 44 [.t 59,.t 61,.t 63],[0,1,2,3,4,5,6,7,8],none⟩]
def r29_13:IC:=(.regD o29_13 [1,3,4,5,6,64])
def o29_14:List IOp:=[q (.val 2 .mov [.k (.p (.bool false))])]
def r29_14:IC:=(.reg o29_14 [2])
def o29_12:List IOp:=[mv 53 6,
 q (.val 54 (.bin .add) [.t 53,ki 1]),
 mv 6 54]
def r29_12:IC:=(.reg o29_12 [1,3,4,5,6])
def l29_2:IC:=(.seq (.seq r29_11 (.cond (.t 52) .skip (.kp [1,3,4,5] (.exit 2)))) (.kp [1,3,4,5,6] (.seq (.block 3 (.seq r29_13 (.cond (.t 64) (.seq r29_14 .ret) .skip))) (.kp [1,3,4,5,6] r29_12))))
def o29_15:List IOp:=[mv 65 3,
 q (.val 66 (.faddr 0) [.t 5]),
 ⟨none,.loadL 67 (.t 66) 1 false,[1],none⟩,
 mv 68 3,
 q (.val 69 (.faddr 0) [.t 5]),
 ⟨none,.loadL 70 (.t 69) 1 false,[4],none⟩,
 ⟨none,.val 71 (.iaddrS 1) [.t 68,.t 70],[3,4,5],none⟩,
 ⟨none,.loadH 72 (.t 71) 1 false,[3,4,5,6],none⟩,
 ⟨none,.val 73 (.bin .add) [.t 72,ki 1],[3,4,5,6,7],none⟩,
 ⟨none,.val 74 (.iaddrS 1) [.t 65,.t 67],[0,1,2,3,4,5,6,7,8],none⟩,
 ⟨none,.storeH (.t 74) (.t 73) 1,[0,1,2,3,4,5,6,7,8,9],none⟩]
def r29_15:IC:=(.regD o29_15 [1,3,4,5])
def o29_16:List IOp:=[mv 75 3,
 q (.val 76 (.faddr 1) [.t 5]),
 ⟨none,.loadL 77 (.t 76) 1 false,[1],none⟩,
 mv 78 3,
 q (.val 79 (.faddr 1) [.t 5]),
 ⟨none,.loadL 80 (.t 79) 1 false,[4],none⟩,
 ⟨none,.val 81 (.iaddrS 1) [.t 78,.t 80],[3,4,5],none⟩,
 ⟨none,.loadH 82 (.t 81) 1 false,[3,4,5,6],none⟩,
 ⟨none,.val 83 (.bin .add) [.t 82,ki 1],[3,4,5,6,7],none⟩,
 ⟨none,.val 84 (.iaddrS 1) [.t 75,.t 77],[0,1,2,3,4,5,6,7,8],none⟩,
 ⟨none,.storeH (.t 84) (.t 83) 1,[0,1,2,3,4,5,6,7,8,9],none⟩]
def r29_16:IC:=(.regD o29_16 [1,3,4])
def o29_6:List IOp:=[mv 39 4,
 q (.val 40 (.bin .add) [.t 39,ki 1]),
 mv 4 40]
def r29_6:IC:=(.reg o29_6 [1,3,4])
def l29_1:IC:=(.seq (.seq r29_5 (.cond (.t 38) .skip (.kp [1,3] (.exit 0)))) (.kp [1,3,4] (.seq (.block 1 (.seq r29_7 (.seq (.seq r29_8 (.cond (.t 49) (.seq r29_9 .ret) .skip)) (.kp [1,3,4,5] (.seq (.seq r29_10 (.block 2 (.loop l29_2))) (.seq r29_15 r29_16)))))) (.kp [1,3,4] r29_6))))
def o29_17:List IOp:=[q (.load 85 (.t 1) 3 true),
 q (.call (some 86) 45 [.t 85,ki 0,.k (.p (.sl 1 true []))]),
 mv 7 86]
def r29_17:IC:=(.reg o29_17 [1,3,7])
def o29_18:List IOp:=[q (.val 8 .mov [ki 0])]
def r29_18:IC:=(.reg o29_18 [1,3,7,8])
def o29_19:List IOp:=[mv 87 8,
 q (.val 88 (.faddr 0) [.t 1]),
 q (.load 89 (.t 88) 1 false),
 q (.val 90 (.bin .lss) [.t 87,.t 89])]
def r29_19:IC:=(.reg o29_19 [1,3,7,8,90])
def o29_21:List IOp:=[mv 93 7,
 mv 94 8,
 q (.val 95 (.iaddrS 1) [.t 93,.t 94]),
 q (.load 96 (.t 95) 1 false),
 q (.val 97 .not [.t 96]),
 mv 98 97,
 ⟨(some (98,false)),.val 99 (.faddr 1) [.t 1],[],none⟩,
 ⟨(some (98,false)),.load 100 (.t 99) 1 false,[],none⟩,
 ⟨(some (98,false)),.val 101 .mov [.t 8],[],none⟩,
 ⟨(some (98,false)),.val 102 (.iaddrS 1) [.t 100,.t 101],[],none⟩,
 ⟨(some (98,false)),.load 103 (.t 102) 1 false,[],none⟩,
 ⟨(some (98,false)),.val 104 .mov [.t 103],[],none⟩,
 ⟨(some (104,true)),.val 105 .mov [.t 3],[],none⟩,
 ⟨(some (104,true)),.val 106 .mov [.t 8],[],none⟩,
 ⟨(some (104,true)),.val 107 (.iaddrS 1) [.t 105,.t 106],[],none⟩,
 ⟨(some (104,true)),.load 108 (.t 107) 1 false,[],none⟩,
 ⟨(some (104,true)),.val 109 (.bin .lss) [.t 108,ki 1],[],none⟩,
 ⟨(some (104,true)),.val 110 .mov [.t 109],[],none⟩,
 ⟨(some (110,false)),.val 111 .mov [.t 3],[],none⟩,
 ⟨(some (110,false)),.val 112 .mov [.t 8],[],none⟩,
 ⟨(some (110,false)),.val 113 (.iaddrS 1) [.t 111,.t 112],[],none⟩,
 ⟨(some (110,false)),.load 114 (.t 113) 1 false,[],none⟩,
 ⟨(some (110,false)),.val 115 (.bin .gtr) [.t 114,ki 2],[],none⟩,
 ⟨(some (104,true)),.val 116 .pick [.t 110,.k (.p (.bool true)),.t 115],[],none⟩,
 ⟨(some (98,false)),.val 117 .pick [.t 104,.t 116,.k (.p (.bool false))],[],none⟩,
 q (.val 118 .pick [.t 98,.k (.p (.bool true)),.t 117])]
def r29_21:IC:=(.reg o29_21 [1,3,7,8,118])
def o29_22:List IOp:=[q (.val 2 .mov [.k (.p (.bool false))])]
def r29_22:IC:=(.reg o29_22 [2])
def o29_20:List IOp:=[mv 91 8,
 q (.val 92 (.bin .add) [.t 91,ki 1]),
 mv 8 92]
def r29_20:IC:=(.reg o29_20 [1,3,7,8])
def l29_3:IC:=(.seq (.seq r29_19 (.cond (.t 90) .skip (.kp [] (.exit 4)))) (.kp [1,3,7,8] (.seq (.block 5 (.seq r29_21 (.cond (.t 118) (.seq r29_22 .ret) .skip))) (.kp [1,3,7,8] r29_20))))
def o29_23:List IOp:=[q (.val 2 .mov [.k (.p (.bool true))])]
def r29_23:IC:=(.reg o29_23 [2])
def b29:IC:=(.seq r29_0 (.seq (.seq r29_1 (.cond (.t 30) (.seq r29_2 .ret) .skip)) (.kp [1] (.seq r29_3 (.seq (.seq r29_4 (.block 0 (.loop l29_1))) (.seq r29_17 (.seq (.seq r29_18 (.block 4 (.loop l29_3))) (.seq r29_23 .ret))))))))
def i29:IFn:=⟨1,119,b29,[.tmp 2]⟩
def o30_0:List IOp:=[q (.boxL 4 (.t 0)),
 q (.boxL 5 (.t 1)),
 q (.newL 8 [.p (.int .i64 0),.p (.sl 1 true []),.p (.sl 4 true [])])]
def r30_0:IC:=(.reg o30_0 [2,3,4,5,8])
def o30_1:List IOp:=[q (.val 12 (.faddr 2) [.t 5]),
 q (.load 13 (.t 12) 1 false),
 q (.val 14 .len [.t 13]),
 mv 9 14]
def r30_1:IC:=(.reg o30_1 [2,3,4,5,8,9])
def o30_2:List IOp:=[mv 15 2,
 mv 16 3,
 q (.val 17 (.faddr 4) [.t 4]),
 ⟨none,.loadL 18 (.t 17) 1 false,[2],none⟩,
 mv 19 9,
 ⟨none,.callP 20 31 [.t 18,.t 19],[2,3,4],none⟩,
 ⟨none,.val 21 (.bin .rem) [.t 20,ki 20],[2,3,4,5],none⟩,
 ⟨none,.val 22 (.bin .add) [ki 1,.t 21],[2,3,4,5,6],none⟩,
 q (.val 23 (.faddr 5) [.t 4]),
 ⟨none,.loadL 24 (.t 23) 1 false,[8],none⟩,
 mv 25 9,
 ⟨none,.callP 26 31 [.t 24,.t 25],[2,3,4,5,8,9,10],none⟩,
 ⟨none,.val 27 (.bin .rem) [.t 26,ki 50],[2,3,4,5,8,9,10,11],none⟩,
 ⟨none,.val 28 (.build [.p (.int .i64 0),.p (.int .i64 0),.p (.int .i64 0),.p (.int .i64 0)] [(0,1),(1,1),(2,1),(3,1)]) [.t 15,.t 16,.t 22,.t 27],[0,1,2,3,4,5,6,7,8,9,10,11,12],none⟩,
 q (.newL 10 [.p (.int .i64 0),.p (.int .i64 0),.p (.int .i64 0),.p (.int .i64 0)]),
 ⟨none,.store (.t 10) (.t 28) 4,[0,1,2,3,4,5,6,7,8,9,10,11,12,13,14],none⟩]
def r30_2:IC:=(.regD o30_2 [2,3,5,8,9,10])
def o30_3:List IOp:=[mv 29 9,
 q (.val 30 (.bin .eql) [.t 29,ki 24]),
 mv 31 30,
 ⟨(some (31,false)),.load 32 (.t 5) 3 true,[],none⟩,
 ⟨(some (31,false)),.load 33 (.t 10) 4 true,[],none⟩,
 ⟨(some (31,false)),.call (some 34) 43 [.t 32,.t 33],[],none⟩,
 ⟨(some (31,false)),.val 35 .not [.t 34],[],none⟩,
 q (.val 36 .pick [.t 31,.k (.p (.bool true)),.t 35])]
def r30_3:IC:=(.reg o30_3 [2,3,5,8,9,10,36])
def o30_4:List IOp:=[q (.load 37 (.t 5) 3 true),
 q (.store (.t 8) (.t 37) 3)]
def r30_4:IC:=(.reg o30_4 [8])
def o30_5:List IOp:=[q (.val 11 .mov [ki 0])]
def r30_5:IC:=(.reg o30_5 [2,3,5,8,9,10,11])
def o30_6:List IOp:=[mv 38 11,
 mv 39 9,
 q (.val 40 (.bin .lss) [.t 38,.t 39])]
def r30_6:IC:=(.reg o30_6 [2,3,5,8,9,10,11,40])
def o30_8:List IOp:=[q (.val 43 (.faddr 2) [.t 5]),
 q (.load 44 (.t 43) 1 false),
 mv 45 11,
 q (.val 46 (.iaddrS 4) [.t 44,.t 45]),
 q (.load 47 (.t 46) 4 true),
 mv 48 2,
 mv 49 3,
 q (.call (some 50) 44 [.t 47,.t 48,.t 49])]
def r30_8:IC:=(.reg o30_8 [2,3,5,8,9,10,11,50])
def o30_9:List IOp:=[q (.load 51 (.t 5) 3 true),
 q (.store (.t 8) (.t 51) 3)]
def r30_9:IC:=(.reg o30_9 [8])
def o30_7:List IOp:=[mv 41 11,
 q (.val 42 (.bin .add) [.t 41,ki 1]),
 mv 11 42]
def r30_7:IC:=(.reg o30_7 [2,3,5,8,9,10,11])
def l30_1:IC:=(.seq (.seq r30_6 (.cond (.t 40) .skip (.kp [5,8,10] (.exit 0)))) (.kp [2,3,5,8,9,10,11] (.seq (.block 1 (.seq r30_8 (.cond (.t 50) (.seq r30_9 .ret) .skip))) (.kp [2,3,5,8,9,10,11] r30_7))))
def o30_10:List IOp:=[q (.val 52 (.faddr 2) [.t 5]),
 q (.load 53 (.t 52) 1 false),
 q (.load 54 (.t 10) 4 true),
 q (.litP 55 4 [.t 54]),
 q (.app 56 (.t 53) (.t 55) 4 32),
 q (.val 57 (.faddr 2) [.t 5]),
 q (.store (.t 57) (.t 56) 1)]
def r30_10:IC:=(.reg o30_10 [5,8])
def o30_11:List IOp:=[q (.load 58 (.t 5) 3 true),
 q (.store (.t 8) (.t 58) 3)]
def r30_11:IC:=(.reg o30_11 [8])
def b30:IC:=(.seq r30_0 (.seq r30_1 (.seq r30_2 (.seq (.seq r30_3 (.cond (.t 36) (.seq r30_4 .ret) .skip)) (.kp [2,3,5,8,9,10] (.seq (.seq r30_5 (.block 0 (.loop l30_1))) (.seq r30_10 (.seq r30_11 .ret))))))))
def i30:IFn:=⟨4,59,b30,[.cell 8 3 true]⟩
def o31_0:List IOp:=[q (.val 4 .mov [ki 0])]
def r31_0:IC:=(.reg o31_0 [0,1])
def o31_1:List IOp:=[mv 5 1,
 mv 6 0,
 q (.val 7 .len [.t 6]),
 q (.val 8 (.bin .lss) [.t 5,.t 7])]
def r31_1:IC:=(.reg o31_1 [0,1,8])
def o31_2:List IOp:=[mv 9 0,
 mv 10 1,
 q (.val 11 (.iaddrS 1) [.t 9,.t 10]),
 q (.load 12 (.t 11) 1 false),
 q (.val 13 (.conv .i64) [.t 12]),
 mv 4 13]
def r31_2:IC:=(.reg o31_2 [4])
def o31_3:List IOp:=[q (.val 4 .mov [ki 0])]
def r31_3:IC:=(.reg o31_3 [4])
def b31:IC:=(.seq r31_0 (.seq (.seq r31_1 (.cond (.t 8) (.seq r31_2 .ret) .skip)) (.kp [] (.seq r31_3 .ret))))
def i31:IFn:=⟨2,14,b31,[.tmp 4]⟩
def o32_0:List IOp:=[q (.boxL 4 (.t 0)),
 q (.boxL 5 (.t 1)),
 q (.boxL 6 (.t 2)),
 q (.val 8 .mov [ki 0])]
def r32_0:IC:=(.reg o32_0 [3,4,5,6])
def o32_1:List IOp:=[q (.load 11 (.t 4) 3 true),
 q (.call (some 12) 38 [.t 11]),
 mv 9 12]
def r32_1:IC:=(.reg o32_1 [3,4,5,6,9])
def o32_2:List IOp:=[mv 13 9,
 q (.val 14 (.bin .neq) [.t 13,ki 0])]
def r32_2:IC:=(.reg o32_2 [3,4,5,6,9,14])
def o32_3:List IOp:=[mv 15 9,
 mv 8 15]
def r32_3:IC:=(.reg o32_3 [8])
def o32_4:List IOp:=[q (.load 16 (.t 5) 4 true),
 q (.call (some 17) 20 [.t 16]),
 mv 10 17]
def r32_4:IC:=(.reg o32_4 [3,4,6,10])
def o32_5:List IOp:=[mv 18 10,
 q (.val 19 (.bin .neq) [.t 18,ki 0])]
def r32_5:IC:=(.reg o32_5 [3,4,6,10,19])
def o32_6:List IOp:=[mv 20 10,
 mv 8 20]
def r32_6:IC:=(.reg o32_6 [8])
def o32_7:List IOp:=[q (.load 21 (.t 4) 3 true),
 q (.load 22 (.t 6) 10 true),
 q (.call (some 23) 39 [.t 21,.t 22]),
 q (.val 24 .not [.t 23])]
def r32_7:IC:=(.reg o32_7 [3,6,24])
def o32_8:List IOp:=[q (.val 8 .mov [ki 321])]
def r32_8:IC:=(.reg o32_8 [8])
def o32_9:List IOp:=[q (.val 25 (.faddr 3) [.t 6]),
 q (.load 26 (.t 25) 1 false),
 q (.val 27 (.bin .neq) [.t 26,ki 7]),
 mv 28 27,
 ⟨(some (28,false)),.val 29 .mov [.t 3],[],none⟩,
 ⟨(some (28,false)),.val 30 (.faddr 9) [.t 6],[],none⟩,
 ⟨(some (28,false)),.load 31 (.t 30) 1 false,[],none⟩,
 ⟨(some (28,false)),.val 32 .len [.t 31],[],none⟩,
 ⟨(some (28,false)),.val 33 (.bin .sub) [.t 32,ki 1],[],none⟩,
 ⟨(some (28,false)),.call (some 34) 40 [.t 29,ki 0,.t 33],[],none⟩,
 ⟨(some (28,false)),.val 35 .not [.t 34],[],none⟩,
 q (.val 36 .pick [.t 28,.k (.p (.bool true)),.t 35])]
def r32_9:IC:=(.reg o32_9 [36])
def o32_10:List IOp:=[q (.val 8 .mov [ki 2])]
def r32_10:IC:=(.reg o32_10 [8])
def o32_11:List IOp:=[q (.val 8 .mov [ki 0])]
def r32_11:IC:=(.reg o32_11 [8])
def b32:IC:=(.seq r32_0 (.seq (.seq r32_1 (.seq r32_2 (.cond (.t 14) (.seq r32_3 .ret) .skip))) (.kp [3,4,5,6] (.seq (.seq r32_4 (.seq r32_5 (.cond (.t 19) (.seq r32_6 .ret) .skip))) (.kp [3,4,6] (.seq (.seq r32_7 (.cond (.t 24) (.seq r32_8 .ret) .skip)) (.kp [3,6] (.seq (.seq r32_9 (.cond (.t 36) (.seq r32_10 .ret) .skip)) (.kp [] (.seq r32_11 .ret))))))))))
def i32:IFn:=⟨4,37,b32,[.tmp 8]⟩
def o33_0:List IOp:=[q (.boxH 4 (.t 0)),
 q (.boxH 5 (.t 1)),
 q (.boxH 6 (.t 2)),
 q (.boxH 7 (.t 3)),
 q (.val 8 .mov [.k (.nl .nilFunc)])]
def r33_0:IC:=(.reg o33_0 [4,5,6,7])
def o33_1:List IOp:=[q (.val 9 (.mkfn 46 0) [.t 6,.t 7,.t 4,.t 5]),
 mv 8 9]
def r33_1:IC:=(.reg o33_1 [8])
def b33:IC:=(.seq r33_0 (.seq r33_1 .ret))
def i33:IFn:=⟨4,10,b33,[.tmp 8]⟩
def o34_0:List IOp:=[q (.boxL 4 (.t 0)),
 q (.boxL 5 (.t 1)),
 q (.boxL 6 (.t 2)),
 q (.val 8 .mov [ki 0])]
def r34_0:IC:=(.reg o34_0 [3,4,5,6])
def o34_1:List IOp:=[q (.load 9 (.t 4) 3 true),
 q (.call (some 10) 29 [.t 9]),
 q (.val 11 .not [.t 10])]
def r34_1:IC:=(.reg o34_1 [3,4,5,6,11])
def o34_2:List IOp:=[q (.val 8 .mov [ki 260])]
def r34_2:IC:=(.reg o34_2 [8])
def o34_3:List IOp:=[q (.load 12 (.t 5) 4 true),
 q (.call (some 13) 41 [.t 12]),
 q (.val 14 .not [.t 13])]
def r34_3:IC:=(.reg o34_3 [3,4,6,14])
def o34_4:List IOp:=[q (.val 8 .mov [ki 320])]
def r34_4:IC:=(.reg o34_4 [8])
def o34_5:List IOp:=[q (.load 15 (.t 4) 3 true),
 q (.load 16 (.t 6) 10 true),
 q (.call (some 17) 42 [.t 15,.t 16]),
 q (.val 18 .not [.t 17])]
def r34_5:IC:=(.reg o34_5 [3,6,18])
def o34_6:List IOp:=[q (.val 8 .mov [ki 321])]
def r34_6:IC:=(.reg o34_6 [8])
def o34_7:List IOp:=[q (.val 19 (.faddr 3) [.t 6]),
 q (.load 20 (.t 19) 1 false),
 q (.val 21 (.bin .neq) [.t 20,ki 7]),
 mv 22 21,
 ⟨(some (22,false)),.val 23 .mov [.t 3],[],none⟩,
 ⟨(some (22,false)),.val 24 (.bin .lss) [.t 23,ki 0],[],none⟩,
 q (.val 25 .pick [.t 22,.k (.p (.bool true)),.t 24]),
 mv 26 25,
 ⟨(some (26,false)),.val 27 .mov [.t 3],[],none⟩,
 ⟨(some (26,false)),.val 28 (.faddr 9) [.t 6],[],none⟩,
 ⟨(some (26,false)),.load 29 (.t 28) 1 false,[],none⟩,
 ⟨(some (26,false)),.val 30 .len [.t 29],[],none⟩,
 ⟨(some (26,false)),.val 31 (.bin .geq) [.t 27,.t 30],[],none⟩,
 q (.val 32 .pick [.t 26,.k (.p (.bool true)),.t 31])]
def r34_7:IC:=(.reg o34_7 [32])
def o34_8:List IOp:=[q (.val 8 .mov [ki 2])]
def r34_8:IC:=(.reg o34_8 [8])
def o34_9:List IOp:=[q (.val 8 .mov [ki 0])]
def r34_9:IC:=(.reg o34_9 [8])
def b34:IC:=(.seq r34_0 (.seq (.seq r34_1 (.cond (.t 11) (.seq r34_2 .ret) .skip)) (.kp [3,4,5,6] (.seq (.seq r34_3 (.cond (.t 14) (.seq r34_4 .ret) .skip)) (.kp [3,4,6] (.seq (.seq r34_5 (.cond (.t 18) (.seq r34_6 .ret) .skip)) (.kp [3,6] (.seq (.seq r34_7 (.cond (.t 32) (.seq r34_8 .ret) .skip)) (.kp [] (.seq r34_9 .ret))))))))))
def i34:IFn:=⟨4,33,b34,[.tmp 8]⟩
def o35_0:List IOp:=[q (.boxL 4 (.t 0)),
 q (.boxL 5 (.t 1)),
 q (.boxL 6 (.t 2)),
 q (.val 8 .mov [.k (.p (.sl 5 true []))])]
def r35_0:IC:=(.reg o35_0 [3,4,5,6])
def o35_1:List IOp:=[mv 14 3,
 ⟨none,.val 15 (.iaddrS 1) [.t 14,ki 0],[0],none⟩,
 ⟨none,.loadH 16 (.t 15) 1 false,[0,1],none⟩,
 q (.val 17 (.faddr 4) [.t 6]),
 ⟨none,.loadL 18 (.t 17) 1 false,[3],none⟩,
 q (.loadL 19 (.t 4) 3 true),
 mv 20 3,
 ⟨none,.val 21 (.iaddrS 1) [.t 20,ki 0],[6],none⟩,
 ⟨none,.loadH 22 (.t 21) 1 false,[6,7],none⟩,
 ⟨none,.callP 23 47 [.t 19,.t 22],[5,6,7,8],none⟩,
 ⟨none,.val 24 (.bin .mul) [.t 18,.t 23],[3,4,5,6,7,8,9],none⟩,
 ⟨none,.val 25 (.build [.p (.int .i64 0),.p (.int .i64 0),.p (.int .i64 0),.p (.int .i64 0),.p (.int .i64 0)] [(0,1),(4,1)]) [.t 16,.t 24],[0,1,2,3,4,5,6,7,8,9,10],none⟩,
 ⟨none,.litSl 26 5 [.t 25],[0,1,2,3,4,5,6,7,8,9,10,11],none⟩,
 ⟨none,.val 9 .mov [.t 26],[0,1,2,3,4,5,6,7,8,9,10,11,12],none⟩]
def r35_1:IC:=(.regD o35_1 [3,4,5,6,9])
def o35_2:List IOp:=[q (.val 10 .mov [ki 1])]
def r35_2:IC:=(.reg o35_2 [3,4,5,6,9,10])
def o35_3:List IOp:=[mv 27 10,
 mv 28 3,
 q (.val 29 .len [.t 28]),
 q (.val 30 (.bin .lss) [.t 27,.t 29])]
def r35_3:IC:=(.reg o35_3 [3,4,5,6,9,10,30])
def o35_5:List IOp:=[mv 33 9,
 mv 34 10,
 q (.val 35 (.bin .sub) [.t 34,ki 1]),
 q (.val 36 (.iaddrS 5) [.t 33,.t 35]),
 q (.load 37 (.t 36) 5 true),
 q (.newL 11 [.p (.int .i64 0),.p (.int .i64 0),.p (.int .i64 0),.p (.int .i64 0),.p (.int .i64 0)]),
 q (.store (.t 11) (.t 37) 5)]
def r35_5:IC:=(.reg o35_5 [3,4,5,6,9,10,11])
def o35_6:List IOp:=[q (.val 38 (.faddr 3) [.t 11]),
 ⟨none,.loadL 39 (.t 38) 1 false,[0],none⟩,
 q (.val 40 (.faddr 4) [.t 11]),
 ⟨none,.loadL 41 (.t 40) 1 false,[2],none⟩,
 ⟨none,.val 42 (.bin .add) [.t 39,.t 41],[0,1,2,3],none⟩,
 q (.loadL 43 (.t 4) 3 true),
 q (.val 44 (.faddr 0) [.t 11]),
 ⟨none,.loadL 45 (.t 44) 1 false,[6],none⟩,
 ⟨none,.callP 46 48 [.t 43,.t 45],[5,6,7],none⟩,
 ⟨none,.val 47 (.bin .add) [.t 42,.t 46],[0,1,2,3,4,5,6,7,8],none⟩,
 q (.val 48 (.faddr 2) [.t 5]),
 ⟨none,.loadL 49 (.t 48) 1 false,[10],none⟩,
 ⟨none,.val 50 (.bin .add) [.t 47,.t 49],[0,1,2,3,4,5,6,7,8,9,10,11],none⟩,
 ⟨none,.val 12 .mov [.t 50],[0,1,2,3,4,5,6,7,8,9,10,11,12],none⟩]
def r35_6:IC:=(.regD o35_6 [3,4,5,6,9,10,12])
def o35_7:List IOp:=[mv 51 3,
 mv 52 10,
 ⟨none,.val 53 (.iaddrS 1) [.t 51,.t 52],[0,1],none⟩,
 ⟨none,.loadH 54 (.t 53) 1 false,[0,1,2],none⟩,
 mv 55 12,
 q (.val 56 (.faddr 1) [.t 5]),
 ⟨none,.loadL 57 (.t 56) 1 false,[5],none⟩,
 ⟨none,.val 58 (.bin .mul) [ki 2,.t 57],[5,6],none⟩,
 ⟨none,.val 59 (.bin .sub) [.t 55,.t 58],[4,5,6,7],none⟩,
 mv 60 12,
 q (.val 61 (.faddr 1) [.t 5]),
 ⟨none,.loadL 62 (.t 61) 1 false,[10],none⟩,
 ⟨none,.val 63 (.bin .mul) [ki 2,.t 62],[10,11],none⟩,
 ⟨none,.val 64 (.bin .add) [.t 60,.t 63],[9,10,11,12],none⟩,
 q (.val 65 (.faddr 4) [.t 6]),
 ⟨none,.loadL 66 (.t 65) 1 false,[14],none⟩,
 q (.loadL 67 (.t 4) 3 true),
 mv 68 3,
 mv 69 10,
 ⟨none,.val 70 (.iaddrS 1) [.t 68,.t 69],[17,18],none⟩,
 ⟨none,.loadH 71 (.t 70) 1 false,[17,18,19],none⟩,
 ⟨none,.callP 72 47 [.t 67,.t 71],[16,17,18,19,20],none⟩,
 ⟨none,.val 73 (.bin .mul) [.t 66,.t 72],[14,15,16,17,18,19,20,21],none⟩,
 ⟨none,.val 74 (.build [.p (.int .i64 0),.p (.int .i64 0),.p (.int .i64 0),.p (.int .i64 0),.p (.int .i64 0)] [(0,1),(1,1),(2,1),(4,1)]) [.t 54,.t 59,.t 64,.t 73],[0,1,2,3,4,5,6,7,8,9,10,11,12,13,14,15,16,17,18,19,20,21,22],none⟩,
 q (.newL 13 [.p (.int .i64 0),.p (.int .i64 0),.p (.int .i64 0),.p (.int .i64 0),.p (.int .i64 0)]),
 ⟨none,.store (.t 13) (.t 74) 5,[0,1,2,3,4,5,6,7,8,9,10,11,12,13,14,15,16,17,18,19,20,21,22,23,24],none⟩]
def r35_7:IC:=(.regD o35_7 [3,4,5,6,9,10,13])
def o35_8:List IOp:=[q (.val 75 (.faddr 3) [.t 13]),
 q (.load 76 (.t 75) 1 false),
 q (.val 77 (.faddr 2) [.t 13]),
 q (.load 78 (.t 77) 1 false),
 q (.val 79 (.bin .lss) [.t 76,.t 78])]
def r35_8:IC:=(.reg o35_8 [3,4,5,6,9,10,13,79])
def o35_9:List IOp:=[q (.val 80 (.faddr 3) [.t 13]),
 q (.load 81 (.t 80) 1 false),
 q (.val 82 (.faddr 0) [.t 5]),
 q (.load 83 (.t 82) 1 false),
 q (.val 84 (.bin .add) [.t 81,.t 83]),
 q (.val 85 (.faddr 3) [.t 13]),
 q (.store (.t 85) (.t 84) 1)]
def r35_9:IC:=(.reg o35_9 [3,4,5,6,9,10,13])
def l35_2:IC:=(.seq (.seq r35_8 (.cond (.t 79) .skip (.kp [3,4,5,6,9,10,13] (.exit 2)))) (.kp [3,4,5,6,9,10,13] (.block 3 r35_9)))
def o35_10:List IOp:=[mv 86 9,
 q (.load 87 (.t 13) 5 true),
 q (.litP 88 5 [.t 87]),
 q (.app 89 (.t 86) (.t 88) 5 40),
 mv 9 89]
def r35_10:IC:=(.reg o35_10 [3,4,5,6,9,10])
def o35_4:List IOp:=[mv 31 10,
 q (.val 32 (.bin .add) [.t 31,ki 1]),
 mv 10 32]
def r35_4:IC:=(.reg o35_4 [3,4,5,6,9,10])
def l35_1:IC:=(.seq (.seq r35_3 (.cond (.t 30) .skip (.kp [9] (.exit 0)))) (.kp [3,4,5,6,9,10] (.seq (.block 1 (.seq r35_5 (.seq r35_6 (.seq r35_7 (.seq (.block 2 (.loop l35_2)) r35_10))))) r35_4)))
def o35_11:List IOp:=[mv 90 9,
 mv 8 90]
def r35_11:IC:=(.reg o35_11 [8])
def b35:IC:=(.seq r35_0 (.seq r35_1 (.seq (.seq r35_2 (.block 0 (.loop l35_1))) (.seq r35_11 .ret))))
def i35:IFn:=⟨4,91,b35,[.tmp 8]⟩
def o36_0:List IOp:=[q (.boxL 4 (.t 0)),
 q (.boxL 5 (.t 1)),
 q (.boxL 6 (.t 2)),
 q (.val 8 .mov [ki 0])]
def r36_0:IC:=(.reg o36_0 [3,4,5,6])
def o36_1:List IOp:=[q (.load 11 (.t 4) 3 true),
 q (.load 12 (.t 5) 4 true),
 q (.load 13 (.t 6) 10 true),
 mv 14 3,
 q (.call (some 15) 35 [.t 11,.t 12,.t 13,.t 14]),
 mv 9 15]
def r36_1:IC:=(.reg o36_1 [4,5,9])
def o36_2:List IOp:=[mv 16 9,
 mv 17 9,
 q (.val 18 .len [.t 17]),
 q (.val 19 (.bin .sub) [.t 18,ki 1]),
 q (.val 20 (.iaddrS 5) [.t 16,.t 19]),
 q (.load 21 (.t 20) 5 true),
 q (.newL 10 [.p (.int .i64 0),.p (.int .i64 0),.p (.int .i64 0),.p (.int .i64 0),.p (.int .i64 0)]),
 q (.store (.t 10) (.t 21) 5)]
def r36_2:IC:=(.reg o36_2 [4,5,10])
def o36_3:List IOp:=[q (.val 22 (.faddr 3) [.t 10]),
 ⟨none,.loadL 23 (.t 22) 1 false,[0],none⟩,
 q (.val 24 (.faddr 4) [.t 10]),
 ⟨none,.loadL 25 (.t 24) 1 false,[2],none⟩,
 ⟨none,.val 26 (.bin .add) [.t 23,.t 25],[0,1,2,3],none⟩,
 q (.loadL 27 (.t 4) 3 true),
 q (.val 28 (.faddr 0) [.t 10]),
 ⟨none,.loadL 29 (.t 28) 1 false,[6],none⟩,
 ⟨none,.callP 30 48 [.t 27,.t 29],[5,6,7],none⟩,
 ⟨none,.val 31 (.bin .add) [.t 26,.t 30],[0,1,2,3,4,5,6,7,8],none⟩,
 q (.val 32 (.faddr 2) [.t 5]),
 ⟨none,.loadL 33 (.t 32) 1 false,[10],none⟩,
 ⟨none,.val 34 (.bin .add) [.t 31,.t 33],[0,1,2,3,4,5,6,7,8,9,10,11],none⟩,
 ⟨none,.val 8 .mov [.t 34],[0,1,2,3,4,5,6,7,8,9,10,11,12],none⟩]
def r36_3:IC:=(.regD o36_3 [8])
def b36:IC:=(.seq r36_0 (.seq r36_1 (.seq r36_2 (.seq r36_3 .ret))))
def i36:IFn:=⟨4,35,b36,[.tmp 8]⟩
def o37_0:List IOp:=[q (.boxL 3 (.t 0)),
 q (.boxL 4 (.t 1)),
 q (.newL 6 [.p (.int .i64 0),.p (.int .i64 0),.p (.int .i64 0),.p (.int .i64 0),.p (.int .i64 0),.p (.int .i64 0),.p (.int .i64 0),.p (.int .i64 0),.p (.int .i64 0),.p (.sl 1 true [])]),
 q (.val 7 .mov [.k (.p (.bool false))])]
def r37_0:IC:=(.reg o37_0 [2,3,4,6])
def o37_1:List IOp:=[q (.val 14 (.faddr 2) [.t 3]),
 q (.load 15 (.t 14) 1 false),
 q (.val 16 (.conv .i64) [.t 15]),
 q (.val 17 (.faddr 0) [.t 4]),
 q (.load 18 (.t 17) 1 false),
 q (.val 19 (.bin .rem) [.t 16,.t 18]),
 mv 8 19]
def r37_1:IC:=(.reg o37_1 [2,3,4,6,8])
def o37_2:List IOp:=[q (.val 9 .mov [ki 0])]
def r37_2:IC:=(.reg o37_2 [2,3,4,6,8,9])
def o37_3:List IOp:=[mv 20 9,
 q (.val 21 (.faddr 0) [.t 4]),
 q (.load 22 (.t 21) 1 false),
 q (.val 23 (.bin .lss) [.t 20,.t 22]),
 mv 24 23,
 ⟨(some (24,true)),.val 25 (.faddr 1) [.t 4],[],none⟩,
 ⟨(some (24,true)),.load 26 (.t 25) 1 false,[],none⟩,
 ⟨(some (24,true)),.val 27 .mov [.t 8],[],none⟩,
 ⟨(some (24,true)),.val 28 (.iaddrS 1) [.t 26,.t 27],[],none⟩,
 ⟨(some (24,true)),.load 29 (.t 28) 1 false,[],none⟩,
 ⟨(some (24,true)),.val 30 .not [.t 29],[],none⟩,
 q (.val 31 .pick [.t 24,.t 30,.k (.p (.bool false))])]
def r37_3:IC:=(.reg o37_3 [2,3,4,6,8,9,31])
def o37_5:List IOp:=[mv 34 8,
 q (.val 35 (.bin .add) [.t 34,ki 1]),
 q (.val 36 (.faddr 0) [.t 4]),
 q (.load 37 (.t 36) 1 false),
 q (.val 38 (.bin .rem) [.t 35,.t 37]),
 mv 8 38]
def r37_5:IC:=(.reg o37_5 [2,3,4,6,8,9])
def o37_4:List IOp:=[mv 32 9,
 q (.val 33 (.bin .add) [.t 32,ki 1]),
 mv 9 33]
def r37_4:IC:=(.reg o37_4 [2,3,4,6,8,9])
def l37_1:IC:=(.seq (.seq r37_3 (.cond (.t 31) .skip (.kp [2,3,4,6,8] (.exit 0)))) (.kp [2,3,4,6,8,9] (.seq (.block 1 r37_5) r37_4)))
def o37_6:List IOp:=[q (.load 39 (.t 4) 3 true),
 mv 40 8,
 q (.val 41 (.conv .u8) [.t 40]),
 q (.val 42 (.faddr 3) [.t 3]),
 q (.load 43 (.t 42) 1 false),
 q (.call (some 44) 49 [.t 39,.t 41,.t 43]),
 mv 10 44]
def r37_6:IC:=(.reg o37_6 [2,3,4,6,8,10])
def o37_7:List IOp:=[mv 45 10,
 q (.val 46 (.isNil false) [.t 45])]
def r37_7:IC:=(.reg o37_7 [2,3,4,6,8,10,46])
def o37_8:List IOp:=[q (.val 47 (.build [.p (.int .i64 0),.p (.int .i64 0),.p (.int .i64 0),.p (.int .i64 0),.p (.int .i64 0),.p (.int .i64 0),.p (.int .i64 0),.p (.int .i64 0),.p (.int .i64 0),.p (.sl 1 true [])] []) []),
 q (.store (.t 6) (.t 47) 10),
 q (.val 7 .mov [.k (.p (.bool false))])]
def r37_8:IC:=(.reg o37_8 [6,7])
def o37_9:List IOp:=[mv 48 2,
 q (.loadL 49 (.t 4) 3 true),
 mv 50 10,
 ⟨none,.val 51 (.iaddrS 1) [.t 50,ki 0],[2],none⟩,
 ⟨none,.loadH 52 (.t 51) 1 false,[2,3],none⟩,
 ⟨none,.callP 53 50 [.t 49,.t 52],[1,2,3,4],none⟩,
 q (.loadL 54 (.t 4) 3 true),
 mv 55 10,
 mv 56 10,
 ⟨none,.val 57 .len [.t 56],[8],none⟩,
 ⟨none,.val 58 (.bin .sub) [.t 57,ki 1],[8,9],none⟩,
 ⟨none,.val 59 (.iaddrS 1) [.t 55,.t 58],[7,8,9,10],none⟩,
 ⟨none,.loadH 60 (.t 59) 1 false,[7,8,9,10,11],none⟩,
 ⟨none,.callP 61 51 [.t 54,.t 60],[1,2,3,4,5,6,7,8,9,10,11,12],none⟩,
 q (.val 62 (.faddr 4) [.t 3]),
 ⟨none,.loadL 63 (.t 62) 1 false,[14],none⟩,
 ⟨none,.val 64 (.conv .i64) [.t 63],[14,15],none⟩,
 ⟨none,.val 65 (.bin .add) [ki 84,.t 64],[14,15,16],none⟩,
 mv 66 10,
 ⟨none,.litSl 67 1 [.t 66],[18],none⟩,
 ⟨none,.val 68 (.build [.p (.int .i64 0),.p (.int .i64 0),.p (.int .i64 0),.p (.int .i64 0),.p (.int .i64 0),.p (.int .i64 0),.p (.int .i64 0),.p (.int .i64 0),.p (.int .i64 0),.p (.sl 1 true [])] [(0,1),(1,1),(2,1),(4,1),(8,1),(9,1)]) [.t 48,.t 53,.t 61,.t 65,ki 1099511627776,.t 67],[0,1,2,3,4,5,6,7,8,9,10,11,12,13,14,15,16,17,18,19],none⟩,
 q (.newL 11 [.p (.int .i64 0),.p (.int .i64 0),.p (.int .i64 0),.p (.int .i64 0),.p (.int .i64 0),.p (.int .i64 0),.p (.int .i64 0),.p (.int .i64 0),.p (.int .i64 0),.p (.sl 1 true [])]),
 ⟨none,.store (.t 11) (.t 68) 10,[0,1,2,3,4,5,6,7,8,9,10,11,12,13,14,15,16,17,18,19,20,21],none⟩]
def r37_9:IC:=(.regD o37_9 [3,4,6,8,10,11])
def o37_10:List IOp:=[q (.val 69 (.faddr 0) [.t 3]),
 q (.load 70 (.t 69) 1 false)]
def r37_10:IC:=(.reg o37_10 [3,4,6,8,10,11,70])
def o37_11:List IOp:=[q (.val 71 (.faddr 3) [.t 11]),
 q (.store (.t 71) (ki 6) 1)]
def r37_11:IC:=(.reg o37_11 [3,4,6,8,10,11])
def o37_12:List IOp:=[q (.val 72 (.faddr 4) [.t 11]),
 q (.load 73 (.t 72) 1 false),
 q (.val 74 (.faddr 6) [.t 3]),
 q (.load 75 (.t 74) 1 false),
 q (.val 76 (.conv .i64) [.t 75]),
 q (.val 77 (.bin .mul) [ki 4,.t 76]),
 q (.val 78 (.bin .add) [.t 73,.t 77]),
 q (.val 79 (.faddr 7) [.t 3]),
 q (.load 80 (.t 79) 1 false),
 q (.val 81 (.conv .i64) [.t 80]),
 q (.val 82 (.bin .add) [ki 1,.t 81]),
 q (.val 83 (.build [.p (.int .i64 0),.p (.int .i64 0)] [(0,1),(1,1)]) [.t 78,.t 82]),
 q (.val 84 (.faddr 6) [.t 11]),
 q (.store (.t 84) (.t 83) 2)]
def r37_12:IC:=(.reg o37_12 [3,4,6,8,10,11])
def o37_13:List IOp:=[q (.val 85 (.faddr 3) [.t 11]),
 q (.store (.t 85) (ki 7) 1)]
def r37_13:IC:=(.reg o37_13 [3,4,6,8,10,11])
def o37_14:List IOp:=[q (.litP 86 1 [ki 4,ki 6,ki 8,ki 12,ki 16,ki 24,ki 48,ki 10,ki 5,ki 240]),
 q (.val 87 (.faddr 5) [.t 3]),
 q (.load 88 (.t 87) 1 false),
 q (.val 89 (.bin .rem) [.t 88,.k (.p (.int .u8 10))]),
 q (.val 90 (.iaddrS 1) [.t 86,.t 89]),
 q (.load 91 (.t 90) 1 false),
 q (.val 92 (.faddr 5) [.t 11]),
 q (.store (.t 92) (.t 91) 1)]
def r37_14:IC:=(.reg o37_14 [3,4,6,8,10,11])
def o37_15:List IOp:=[q (.val 12 .mov [ki 0])]
def r37_15:IC:=(.reg o37_15 [3,4,6,8,10,11,12])
def o37_16:List IOp:=[mv 93 12,
 q (.val 94 (.bin .lss) [.t 93,ki 24]),
 mv 95 94,
 ⟨(some (95,true)),.val 96 (.faddr 1) [.t 3],[],none⟩,
 ⟨(some (95,true)),.load 97 (.t 96) 1 false,[],none⟩,
 q (.val 98 .pick [.t 95,.t 97,.k (.p (.bool false))]),
 mv 99 98,
 ⟨(some (99,true)),.val 100 (.faddr 9) [.t 11],[],none⟩,
 ⟨(some (99,true)),.load 101 (.t 100) 1 false,[],none⟩,
 ⟨(some (99,true)),.val 102 .len [.t 101],[],none⟩,
 ⟨(some (99,true)),.val 103 (.bin .eql) [.t 102,ki 1],[],none⟩,
 q (.val 104 .pick [.t 99,.t 103,.k (.p (.bool false))])]
def r37_16:IC:=(.reg o37_16 [3,4,6,8,10,11,12,104])
def o37_18:List IOp:=[q (.load 107 (.t 4) 3 true),
 mv 108 8,
 q (.val 109 (.conv .u8) [.t 108]),
 q (.val 110 (.faddr 3) [.t 3]),
 q (.load 111 (.t 110) 1 false),
 mv 112 12,
 q (.val 113 (.conv .u8) [.t 112]),
 q (.val 114 (.bin .add) [.t 111,.t 113]),
 q (.call (some 115) 49 [.t 107,.t 109,.t 114]),
 mv 13 115]
def r37_18:IC:=(.reg o37_18 [3,4,6,8,10,11,12,13])
def o37_19:List IOp:=[mv 116 13,
 ⟨none,.val 117 (.isNil true) [.t 116],[0],none⟩,
 ⟨none,.val 118 .mov [.t 117],[0,1],none⟩,
 ⟨(some (118,true)),.loadL 119 (.t 4) 3 true,[0,1,2],none⟩,
 ⟨(some (118,true)),.val 120 .mov [.t 13],[0,1,2],none⟩,
 ⟨(some (118,true)),.val 121 .mov [.t 13],[0,1,2],none⟩,
 ⟨(some (118,true)),.val 122 .len [.t 121],[0,1,2,5],none⟩,
 ⟨(some (118,true)),.val 123 (.bin .sub) [.t 122,ki 1],[0,1,2,5,6],none⟩,
 ⟨(some (118,true)),.val 124 (.iaddrS 1) [.t 120,.t 123],[0,1,2,4,5,6,7],none⟩,
 ⟨(some (118,true)),.loadH 125 (.t 124) 1 false,[0,1,2,4,5,6,7,8],none⟩,
 ⟨(some (118,true)),.callP 126 51 [.t 119,.t 125],[0,1,2,3,4,5,6,7,8,9],none⟩,
 ⟨(some (118,true)),.val 127 (.faddr 2) [.t 11],[0,1,2],none⟩,
 ⟨(some (118,true)),.loadL 128 (.t 127) 1 false,[0,1,2,11],none⟩,
 ⟨(some (118,true)),.val 129 (.bin .eql) [.t 126,.t 128],[0,1,2,3,4,5,6,7,8,9,10,11,12],none⟩,
 ⟨none,.val 130 .pick [.t 118,.t 129,.k (.p (.bool false))],[0,1,2,3,4,5,6,7,8,9,10,11,12,13],none⟩,
 ⟨none,.val 131 .mov [.t 130],[0,1,2,3,4,5,6,7,8,9,10,11,12,13,14],none⟩,
 ⟨(some (131,true)),.loadL 132 (.t 4) 3 true,[0,1,2,3,4,5,6,7,8,9,10,11,12,13,14,15],none⟩,
 ⟨(some (131,true)),.val 133 .mov [.t 10],[0,1,2,3,4,5,6,7,8,9,10,11,12,13,14,15],none⟩,
 ⟨(some (131,true)),.val 134 .mov [.t 13],[0,1,2,3,4,5,6,7,8,9,10,11,12,13,14,15],none⟩,
 ⟨(some (131,true)),.callP 135 52 [.t 132,.t 133,.t 134],[0,1,2,3,4,5,6,7,8,9,10,11,12,13,14,15,16,17,18],none⟩,
 ⟨none,.val 136 .pick [.t 131,.t 135,.k (.p (.bool false))],[0,1,2,3,4,5,6,7,8,9,10,11,12,13,14,15,16,17,18,19],none⟩]
def r37_19:IC:=(.regD o37_19 [3,4,6,8,10,11,12,13,136])
def o37_20:List IOp:=[q (.val 137 (.faddr 9) [.t 11]),
 q (.load 138 (.t 137) 1 false),
 mv 139 13,
 q (.litP 140 1 [.t 139]),
 q (.app 141 (.t 138) (.t 140) 1 24),
 q (.val 142 (.faddr 9) [.t 11]),
 q (.store (.t 142) (.t 141) 1)]
def r37_20:IC:=(.reg o37_20 [3,4,6,8,10,11,12])
def o37_17:List IOp:=[mv 105 12,
 q (.val 106 (.bin .add) [.t 105,ki 1]),
 mv 12 106]
def r37_17:IC:=(.reg o37_17 [3,4,6,8,10,11,12])
def l37_2:IC:=(.seq (.seq r37_16 (.cond (.t 104) .skip (.kp [4,6,11] (.exit 2)))) (.kp [3,4,6,8,10,11,12] (.seq (.block 3 (.seq r37_18 (.seq r37_19 (.cond (.t 136) r37_20 .skip)))) (.kp [3,4,6,8,10,11,12] r37_17))))
def o37_21:List IOp:=[q (.loadL 143 (.t 11) 10 true),
 q (.loadL 144 (.t 4) 3 true),
 q (.loadL 145 (.t 11) 10 true),
 ⟨none,.callQ 146 42 [.t 144,.t 145],[1,2],none⟩,
 ⟨none,.store (.t 6) (.t 143) 10,[0,1,2,3],none⟩,
 ⟨none,.val 7 .mov [.t 146],[0,1,2,3,4],none⟩]
def r37_21:IC:=(.regF [1000011] o37_21 [6,7])
def b37:IC:=(.seq r37_0 (.seq r37_1 (.seq (.seq r37_2 (.block 0 (.loop l37_1))) (.seq r37_6 (.seq (.seq r37_7 (.cond (.t 46) (.seq r37_8 .ret) .skip)) (.kp [2,3,4,6,8,10] (.seq r37_9 (.seq (.seq r37_10 (.cond (.t 70) (.seq r37_11 r37_12) (.seq r37_13 r37_14))) (.kp [3,4,6,8,10,11] (.seq (.seq r37_15 (.block 2 (.loop l37_2))) (.seq r37_21 .ret)))))))))))
def i37:IFn:=⟨3,147,b37,[.cell 6 10 true,.tmp 7]⟩
def o38_0:List IOp:=[q (.boxL 1 (.t 0)),
 q (.val 2 .mov [ki 0])]
def r38_0:IC:=(.reg o38_0 [1])
def o38_1:List IOp:=[q (.val 8 (.faddr 0) [.t 1]),
 q (.load 9 (.t 8) 1 false),
 q (.val 10 (.bin .lss) [.t 9,ki 2]),
 mv 11 10,
 ⟨(some (11,false)),.val 12 (.faddr 0) [.t 1],[],none⟩,
 ⟨(some (11,false)),.load 13 (.t 12) 1 false,[],none⟩,
 ⟨(some (11,false)),.val 14 (.bin .gtr) [.t 13,ki 12],[],none⟩,
 q (.val 15 .pick [.t 11,.k (.p (.bool true)),.t 14]),
 mv 16 15,
 ⟨(some (16,false)),.val 17 (.faddr 1) [.t 1],[],none⟩,
 ⟨(some (16,false)),.load 18 (.t 17) 1 false,[],none⟩,
 ⟨(some (16,false)),.val 19 .len [.t 18],[],none⟩,
 ⟨(some (16,false)),.val 20 (.faddr 0) [.t 1],[],none⟩,
 ⟨(some (16,false)),.load 21 (.t 20) 1 false,[],none⟩,
 ⟨(some (16,false)),.val 22 (.bin .neq) [.t 19,.t 21],[],none⟩,
 q (.val 23 .pick [.t 16,.k (.p (.bool true)),.t 22])]
def r38_1:IC:=(.reg o38_1 [1,23])
def o38_2:List IOp:=[q (.val 2 .mov [ki 260])]
def r38_2:IC:=(.reg o38_2 [2])
def o38_3:List IOp:=[q (.val 24 (.faddr 2) [.t 1]),
 q (.load 25 (.t 24) 1 false),
 q (.val 26 .len [.t 25]),
 q (.val 27 (.bin .gtr) [.t 26,ki 24]),
 mv 28 27,
 ⟨(some (28,false)),.load 29 (.t 1) 3 true,[],none⟩,
 ⟨(some (28,false)),.call (some 30) 53 [.t 29],[],none⟩,
 ⟨(some (28,false)),.val 31 .not [.t 30],[],none⟩,
 q (.val 32 .pick [.t 28,.k (.p (.bool true)),.t 31])]
def r38_3:IC:=(.reg o38_3 [1,32])
def o38_4:List IOp:=[q (.val 2 .mov [ki 260])]
def r38_4:IC:=(.reg o38_4 [2])
def o38_5:List IOp:=[q (.val 33 (.faddr 0) [.t 1]),
 q (.load 34 (.t 33) 1 false),
 q (.mkSl 35 (.t 34) (.t 34) [.int .i64 0] 8),
 mv 3 35]
def r38_5:IC:=(.reg o38_5 [1,3])
def o38_6:List IOp:=[q (.val 36 (.faddr 2) [.t 1]),
 q (.load 37 (.t 36) 1 false),
 q (.val 38 .len [.t 37]),
 q (.val 39 .mov [ki 0])]
def r38_6:IC:=(.reg o38_6 [1,3,37,38,39])
def o38_7:List IOp:=[q (.val 40 (.bin .lss) [.t 39,.t 38])]
def r38_7:IC:=(.reg o38_7 [1,3,37,38,39,40])
def o38_8:List IOp:=[q (.val 41 (.iaddrS 4) [.t 37,.t 39]),
 q (.load 42 (.t 41) 4 true),
 q (.newL 5 [.p (.int .i64 0),.p (.int .i64 0),.p (.int .i64 0),.p (.int .i64 0)]),
 q (.store (.t 5) (.t 42) 4)]
def r38_8:IC:=(.reg o38_8 [1,3,5,37,38,39])
def o38_9:List IOp:=[mv 43 3,
 q (.val 44 (.faddr 0) [.t 5]),
 q (.load 45 (.t 44) 1 false),
 q (.val 46 (.iaddrS 1) [.t 43,.t 45]),
 q (.load 47 (.t 46) 1 false),
 q (.val 48 (.bin .add) [.t 47,ki 1]),
 q (.val 49 (.iaddrS 1) [.t 43,.t 45]),
 q (.store (.t 49) (.t 48) 1)]
def r38_9:IC:=(.reg o38_9 [1,3,5,37,38,39])
def o38_10:List IOp:=[mv 50 3,
 q (.val 51 (.faddr 1) [.t 5]),
 q (.load 52 (.t 51) 1 false),
 q (.val 53 (.iaddrS 1) [.t 50,.t 52]),
 q (.load 54 (.t 53) 1 false),
 q (.val 55 (.bin .add) [.t 54,ki 1]),
 q (.val 56 (.iaddrS 1) [.t 50,.t 52]),
 q (.store (.t 56) (.t 55) 1)]
def r38_10:IC:=(.reg o38_10 [1,3,37,38,39])
def o38_11:List IOp:=[q (.val 57 (.bin .add) [.t 39,ki 1]),
 mv 39 57]
def r38_11:IC:=(.reg o38_11 [1,3,37,38,39])
def l38_1:IC:=(.seq r38_7 (.seq (.cond (.t 40) .skip (.kp [1,3] (.exit 0))) (.kp [1,3,37,38,39] (.seq (.block 1 (.seq r38_8 (.seq r38_9 r38_10))) r38_11))))
def o38_12:List IOp:=[q (.val 58 (.faddr 1) [.t 1]),
 q (.load 59 (.t 58) 1 false),
 q (.val 60 .len [.t 59]),
 q (.val 61 .mov [ki 0])]
def r38_12:IC:=(.reg o38_12 [1,3,59,60,61])
def o38_13:List IOp:=[q (.val 62 (.bin .lss) [.t 61,.t 60])]
def r38_13:IC:=(.reg o38_13 [1,3,59,60,61,62])
def o38_14:List IOp:=[mv 63 61,
 q (.val 64 (.iaddrS 1) [.t 59,.t 61]),
 q (.load 65 (.t 64) 1 false),
 mv 6 63,
 mv 7 65]
def r38_14:IC:=(.reg o38_14 [1,3,6,7,59,60,61])
def o38_15:List IOp:=[mv 66 7,
 mv 67 66,
 ⟨(some (67,true)),.val 68 .mov [.t 3],[],none⟩,
 ⟨(some (67,true)),.val 69 .mov [.t 6],[],none⟩,
 ⟨(some (67,true)),.val 70 (.iaddrS 1) [.t 68,.t 69],[],none⟩,
 ⟨(some (67,true)),.load 71 (.t 70) 1 false,[],none⟩,
 ⟨(some (67,true)),.val 72 (.bin .lss) [.t 71,ki 1],[],none⟩,
 ⟨(some (67,true)),.val 73 .mov [.t 72],[],none⟩,
 ⟨(some (73,false)),.val 74 .mov [.t 3],[],none⟩,
 ⟨(some (73,false)),.val 75 .mov [.t 6],[],none⟩,
 ⟨(some (73,false)),.val 76 (.iaddrS 1) [.t 74,.t 75],[],none⟩,
 ⟨(some (73,false)),.load 77 (.t 76) 1 false,[],none⟩,
 ⟨(some (73,false)),.val 78 (.bin .gtr) [.t 77,ki 2],[],none⟩,
 ⟨(some (67,true)),.val 79 .pick [.t 73,.k (.p (.bool true)),.t 78],[],none⟩,
 q (.val 80 .pick [.t 67,.t 79,.k (.p (.bool false))])]
def r38_15:IC:=(.reg o38_15 [1,3,59,60,61,80])
def o38_16:List IOp:=[q (.val 2 .mov [ki 260])]
def r38_16:IC:=(.reg o38_16 [2])
def o38_17:List IOp:=[q (.val 81 (.bin .add) [.t 61,ki 1]),
 mv 61 81]
def r38_17:IC:=(.reg o38_17 [1,3,59,60,61])
def l38_2:IC:=(.seq r38_13 (.seq (.cond (.t 62) .skip (.kp [1] (.exit 2))) (.kp [1,3,59,60,61] (.seq (.block 3 (.seq r38_14 (.seq r38_15 (.cond (.t 80) (.seq r38_16 .ret) .skip)))) (.kp [1,3,59,60,61] r38_17)))))
def o38_18:List IOp:=[q (.load 82 (.t 1) 3 true),
 q (.val 83 (.build (List.replicate 24 (.p (.bool false))) []) []),
 q (.call (some 84) 55 [.t 82,ki 0,.t 83]),
 q (.call (some 85) 54 [.t 84,.k (.p (.bool false))])]
def r38_18:IC:=(.reg o38_18 [85])
def o38_19:List IOp:=[q (.val 2 .mov [ki 260])]
def r38_19:IC:=(.reg o38_19 [2])
def o38_20:List IOp:=[q (.val 2 .mov [ki 0])]
def r38_20:IC:=(.reg o38_20 [2])
def b38:IC:=(.seq r38_0 (.seq (.seq r38_1 (.cond (.t 23) (.seq r38_2 .ret) .skip)) (.kp [1] (.seq (.seq r38_3 (.cond (.t 32) (.seq r38_4 .ret) .skip)) (.kp [1] (.seq r38_5 (.seq (.seq r38_6 (.block 0 (.loop l38_1))) (.seq (.seq r38_12 (.block 2 (.loop l38_2))) (.seq (.seq r38_18 (.cond (.t 85) (.seq r38_19 .ret) .skip)) (.kp [] (.seq r38_20 .ret)))))))))))
def i38:IFn:=⟨1,86,b38,[.tmp 2]⟩
def o39_0:List IOp:=[q (.boxH 2 (.t 0)),
 q (.boxH 3 (.t 1)),
 q (.val 4 .mov [.k (.p (.bool false))])]
def r39_0:IC:=(.reg o39_0 [2,3])
def o39_1:List IOp:=[q (.val 8 (.mkfn 56 0) [.t 3]),
 q (.val 9 (.mkfn 57 0) [.t 2,.t 3]),
 q (.val 10 (.mkfn 59 0) [.t 3]),
 q (.val 11 (.mkfn 60 0) [.t 3]),
 q (.val 12 (.mkfn 61 0) [.t 3]),
 q (.val 13 (.mkfn 63 0) [.t 3]),
 q (.val 14 (.mkfn 64 0) [.t 3,.t 2]),
 q (.val 15 (.mkfn 66 0) [.t 3,.t 2]),
 q (.sp (some 16) .litC [.t 8,.t 9,.t 10,.t 11,.t 12,.t 13,.t 14,.t 15]),
 mv 5 16]
def r39_1:IC:=(.reg o39_1 [5])
def o39_2:List IOp:=[mv 17 5,
 q (.val 18 .len [.t 17]),
 q (.val 19 .mov [ki 0])]
def r39_2:IC:=(.reg o39_2 [17,18,19])
def o39_3:List IOp:=[q (.val 20 (.bin .lss) [.t 19,.t 18])]
def r39_3:IC:=(.reg o39_3 [17,18,19,20])
def o39_4:List IOp:=[q (.val 21 (.iaddrS 1) [.t 17,.t 19]),
 q (.load 22 (.t 21) 1 false),
 mv 7 22]
def r39_4:IC:=(.reg o39_4 [7,17,18,19])
def o39_5:List IOp:=[mv 23 7,
 q (.callV (some 24) (.t 23) []),
 q (.val 25 .not [.t 24])]
def r39_5:IC:=(.reg o39_5 [17,18,19,25])
def o39_6:List IOp:=[q (.val 4 .mov [.k (.p (.bool false))])]
def r39_6:IC:=(.reg o39_6 [4])
def o39_7:List IOp:=[q (.val 26 (.bin .add) [.t 19,ki 1]),
 mv 19 26]
def r39_7:IC:=(.reg o39_7 [17,18,19])
def l39_1:IC:=(.seq r39_3 (.seq (.cond (.t 20) .skip (.kp [] (.exit 0))) (.kp [17,18,19] (.seq (.block 1 (.seq r39_4 (.seq r39_5 (.cond (.t 25) (.seq r39_6 .ret) .skip)))) (.kp [17,18,19] r39_7)))))
def o39_8:List IOp:=[q (.val 4 .mov [.k (.p (.bool true))])]
def r39_8:IC:=(.reg o39_8 [4])
def b39:IC:=(.seq r39_0 (.seq r39_1 (.seq (.seq r39_2 (.block 0 (.loop l39_1))) (.seq r39_8 .ret))))
def i39:IFn:=⟨2,27,b39,[.tmp 4]⟩
def o40_0:List IOp:=[q (.val 6 .mov [.k (.p (.bool false))])]
def r40_0:IC:=(.reg o40_0 [0,1,2])
def o40_1:List IOp:=[mv 7 0,
 mv 8 1,
 q (.val 9 (.bin .geq) [.t 7,.t 8]),
 mv 10 9,
 ⟨(some (10,true)),.val 11 .mov [.t 0],[],none⟩,
 ⟨(some (10,true)),.val 12 .mov [.t 2],[],none⟩,
 ⟨(some (10,true)),.val 13 (.bin .leq) [.t 11,.t 12],[],none⟩,
 q (.val 14 .pick [.t 10,.t 13,.k (.p (.bool false))]),
 mv 6 14]
def r40_1:IC:=(.reg o40_1 [6])
def b40:IC:=(.seq r40_0 (.seq r40_1 .ret))
def i40:IFn:=⟨3,15,b40,[.tmp 6]⟩
def o41_0:List IOp:=[q (.boxL 1 (.t 0)),
 q (.val 2 .mov [.k (.p (.bool false))])]
def r41_0:IC:=(.reg o41_0 [1])
def o41_1:List IOp:=[q (.val 3 (.faddr 0) [.t 1]),
 q (.load 4 (.t 3) 1 false),
 q (.call (some 5) 68 [.t 4,ki 1,ki 10000]),
 mv 6 5,
 ⟨(some (6,true)),.val 7 (.faddr 1) [.t 1],[],none⟩,
 ⟨(some (6,true)),.load 8 (.t 7) 1 false,[],none⟩,
 ⟨(some (6,true)),.call (some 9) 68 [.t 8,ki 0,ki 1000],[],none⟩,
 q (.val 10 .pick [.t 6,.t 9,.k (.p (.bool false))]),
 mv 11 10,
 ⟨(some (11,true)),.val 12 (.faddr 2) [.t 1],[],none⟩,
 ⟨(some (11,true)),.load 13 (.t 12) 1 false,[],none⟩,
 ⟨(some (11,true)),.call (some 14) 68 [.t 13,ki 0,ki 10000],[],none⟩,
 q (.val 15 .pick [.t 11,.t 14,.k (.p (.bool false))]),
 mv 16 15,
 ⟨(some (16,true)),.val 17 (.faddr 3) [.t 1],[],none⟩,
 ⟨(some (16,true)),.load 18 (.t 17) 1 false,[],none⟩,
 ⟨(some (16,true)),.call (some 19) 68 [.t 18,ki 1542,ki 65536],[],none⟩,
 q (.val 20 .pick [.t 16,.t 19,.k (.p (.bool false))]),
 mv 2 20]
def r41_1:IC:=(.reg o41_1 [2])
def b41:IC:=(.seq r41_0 (.seq r41_1 .ret))
def i41:IFn:=⟨1,21,b41,[.tmp 2]⟩
def o42_0:List IOp:=[q (.boxL 2 (.t 0)),
 q (.boxL 3 (.t 1)),
 q (.val 4 .mov [.k (.p (.bool false))])]
def r42_0:IC:=(.reg o42_0 [2,3])
def o42_1:List IOp:=[q (.val 7 (.faddr 0) [.t 3]),
 q (.load 8 (.t 7) 1 false),
 q (.call (some 9) 68 [.t 8,ki 1,ki 4095]),
 q (.val 10 .not [.t 9]),
 mv 11 10,
 ⟨(some (11,false)),.load 12 (.t 2) 3 true,[],none⟩,
 ⟨(some (11,false)),.val 13 (.faddr 1) [.t 3],[],none⟩,
 ⟨(some (11,false)),.load 14 (.t 13) 1 false,[],none⟩,
 ⟨(some (11,false)),.call (some 15) 69 [.t 12,.t 14],[],none⟩,
 ⟨(some (11,false)),.val 16 .not [.t 15],[],none⟩,
 q (.val 17 .pick [.t 11,.k (.p (.bool true)),.t 16]),
 mv 18 17,
 ⟨(some (18,false)),.load 19 (.t 2) 3 true,[],none⟩,
 ⟨(some (18,false)),.val 20 (.faddr 2) [.t 3],[],none⟩,
 ⟨(some (18,false)),.load 21 (.t 20) 1 false,[],none⟩,
 ⟨(some (18,false)),.call (some 22) 69 [.t 19,.t 21],[],none⟩,
 ⟨(some (18,false)),.val 23 .not [.t 22],[],none⟩,
 q (.val 24 .pick [.t 18,.k (.p (.bool true)),.t 23]),
 mv 25 24,
 ⟨(some (25,false)),.val 26 (.faddr 1) [.t 3],[],none⟩,
 ⟨(some (25,false)),.load 27 (.t 26) 1 false,[],none⟩,
 ⟨(some (25,false)),.val 28 (.faddr 2) [.t 3],[],none⟩,
 ⟨(some (25,false)),.load 29 (.t 28) 1 false,[],none⟩,
 ⟨(some (25,false)),.val 30 (.bin .eql) [.t 27,.t 29],[],none⟩,
 q (.val 31 .pick [.t 25,.k (.p (.bool true)),.t 30]),
 mv 32 31,
 ⟨(some (32,false)),.val 33 (.faddr 4) [.t 3],[],none⟩,
 ⟨(some (32,false)),.load 34 (.t 33) 1 false,[],none⟩,
 ⟨(some (32,false)),.call (some 35) 68 [.t 34,ki 84,ki 1542],[],none⟩,
 ⟨(some (32,false)),.val 36 .not [.t 35],[],none⟩,
 q (.val 37 .pick [.t 32,.k (.p (.bool true)),.t 36]),
 mv 38 37,
 ⟨(some (38,false)),.val 39 (.faddr 8) [.t 3],[],none⟩,
 ⟨(some (38,false)),.load 40 (.t 39) 1 false,[],none⟩,
 ⟨(some (38,false)),.call (some 41) 68 [.t 40,ki 1,ki 1099511627776],[],none⟩,
 ⟨(some (38,false)),.val 42 .not [.t 41],[],none⟩,
 q (.val 43 .pick [.t 38,.k (.p (.bool true)),.t 42])]
def r42_1:IC:=(.reg o42_1 [2,3,43])
def o42_2:List IOp:=[q (.val 4 .mov [.k (.p (.bool false))])]
def r42_2:IC:=(.reg o42_2 [4])
def o42_3:List IOp:=[q (.val 44 (.faddr 3) [.t 3]),
 q (.load 45 (.t 44) 1 false)]
def r42_3:IC:=(.reg o42_3 [2,3,45])
def o42_5:List IOp:=[q (.val 47 (.bin .eql) [.t 45,ki 7]),
 mv 46 47]
def r42_5:IC:=(.reg o42_5 [2,3,45,46])
def o42_6:List IOp:=[q (.val 48 (.faddr 5) [.t 3]),
 q (.load 49 (.t 48) 1 false),
 q (.call (some 50) 68 [.t 49,ki 1,ki 240]),
 q (.val 51 .not [.t 50]),
 mv 52 51,
 ⟨(some (52,false)),.val 53 (.faddr 6) [.t 3],[],none⟩,
 ⟨(some (52,false)),.load 54 (.t 53) 2 true,[],none⟩,
 ⟨(some (52,false)),.val 55 (.build [.p (.int .i64 0),.p (.int .i64 0)] []) [],[],none⟩,
 ⟨(some (52,false)),.val 56 (.eqS true [true,true]) [.t 54,.t 55],[],none⟩,
 q (.val 57 .pick [.t 52,.k (.p (.bool true)),.t 56])]
def r42_6:IC:=(.reg o42_6 [2,3,57])
def o42_7:List IOp:=[q (.val 4 .mov [.k (.p (.bool false))])]
def r42_7:IC:=(.reg o42_7 [4])
def o42_8:List IOp:=[q (.val 59 (.bin .eql) [.t 45,ki 6]),
 mv 58 59]
def r42_8:IC:=(.reg o42_8 [2,3,58])
def o42_9:List IOp:=[q (.val 60 (.faddr 5) [.t 3]),
 q (.load 61 (.t 60) 1 false),
 q (.val 62 (.bin .neq) [.t 61,ki 0]),
 mv 63 62,
 ⟨(some (63,false)),.val 64 (.faddr 6) [.t 3],[],none⟩,
 ⟨(some (63,false)),.val 65 (.faddr 0) [.t 64],[],none⟩,
 ⟨(some (63,false)),.load 66 (.t 65) 1 false,[],none⟩,
 ⟨(some (63,false)),.val 67 (.faddr 4) [.t 3],[],none⟩,
 ⟨(some (63,false)),.load 68 (.t 67) 1 false,[],none⟩,
 ⟨(some (63,false)),.call (some 69) 68 [.t 66,.t 68,ki 1048576],[],none⟩,
 ⟨(some (63,false)),.val 70 .not [.t 69],[],none⟩,
 q (.val 71 .pick [.t 63,.k (.p (.bool true)),.t 70]),
 mv 72 71,
 ⟨(some (72,false)),.val 73 (.faddr 6) [.t 3],[],none⟩,
 ⟨(some (72,false)),.val 74 (.faddr 1) [.t 73],[],none⟩,
 ⟨(some (72,false)),.load 75 (.t 74) 1 false,[],none⟩,
 ⟨(some (72,false)),.call (some 76) 68 [.t 75,ki 1,ki 2097152],[],none⟩,
 ⟨(some (72,false)),.val 77 .not [.t 76],[],none⟩,
 q (.val 78 .pick [.t 72,.k (.p (.bool true)),.t 77])]
def r42_9:IC:=(.reg o42_9 [2,3,78])
def o42_10:List IOp:=[q (.val 4 .mov [.k (.p (.bool false))])]
def r42_10:IC:=(.reg o42_10 [4])
def o42_4:List IOp:=[q (.val 4 .mov [.k (.p (.bool false))])]
def r42_4:IC:=(.reg o42_4 [4])
def o42_11:List IOp:=[q (.val 79 (.faddr 9) [.t 3]),
 q (.load 80 (.t 79) 1 false),
 q (.val 81 .len [.t 80]),
 q (.val 82 (.bin .lss) [.t 81,ki 1]),
 mv 83 82,
 ⟨(some (83,false)),.val 84 (.faddr 9) [.t 3],[],none⟩,
 ⟨(some (83,false)),.load 85 (.t 84) 1 false,[],none⟩,
 ⟨(some (83,false)),.val 86 .len [.t 85],[],none⟩,
 ⟨(some (83,false)),.val 87 (.bin .gtr) [.t 86,ki 2],[],none⟩,
 q (.val 88 .pick [.t 83,.k (.p (.bool true)),.t 87])]
def r42_11:IC:=(.reg o42_11 [2,3,88])
def o42_12:List IOp:=[q (.val 4 .mov [.k (.p (.bool false))])]
def r42_12:IC:=(.reg o42_12 [4])
def o42_13:List IOp:=[q (.val 5 .mov [ki 0])]
def r42_13:IC:=(.reg o42_13 [2,3,5])
def o42_14:List IOp:=[mv 89 5,
 q (.val 90 (.faddr 9) [.t 3]),
 q (.load 91 (.t 90) 1 false),
 q (.val 92 .len [.t 91]),
 q (.val 93 (.bin .lss) [.t 89,.t 92])]
def r42_14:IC:=(.reg o42_14 [2,3,5,93])
def o42_16:List IOp:=[q (.val 96 (.faddr 9) [.t 3]),
 q (.load 97 (.t 96) 1 false),
 mv 98 5,
 q (.val 99 (.iaddrS 1) [.t 97,.t 98]),
 q (.load 100 (.t 99) 1 false),
 mv 6 100]
def r42_16:IC:=(.reg o42_16 [2,3,5,6])
def o42_17:List IOp:=[q (.loadL 101 (.t 2) 3 true),
 mv 102 6,
 ⟨none,.call (some 103) 70 [.t 101,.t 102],[0,1],none⟩,
 ⟨none,.val 104 .not [.t 103],[0,1,2],none⟩,
 ⟨none,.val 105 .mov [.t 104],[0,1,2,3],none⟩,
 ⟨(some (105,false)),.loadL 106 (.t 2) 3 true,[0,1,2,3,4],none⟩,
 ⟨(some (105,false)),.val 107 .mov [.t 6],[0,1,2,3,4],none⟩,
 ⟨(some (105,false)),.val 108 (.iaddrS 1) [.t 107,ki 0],[0,1,2,3,4,6],none⟩,
 ⟨(some (105,false)),.loadH 109 (.t 108) 1 false,[0,1,2,3,4,6,7],none⟩,
 ⟨(some (105,false)),.callP 110 50 [.t 106,.t 109],[0,1,2,3,4,5,6,7,8],none⟩,
 ⟨(some (105,false)),.val 111 (.faddr 1) [.t 3],[0,1,2,3,4],none⟩,
 ⟨(some (105,false)),.loadL 112 (.t 111) 1 false,[0,1,2,3,4,10],none⟩,
 ⟨(some (105,false)),.val 113 (.bin .neq) [.t 110,.t 112],[0,1,2,3,4,5,6,7,8,9,10,11],none⟩,
 ⟨none,.val 114 .pick [.t 105,.k (.p (.bool true)),.t 113],[0,1,2,3,4,5,6,7,8,9,10,11,12],none⟩,
 ⟨none,.val 115 .mov [.t 114],[0,1,2,3,4,5,6,7,8,9,10,11,12,13],none⟩,
 ⟨(some (115,false)),.loadL 116 (.t 2) 3 true,[0,1,2,3,4,5,6,7,8,9,10,11,12,13,14],none⟩,
 ⟨(some (115,false)),.val 117 .mov [.t 6],[0,1,2,3,4,5,6,7,8,9,10,11,12,13,14],none⟩,
 ⟨(some (115,false)),.val 118 .mov [.t 6],[0,1,2,3,4,5,6,7,8,9,10,11,12,13,14],none⟩,
 ⟨(some (115,false)),.val 119 .len [.t 118],[0,1,2,3,4,5,6,7,8,9,10,11,12,13,14,17],none⟩,
 ⟨(some (115,false)),.val 120 (.bin .sub) [.t 119,ki 1],[0,1,2,3,4,5,6,7,8,9,10,11,12,13,14,17,18],none⟩,
 ⟨(some (115,false)),.val 121 (.iaddrS 1) [.t 117,.t 120],[0,1,2,3,4,5,6,7,8,9,10,11,12,13,14,16,17,18,19],none⟩,
 ⟨(some (115,false)),.loadH 122 (.t 121) 1 false,[0,1,2,3,4,5,6,7,8,9,10,11,12,13,14,16,17,18,19,20],none⟩,
 ⟨(some (115,false)),.callP 123 51 [.t 116,.t 122],[0,1,2,3,4,5,6,7,8,9,10,11,12,13,14,15,16,17,18,19,20,21],none⟩,
 ⟨(some (115,false)),.val 124 (.faddr 2) [.t 3],[0,1,2,3,4,5,6,7,8,9,10,11,12,13,14],none⟩,
 ⟨(some (115,false)),.loadL 125 (.t 124) 1 false,[0,1,2,3,4,5,6,7,8,9,10,11,12,13,14,23],none⟩,
 ⟨(some (115,false)),.val 126 (.bin .neq) [.t 123,.t 125],[0,1,2,3,4,5,6,7,8,9,10,11,12,13,14,15,16,17,18,19,20,21,22,23,24],none⟩,
 ⟨none,.val 127 .pick [.t 115,.k (.p (.bool true)),.t 126],[0,1,2,3,4,5,6,7,8,9,10,11,12,13,14,15,16,17,18,19,20,21,22,23,24,25],none⟩]
def r42_17:IC:=(.regD o42_17 [2,3,5,127])
def o42_18:List IOp:=[q (.val 4 .mov [.k (.p (.bool false))])]
def r42_18:IC:=(.reg o42_18 [4])
def o42_15:List IOp:=[mv 94 5,
 q (.val 95 (.bin .add) [.t 94,ki 1]),
 mv 5 95]
def r42_15:IC:=(.reg o42_15 [2,3,5])
def l42_1:IC:=(.seq (.seq r42_14 (.cond (.t 93) .skip (.kp [2,3] (.exit 1)))) (.kp [2,3,5] (.seq (.block 2 (.seq r42_16 (.seq r42_17 (.cond (.t 127) (.seq r42_18 .ret) .skip)))) (.kp [2,3,5] r42_15))))
def o42_19:List IOp:=[q (.val 128 (.faddr 9) [.t 3]),
 ⟨none,.loadL 129 (.t 128) 1 false,[0],none⟩,
 ⟨none,.val 130 .len [.t 129],[0,1],none⟩,
 ⟨none,.val 131 (.bin .eql) [.t 130,ki 1],[0,1,2],none⟩,
 ⟨none,.val 132 .mov [.t 131],[0,1,2,3],none⟩,
 ⟨(some (132,false)),.loadL 133 (.t 2) 3 true,[0,1,2,3,4],none⟩,
 ⟨(some (132,false)),.val 134 (.faddr 9) [.t 3],[0,1,2,3,4],none⟩,
 ⟨(some (132,false)),.loadL 135 (.t 134) 1 false,[0,1,2,3,4,6],none⟩,
 ⟨(some (132,false)),.val 136 (.iaddrS 1) [.t 135,ki 0],[0,1,2,3,4,6,7],none⟩,
 ⟨(some (132,false)),.loadH 137 (.t 136) 1 false,[0,1,2,3,4,6,7,8],none⟩,
 ⟨(some (132,false)),.val 138 (.faddr 9) [.t 3],[0,1,2,3,4],none⟩,
 ⟨(some (132,false)),.loadL 139 (.t 138) 1 false,[0,1,2,3,4,10],none⟩,
 ⟨(some (132,false)),.val 140 (.iaddrS 1) [.t 139,ki 1],[0,1,2,3,4,10,11],none⟩,
 ⟨(some (132,false)),.loadH 141 (.t 140) 1 false,[0,1,2,3,4,10,11,12],none⟩,
 ⟨(some (132,false)),.callP 142 52 [.t 133,.t 137,.t 141],[0,1,2,3,4,5,6,7,8,9,10,11,12,13],none⟩,
 ⟨none,.val 143 .pick [.t 132,.k (.p (.bool true)),.t 142],[0,1,2,3,4,5,6,7,8,9,10,11,12,13,14],none⟩,
 ⟨none,.val 4 .mov [.t 143],[0,1,2,3,4,5,6,7,8,9,10,11,12,13,14,15],none⟩]
def r42_19:IC:=(.regD o42_19 [4])
def b42:IC:=(.seq r42_0 (.seq (.seq r42_1 (.cond (.t 43) (.seq r42_2 .ret) .skip)) (.kp [2,3] (.seq (.seq r42_3 (.block 0 (.seq r42_5 (.cond (.t 46) (.seq r42_6 (.cond (.t 57) (.seq r42_7 .ret) .skip)) (.seq r42_8 (.cond (.t 58) (.seq r42_9 (.cond (.t 78) (.seq r42_10 .ret) .skip)) (.seq r42_4 .ret))))))) (.kp [2,3] (.seq (.seq r42_11 (.cond (.t 88) (.seq r42_12 .ret) .skip)) (.kp [2,3] (.seq (.seq r42_13 (.block 1 (.loop l42_1))) (.seq r42_19 .ret)))))))))
def i42:IFn:=⟨2,144,b42,[.tmp 4]⟩
def o43_0:List IOp:=[q (.boxL 2 (.t 0)),
 q (.boxL 3 (.t 1)),
 q (.val 4 .mov [.k (.p (.bool false))])]
def r43_0:IC:=(.reg o43_0 [2,3])
def o43_1:List IOp:=[q (.load 5 (.t 2) 3 true),
 q (.val 6 (.faddr 0) [.t 3]),
 q (.load 7 (.t 6) 1 false),
 q (.call (some 8) 71 [.t 5,.t 7]),
 q (.val 9 .not [.t 8]),
 mv 10 9,
 ⟨(some (10,false)),.load 11 (.t 2) 3 true,[],none⟩,
 ⟨(some (10,false)),.val 12 (.faddr 1) [.t 3],[],none⟩,
 ⟨(some (10,false)),.load 13 (.t 12) 1 false,[],none⟩,
 ⟨(some (10,false)),.call (some 14) 71 [.t 11,.t 13],[],none⟩,
 ⟨(some (10,false)),.val 15 .not [.t 14],[],none⟩,
 q (.val 16 .pick [.t 10,.k (.p (.bool true)),.t 15]),
 mv 17 16,
 ⟨(some (17,false)),.val 18 (.faddr 0) [.t 3],[],none⟩,
 ⟨(some (17,false)),.load 19 (.t 18) 1 false,[],none⟩,
 ⟨(some (17,false)),.val 20 (.faddr 1) [.t 3],[],none⟩,
 ⟨(some (17,false)),.load 21 (.t 20) 1 false,[],none⟩,
 ⟨(some (17,false)),.val 22 (.bin .eql) [.t 19,.t 21],[],none⟩,
 q (.val 23 .pick [.t 17,.k (.p (.bool true)),.t 22]),
 mv 24 23,
 ⟨(some (24,false)),.val 25 (.faddr 1) [.t 2],[],none⟩,
 ⟨(some (24,false)),.load 26 (.t 25) 1 false,[],none⟩,
 ⟨(some (24,false)),.val 27 (.faddr 0) [.t 3],[],none⟩,
 ⟨(some (24,false)),.load 28 (.t 27) 1 false,[],none⟩,
 ⟨(some (24,false)),.val 29 (.iaddrS 1) [.t 26,.t 28],[],none⟩,
 ⟨(some (24,false)),.load 30 (.t 29) 1 false,[],none⟩,
 ⟨(some (24,false)),.val 31 .mov [.t 30],[],none⟩,
 ⟨(some (31,true)),.val 32 (.faddr 1) [.t 2],[],none⟩,
 ⟨(some (31,true)),.load 33 (.t 32) 1 false,[],none⟩,
 ⟨(some (31,true)),.val 34 (.faddr 1) [.t 3],[],none⟩,
 ⟨(some (31,true)),.load 35 (.t 34) 1 false,[],none⟩,
 ⟨(some (31,true)),.val 36 (.iaddrS 1) [.t 33,.t 35],[],none⟩,
 ⟨(some (31,true)),.load 37 (.t 36) 1 false,[],none⟩,
 ⟨(some (24,false)),.val 38 .pick [.t 31,.t 37,.k (.p (.bool false))],[],none⟩,
 q (.val 39 .pick [.t 24,.k (.p (.bool true)),.t 38])]
def r43_1:IC:=(.reg o43_1 [3,39])
def o43_2:List IOp:=[q (.val 4 .mov [.k (.p (.bool false))])]
def r43_2:IC:=(.reg o43_2 [4])
def o43_3:List IOp:=[q (.val 40 (.faddr 2) [.t 3]),
 q (.load 41 (.t 40) 1 false),
 q (.val 42 (.bin .geq) [.t 41,ki 1]),
 mv 43 42,
 ⟨(some (43,true)),.val 44 (.faddr 2) [.t 3],[],none⟩,
 ⟨(some (43,true)),.load 45 (.t 44) 1 false,[],none⟩,
 ⟨(some (43,true)),.val 46 (.bin .leq) [.t 45,ki 1000],[],none⟩,
 q (.val 47 .pick [.t 43,.t 46,.k (.p (.bool false))]),
 mv 48 47,
 ⟨(some (48,true)),.val 49 (.faddr 3) [.t 3],[],none⟩,
 ⟨(some (48,true)),.load 50 (.t 49) 1 false,[],none⟩,
 ⟨(some (48,true)),.val 51 (.bin .geq) [.t 50,ki 0],[],none⟩,
 q (.val 52 .pick [.t 48,.t 51,.k (.p (.bool false))]),
 mv 53 52,
 ⟨(some (53,true)),.val 54 (.faddr 3) [.t 3],[],none⟩,
 ⟨(some (53,true)),.load 55 (.t 54) 1 false,[],none⟩,
 ⟨(some (53,true)),.val 56 (.bin .leq) [.t 55,ki 10000],[],none⟩,
 q (.val 57 .pick [.t 53,.t 56,.k (.p (.bool false))]),
 mv 4 57]
def r43_3:IC:=(.reg o43_3 [4])
def b43:IC:=(.seq r43_0 (.seq (.seq r43_1 (.cond (.t 39) (.seq r43_2 .ret) .skip)) (.kp [3] (.seq r43_3 .ret))))
def i43:IFn:=⟨2,58,b43,[.tmp 4]⟩
def o44_0:List IOp:=[q (.boxL 3 (.t 0)),
 q (.val 6 .mov [.k (.p (.bool false))])]
def r44_0:IC:=(.reg o44_0 [1,2,3])
def o44_1:List IOp:=[q (.val 7 (.faddr 0) [.t 3]),
 q (.load 8 (.t 7) 1 false),
 mv 9 1,
 q (.val 10 (.bin .eql) [.t 8,.t 9]),
 mv 11 10,
 ⟨(some (11,true)),.val 12 (.faddr 1) [.t 3],[],none⟩,
 ⟨(some (11,true)),.load 13 (.t 12) 1 false,[],none⟩,
 ⟨(some (11,true)),.val 14 .mov [.t 2],[],none⟩,
 ⟨(some (11,true)),.val 15 (.bin .eql) [.t 13,.t 14],[],none⟩,
 q (.val 16 .pick [.t 11,.t 15,.k (.p (.bool false))]),
 mv 17 16,
 ⟨(some (17,false)),.val 18 (.faddr 0) [.t 3],[],none⟩,
 ⟨(some (17,false)),.load 19 (.t 18) 1 false,[],none⟩,
 ⟨(some (17,false)),.val 20 .mov [.t 2],[],none⟩,
 ⟨(some (17,false)),.val 21 (.bin .eql) [.t 19,.t 20],[],none⟩,
 ⟨(some (17,false)),.val 22 .mov [.t 21],[],none⟩,
 ⟨(some (22,true)),.val 23 (.faddr 1) [.t 3],[],none⟩,
 ⟨(some (22,true)),.load 24 (.t 23) 1 false,[],none⟩,
 ⟨(some (22,true)),.val 25 .mov [.t 1],[],none⟩,
 ⟨(some (22,true)),.val 26 (.bin .eql) [.t 24,.t 25],[],none⟩,
 ⟨(some (17,false)),.val 27 .pick [.t 22,.t 26,.k (.p (.bool false))],[],none⟩,
 q (.val 28 .pick [.t 17,.k (.p (.bool true)),.t 27]),
 mv 6 28]
def r44_1:IC:=(.reg o44_1 [6])
def b44:IC:=(.seq r44_0 (.seq r44_1 .ret))
def i44:IFn:=⟨3,29,b44,[.tmp 6]⟩
def o45_0:List IOp:=[q (.boxL 3 (.t 0)),
 q (.val 6 .mov [.k (.p (.sl 1 true []))])]
def r45_0:IC:=(.reg o45_0 [1,2,3])
def o45_1:List IOp:=[q (.val 11 (.faddr 0) [.t 3]),
 q (.load 12 (.t 11) 1 false),
 q (.mkSl 13 (.t 12) (.t 12) [.bool false] 1),
 mv 7 13]
def r45_1:IC:=(.reg o45_1 [1,2,3,7])
def o45_2:List IOp:=[mv 14 7,
 mv 15 1,
 q (.val 16 (.iaddrS 1) [.t 14,.t 15]),
 q (.store (.t 16) (.k (.p (.bool true))) 1)]
def r45_2:IC:=(.reg o45_2 [2,3,7])
def o45_3:List IOp:=[q (.val 8 .mov [ki 0])]
def r45_3:IC:=(.reg o45_3 [2,3,7,8])
def o45_4:List IOp:=[mv 17 8,
 q (.val 18 (.faddr 0) [.t 3]),
 q (.load 19 (.t 18) 1 false),
 q (.val 20 (.bin .lss) [.t 17,.t 19])]
def r45_4:IC:=(.reg o45_4 [2,3,7,8,20])
def o45_6:List IOp:=[q (.val 9 .mov [ki 0])]
def r45_6:IC:=(.reg o45_6 [2,3,7,8,9])
def o45_7:List IOp:=[mv 23 9,
 q (.val 24 (.faddr 2) [.t 3]),
 q (.load 25 (.t 24) 1 false),
 q (.val 26 .len [.t 25]),
 q (.val 27 (.bin .lss) [.t 23,.t 26])]
def r45_7:IC:=(.reg o45_7 [2,3,7,8,9,27])
def o45_9:List IOp:=[q (.val 30 (.faddr 2) [.t 3]),
 q (.load 31 (.t 30) 1 false),
 mv 32 9,
 q (.val 33 (.iaddrS 4) [.t 31,.t 32]),
 q (.load 34 (.t 33) 4 true),
 q (.newL 10 [.p (.int .i64 0),.p (.int .i64 0),.p (.int .i64 0),.p (.int .i64 0)]),
 q (.store (.t 10) (.t 34) 4)]
def r45_9:IC:=(.reg o45_9 [2,3,7,8,9,10])
def o45_10:List IOp:=[mv 35 2,
 mv 36 9,
 q (.call (some 37) 72 [.t 35,.t 36]),
 q (.val 38 .not [.t 37]),
 mv 39 38,
 ⟨(some (39,true)),.val 40 .mov [.t 7],[],none⟩,
 ⟨(some (39,true)),.val 41 (.faddr 0) [.t 10],[],none⟩,
 ⟨(some (39,true)),.load 42 (.t 41) 1 false,[],none⟩,
 ⟨(some (39,true)),.val 43 (.iaddrS 1) [.t 40,.t 42],[],none⟩,
 ⟨(some (39,true)),.load 44 (.t 43) 1 false,[],none⟩,
 ⟨(some (39,true)),.val 45 .mov [.t 44],[],none⟩,
 ⟨(some (45,false)),.val 46 .mov [.t 7],[],none⟩,
 ⟨(some (45,false)),.val 47 (.faddr 1) [.t 10],[],none⟩,
 ⟨(some (45,false)),.load 48 (.t 47) 1 false,[],none⟩,
 ⟨(some (45,false)),.val 49 (.iaddrS 1) [.t 46,.t 48],[],none⟩,
 ⟨(some (45,false)),.load 50 (.t 49) 1 false,[],none⟩,
 ⟨(some (39,true)),.val 51 .pick [.t 45,.k (.p (.bool true)),.t 50],[],none⟩,
 q (.val 52 .pick [.t 39,.t 51,.k (.p (.bool false))])]
def r45_10:IC:=(.reg o45_10 [2,3,7,8,9,10,52])
def o45_11:List IOp:=[mv 53 7,
 q (.val 54 (.faddr 0) [.t 10]),
 q (.load 55 (.t 54) 1 false),
 q (.val 56 (.iaddrS 1) [.t 53,.t 55]),
 q (.store (.t 56) (.k (.p (.bool true))) 1)]
def r45_11:IC:=(.reg o45_11 [2,3,7,8,9,10])
def o45_12:List IOp:=[mv 57 7,
 q (.val 58 (.faddr 1) [.t 10]),
 q (.load 59 (.t 58) 1 false),
 q (.val 60 (.iaddrS 1) [.t 57,.t 59]),
 q (.store (.t 60) (.k (.p (.bool true))) 1)]
def r45_12:IC:=(.reg o45_12 [2,3,7,8,9])
def o45_8:List IOp:=[mv 28 9,
 q (.val 29 (.bin .add) [.t 28,ki 1]),
 mv 9 29]
def r45_8:IC:=(.reg o45_8 [2,3,7,8,9])
def l45_2:IC:=(.seq (.seq r45_7 (.cond (.t 27) .skip (.kp [2,3,7,8] (.exit 2)))) (.kp [2,3,7,8,9] (.seq (.block 3 (.seq r45_9 (.seq r45_10 (.cond (.t 52) (.seq r45_11 r45_12) .skip)))) (.kp [2,3,7,8,9] r45_8))))
def o45_5:List IOp:=[mv 21 8,
 q (.val 22 (.bin .add) [.t 21,ki 1]),
 mv 8 22]
def r45_5:IC:=(.reg o45_5 [2,3,7,8])
def l45_1:IC:=(.seq (.seq r45_4 (.cond (.t 20) .skip (.kp [7] (.exit 0)))) (.kp [2,3,7,8] (.seq (.block 1 (.seq r45_6 (.block 2 (.loop l45_2)))) r45_5)))
def o45_13:List IOp:=[mv 61 7,
 mv 6 61]
def r45_13:IC:=(.reg o45_13 [6])
def b45:IC:=(.seq r45_0 (.seq r45_1 (.seq r45_2 (.seq (.seq r45_3 (.block 0 (.loop l45_1))) (.seq r45_13 .ret)))))
def i45:IFn:=⟨3,62,b45,[.tmp 6]⟩
def o46_0:List IOp:=[q (.newL 6 [.p (.int .i64 0),.p (.int .i64 0),.p (.int .i64 0),.p (.int .i64 0),.p (.int .i64 0)])]
def r46_0:IC:=(.reg o46_0 [0,1,2,3,4,6])
def o46_1:List IOp:=[q (.val 10 (.faddr 9) [.t 1]),
 q (.load 11 (.t 10) 1 false),
 q (.load 12 (.t 2) 1 false),
 q (.val 13 (.iaddrS 1) [.t 11,.t 12]),
 q (.load 14 (.t 13) 1 false),
 q (.val 15 .len [.t 14]),
 q (.val 16 .mov [ki 0])]
def r46_1:IC:=(.reg o46_1 [0,1,3,4,6,14,15,16])
def o46_2:List IOp:=[q (.val 17 (.bin .lss) [.t 16,.t 15])]
def r46_2:IC:=(.reg o46_2 [0,1,3,4,6,14,15,16,17])
def o46_3:List IOp:=[mv 18 16,
 q (.val 19 (.iaddrS 1) [.t 14,.t 16]),
 q (.load 20 (.t 19) 1 false),
 mv 7 18,
 mv 8 20]
def r46_3:IC:=(.reg o46_3 [0,1,3,4,6,7,8,14,15,16])
def o46_4:List IOp:=[mv 21 7,
 q (.val 22 (.bin .gtr) [.t 21,ki 0])]
def r46_4:IC:=(.reg o46_4 [0,1,3,4,6,8,14,15,16,22])
def o46_5:List IOp:=[q (.val 23 (.faddr 3) [.t 6]),
 ⟨none,.loadL 24 (.t 23) 1 false,[0],none⟩,
 q (.val 25 (.faddr 4) [.t 6]),
 ⟨none,.loadL 26 (.t 25) 1 false,[2],none⟩,
 ⟨none,.val 27 (.bin .add) [.t 24,.t 26],[0,1,2,3],none⟩,
 q (.val 28 (.faddr 2) [.t 3]),
 ⟨none,.loadH 29 (.t 28) 1 false,[5],none⟩,
 q (.val 30 (.faddr 0) [.t 6]),
 ⟨none,.loadL 31 (.t 30) 1 false,[7],none⟩,
 ⟨none,.val 32 (.bin .quo) [.t 31,ki 2],[7,8],none⟩,
 ⟨none,.val 33 (.iaddrS 4) [.t 29,.t 32],[5,6,7,8,9],none⟩,
 ⟨none,.val 34 (.faddr 3) [.t 33],[5,6,7,8,9,10],none⟩,
 ⟨none,.loadH 35 (.t 34) 1 false,[5,6,7,8,9,10,11],none⟩,
 ⟨none,.val 36 (.bin .add) [.t 27,.t 35],[0,1,2,3,4,5,6,7,8,9,10,11,12],none⟩,
 q (.val 37 (.faddr 2) [.t 4]),
 ⟨none,.loadH 38 (.t 37) 1 false,[14],none⟩,
 ⟨none,.val 39 (.bin .add) [.t 36,.t 38],[0,1,2,3,4,5,6,7,8,9,10,11,12,13,14,15],none⟩,
 ⟨none,.val 9 .mov [.t 39],[0,1,2,3,4,5,6,7,8,9,10,11,12,13,14,15,16],none⟩]
def r46_5:IC:=(.regD o46_5 [0,1,3,4,6,8,9,14,15,16])
def o46_6:List IOp:=[mv 40 9,
 q (.val 41 (.faddr 1) [.t 4]),
 ⟨none,.loadH 42 (.t 41) 1 false,[1],none⟩,
 ⟨none,.val 43 (.bin .mul) [ki 2,.t 42],[1,2],none⟩,
 ⟨none,.val 44 (.bin .sub) [.t 40,.t 43],[0,1,2,3],none⟩,
 mv 45 9,
 q (.val 46 (.faddr 1) [.t 4]),
 ⟨none,.loadH 47 (.t 46) 1 false,[6],none⟩,
 ⟨none,.val 48 (.bin .mul) [ki 2,.t 47],[6,7],none⟩,
 ⟨none,.val 49 (.bin .add) [.t 45,.t 48],[5,6,7,8],none⟩,
 ⟨none,.val 50 (.faddr 1) [.t 6],[0,1,2,3,4],none⟩,
 ⟨none,.store (.t 50) (.t 44) 1,[0,1,2,3,4,10],(some 6)⟩,
 ⟨none,.val 51 (.faddr 2) [.t 6],[0,1,2,3,4,5,6,7,8,9,10,11],none⟩,
 ⟨none,.store (.t 51) (.t 49) 1,[0,1,2,3,4,5,6,7,8,9,10,11,12],none⟩]
def r46_6:IC:=(.regD o46_6 [0,1,3,4,6,8,14,15,16])
def o46_7:List IOp:=[q (.val 52 (.faddr 2) [.t 6]),
 ⟨none,.loadL 53 (.t 52) 1 false,[0],none⟩,
 q (.val 54 (.faddr 0) [.t 4]),
 ⟨none,.loadH 55 (.t 54) 1 false,[2],none⟩,
 ⟨none,.val 56 (.bin .add) [.t 53,.t 55],[0,1,2,3],none⟩,
 ⟨none,.val 57 (.bin .sub) [.t 56,ki 1],[0,1,2,3,4],none⟩,
 q (.val 58 (.faddr 0) [.t 4]),
 ⟨none,.loadH 59 (.t 58) 1 false,[6],none⟩,
 ⟨none,.val 60 (.bin .quo) [.t 57,.t 59],[0,1,2,3,4,5,6,7],none⟩,
 q (.val 61 (.faddr 0) [.t 4]),
 ⟨none,.loadH 62 (.t 61) 1 false,[9],none⟩,
 ⟨none,.val 63 (.bin .mul) [.t 60,.t 62],[0,1,2,3,4,5,6,7,8,9,10],none⟩,
 ⟨none,.val 64 (.faddr 3) [.t 6],[0,1,2,3,4,5,6,7,8,9,10,11],none⟩,
 ⟨none,.store (.t 64) (.t 63) 1,[0,1,2,3,4,5,6,7,8,9,10,11,12],none⟩]
def r46_7:IC:=(.regD o46_7 [0,1,3,4,6,8,14,15,16])
def o46_8:List IOp:=[mv 65 8,
 q (.val 66 (.faddr 4) [.t 1]),
 ⟨none,.loadH 67 (.t 66) 1 false,[1],none⟩,
 q (.val 68 (.faddr 2) [.t 3]),
 ⟨none,.loadH 69 (.t 68) 1 false,[3],none⟩,
 mv 70 8,
 ⟨none,.val 71 (.bin .quo) [.t 70,ki 2],[5],none⟩,
 ⟨none,.val 72 (.iaddrS 4) [.t 69,.t 71],[3,4,5,6],none⟩,
 ⟨none,.val 73 (.faddr 2) [.t 72],[3,4,5,6,7],none⟩,
 ⟨none,.loadH 74 (.t 73) 1 false,[3,4,5,6,7,8],none⟩,
 ⟨none,.val 75 (.bin .mul) [.t 67,.t 74],[1,2,3,4,5,6,7,8,9],none⟩,
 ⟨none,.val 76 (.faddr 0) [.t 6],[0],none⟩,
 ⟨none,.store (.t 76) (.t 65) 1,[0,11],(some 6)⟩,
 ⟨none,.val 77 (.faddr 4) [.t 6],[0,1,2,3,4,5,6,7,8,9,10,11,12],none⟩,
 ⟨none,.store (.t 77) (.t 75) 1,[0,1,2,3,4,5,6,7,8,9,10,11,12,13],none⟩]
def r46_8:IC:=(.regD o46_8 [0,1,3,4,6,14,15,16])
def o46_9:List IOp:=[mv 78 0,
 q (.load 79 (.t 6) 5 true),
 q (.callY (some 80) (.t 78) [.t 79]),
 q (.val 81 .not [.t 80])]
def r46_9:IC:=(.reg o46_9 [0,1,3,4,6,14,15,16,81])
def o46_10:List IOp:=[q (.val 82 (.bin .add) [.t 16,ki 1]),
 mv 16 82]
def r46_10:IC:=(.reg o46_10 [0,1,3,4,6,14,15,16])
def l46_1:IC:=(.seq r46_2 (.seq (.cond (.t 17) .skip (.kp [] (.exit 0))) (.kp [0,1,3,4,6,14,15,16] (.seq (.block 1 (.seq r46_3 (.seq (.seq r46_4 (.cond (.t 22) (.seq r46_5 (.seq r46_6 r46_7)) .skip)) (.kp [0,1,3,4,6,8,14,15,16] (.seq r46_8 (.seq r46_9 (.cond (.t 81) .ret .skip))))))) (.kp [0,1,3,4,6,14,15,16] r46_10)))))
def b46:IC:=(.seq r46_0 (.seq r46_1 (.block 0 (.loop l46_1))))
def i46:IFn:=⟨5,83,b46,[]⟩
def o47_0:List IOp:=[q (.boxL 2 (.t 0)),
 q (.val 4 .mov [ki 0])]
def r47_0:IC:=(.reg o47_0 [1,2])
def o47_1:List IOp:=[q (.val 5 (.faddr 2) [.t 2]),
 q (.load 6 (.t 5) 1 false),
 mv 7 1,
 q (.val 8 (.bin .quo) [.t 7,ki 2]),
 q (.val 9 (.iaddrS 4) [.t 6,.t 8]),
 q (.val 10 (.faddr 2) [.t 9]),
 q (.load 11 (.t 10) 1 false),
 mv 4 11]
def r47_1:IC:=(.reg o47_1 [4])
def b47:IC:=(.seq r47_0 (.seq r47_1 .ret))
def i47:IFn:=⟨2,12,b47,[.tmp 4]⟩
def o48_0:List IOp:=[q (.boxL 2 (.t 0)),
 q (.val 4 .mov [ki 0])]
def r48_0:IC:=(.reg o48_0 [1,2])
def o48_1:List IOp:=[q (.val 5 (.faddr 2) [.t 2]),
 q (.load 6 (.t 5) 1 false),
 mv 7 1,
 q (.val 8 (.bin .quo) [.t 7,ki 2]),
 q (.val 9 (.iaddrS 4) [.t 6,.t 8]),
 q (.val 10 (.faddr 3) [.t 9]),
 q (.load 11 (.t 10) 1 false),
 mv 4 11]
def r48_1:IC:=(.reg o48_1 [4])
def b48:IC:=(.seq r48_0 (.seq r48_1 .ret))
def i48:IFn:=⟨2,12,b48,[.tmp 4]⟩
def o49_0:List IOp:=[q (.boxL 3 (.t 0)),
 q (.val 6 .mov [.k (.nl .nilSl)])]
def r49_0:IC:=(.reg o49_0 [1,2,3])
def o49_1:List IOp:=[q (.val 7 .mov [ki 0])]
def r49_1:IC:=(.reg o49_1 [1,2,3,7])
def o49_2:List IOp:=[mv 9 7,
 q (.val 10 (.bin .lss) [.t 9,ki 16])]
def r49_2:IC:=(.reg o49_2 [1,2,3,7,10])
def o49_4:List IOp:=[q (.load 13 (.t 3) 3 true),
 mv 14 1,
 mv 15 2,
 mv 16 7,
 q (.val 17 (.conv .u8) [.t 16]),
 q (.val 18 (.bin .add) [.t 15,.t 17]),
 q (.call (some 19) 73 [.t 13,.t 14,.t 18]),
 mv 8 19]
def r49_4:IC:=(.reg o49_4 [1,2,3,7,8])
def o49_5:List IOp:=[mv 20 8,
 ⟨none,.val 21 .len [.t 20],[0],none⟩,
 ⟨none,.val 22 (.bin .gtr) [.t 21,ki 0],[0,1],none⟩,
 ⟨none,.val 23 .mov [.t 22],[0,1,2],none⟩,
 ⟨(some (23,true)),.loadL 24 (.t 3) 3 true,[0,1,2,3],none⟩,
 ⟨(some (23,true)),.val 25 .mov [.t 8],[0,1,2,3],none⟩,
 ⟨(some (23,true)),.callP 26 70 [.t 24,.t 25],[0,1,2,3,4,5],none⟩,
 ⟨none,.val 27 .pick [.t 23,.t 26,.k (.p (.bool false))],[0,1,2,3,4,5,6],none⟩,
 ⟨none,.val 28 .mov [.t 27],[0,1,2,3,4,5,6,7],none⟩,
 ⟨(some (28,true)),.val 29 (.faddr 1) [.t 3],[0,1,2,3,4,5,6,7,8],none⟩,
 ⟨(some (28,true)),.loadL 30 (.t 29) 1 false,[0,1,2,3,4,5,6,7,8,9],none⟩,
 ⟨(some (28,true)),.loadL 31 (.t 3) 3 true,[0,1,2,3,4,5,6,7,8],none⟩,
 ⟨(some (28,true)),.val 32 .mov [.t 8],[0,1,2,3,4,5,6,7,8],none⟩,
 ⟨(some (28,true)),.val 33 (.iaddrS 1) [.t 32,ki 0],[0,1,2,3,4,5,6,7,8,12],none⟩,
 ⟨(some (28,true)),.loadH 34 (.t 33) 1 false,[0,1,2,3,4,5,6,7,8,12,13],none⟩,
 ⟨(some (28,true)),.callP 35 50 [.t 31,.t 34],[0,1,2,3,4,5,6,7,8,11,12,13,14],none⟩,
 ⟨(some (28,true)),.val 36 (.iaddrS 1) [.t 30,.t 35],[0,1,2,3,4,5,6,7,8,9,10,11,12,13,14,15],none⟩,
 ⟨(some (28,true)),.loadH 37 (.t 36) 1 false,[0,1,2,3,4,5,6,7,8,9,10,11,12,13,14,15,16],none⟩,
 ⟨none,.val 38 .pick [.t 28,.t 37,.k (.p (.bool false))],[0,1,2,3,4,5,6,7,8,9,10,11,12,13,14,15,16,17],none⟩,
 ⟨none,.val 39 .mov [.t 38],[0,1,2,3,4,5,6,7,8,9,10,11,12,13,14,15,16,17,18],none⟩,
 ⟨(some (39,true)),.val 40 (.faddr 1) [.t 3],[0,1,2,3,4,5,6,7,8,9,10,11,12,13,14,15,16,17,18,19],none⟩,
 ⟨(some (39,true)),.loadL 41 (.t 40) 1 false,[0,1,2,3,4,5,6,7,8,9,10,11,12,13,14,15,16,17,18,19,20],none⟩,
 ⟨(some (39,true)),.loadL 42 (.t 3) 3 true,[0,1,2,3,4,5,6,7,8,9,10,11,12,13,14,15,16,17,18,19],none⟩,
 ⟨(some (39,true)),.val 43 .mov [.t 8],[0,1,2,3,4,5,6,7,8,9,10,11,12,13,14,15,16,17,18,19],none⟩,
 ⟨(some (39,true)),.val 44 .mov [.t 8],[0,1,2,3,4,5,6,7,8,9,10,11,12,13,14,15,16,17,18,19],none⟩,
 ⟨(some (39,true)),.val 45 .len [.t 44],[0,1,2,3,4,5,6,7,8,9,10,11,12,13,14,15,16,17,18,19,24],none⟩,
 ⟨(some (39,true)),.val 46 (.bin .sub) [.t 45,ki 1],[0,1,2,3,4,5,6,7,8,9,10,11,12,13,14,15,16,17,18,19,24,25],none⟩,
 ⟨(some (39,true)),.val 47 (.iaddrS 1) [.t 43,.t 46],[0,1,2,3,4,5,6,7,8,9,10,11,12,13,14,15,16,17,18,19,23,24,25,26],none⟩,
 ⟨(some (39,true)),.loadH 48 (.t 47) 1 false,[0,1,2,3,4,5,6,7,8,9,10,11,12,13,14,15,16,17,18,19,23,24,25,26,27],none⟩,
 ⟨(some (39,true)),.callP 49 51 [.t 42,.t 48],[0,1,2,3,4,5,6,7,8,9,10,11,12,13,14,15,16,17,18,19,22,23,24,25,26,27,28],none⟩,
 ⟨(some (39,true)),.val 50 (.iaddrS 1) [.t 41,.t 49],[0,1,2,3,4,5,6,7,8,9,10,11,12,13,14,15,16,17,18,19,20,21,22,23,24,25,26,27,28,29],none⟩,
 ⟨(some (39,true)),.loadH 51 (.t 50) 1 false,[0,1,2,3,4,5,6,7,8,9,10,11,12,13,14,15,16,17,18,19,20,21,22,23,24,25,26,27,28,29,30],none⟩,
 ⟨none,.val 52 .pick [.t 39,.t 51,.k (.p (.bool false))],[0,1,2,3,4,5,6,7,8,9,10,11,12,13,14,15,16,17,18,19,20,21,22,23,24,25,26,27,28,29,30,31],none⟩]
def r49_5:IC:=(.regD o49_5 [1,2,3,7,8,52])
def o49_6:List IOp:=[mv 53 8,
 mv 6 53]
def r49_6:IC:=(.reg o49_6 [6])
def o49_3:List IOp:=[mv 11 7,
 q (.val 12 (.bin .add) [.t 11,ki 1]),
 mv 7 12]
def r49_3:IC:=(.reg o49_3 [1,2,3,7])
def l49_1:IC:=(.seq (.seq r49_2 (.cond (.t 10) .skip (.kp [] (.exit 0)))) (.kp [1,2,3,7] (.seq (.block 1 (.seq r49_4 (.seq r49_5 (.cond (.t 52) (.seq r49_6 .ret) .skip)))) (.kp [1,2,3,7] r49_3))))
def o49_7:List IOp:=[q (.val 6 .mov [.k (.nl .nilSl)])]
def r49_7:IC:=(.reg o49_7 [6])
def b49:IC:=(.seq r49_0 (.seq (.seq r49_1 (.block 0 (.loop l49_1))) (.seq r49_7 .ret)))
def i49:IFn:=⟨3,54,b49,[.tmp 6]⟩
def o50_0:List IOp:=[q (.boxL 2 (.t 0)),
 q (.val 4 .mov [ki 0])]
def r50_0:IC:=(.reg o50_0 [1,2])
def o50_1:List IOp:=[q (.val 6 (.faddr 2) [.t 2]),
 q (.load 7 (.t 6) 1 false),
 mv 8 1,
 q (.val 9 (.bin .quo) [.t 8,ki 2]),
 q (.val 10 (.iaddrS 4) [.t 7,.t 9]),
 q (.load 11 (.t 10) 4 true),
 q (.newL 5 [.p (.int .i64 0),.p (.int .i64 0),.p (.int .i64 0),.p (.int .i64 0)]),
 q (.store (.t 5) (.t 11) 4)]
def r50_1:IC:=(.reg o50_1 [1,5])
def o50_2:List IOp:=[mv 12 1,
 q (.val 13 (.bin .rem) [.t 12,ki 2]),
 q (.val 14 (.bin .eql) [.t 13,ki 1])]
def r50_2:IC:=(.reg o50_2 [5,14])
def o50_3:List IOp:=[q (.val 15 (.faddr 1) [.t 5]),
 q (.load 16 (.t 15) 1 false),
 mv 4 16]
def r50_3:IC:=(.reg o50_3 [4])
def o50_4:List IOp:=[q (.val 17 (.faddr 0) [.t 5]),
 q (.load 18 (.t 17) 1 false),
 mv 4 18]
def r50_4:IC:=(.reg o50_4 [4])
def b50:IC:=(.seq r50_0 (.seq r50_1 (.seq (.seq r50_2 (.cond (.t 14) (.seq r50_3 .ret) .skip)) (.kp [5] (.seq r50_4 .ret)))))
def i50:IFn:=⟨2,19,b50,[.tmp 4]⟩
def o51_0:List IOp:=[q (.boxL 2 (.t 0)),
 q (.val 4 .mov [ki 0])]
def r51_0:IC:=(.reg o51_0 [1,2])
def o51_1:List IOp:=[q (.val 6 (.faddr 2) [.t 2]),
 q (.load 7 (.t 6) 1 false),
 mv 8 1,
 q (.val 9 (.bin .quo) [.t 8,ki 2]),
 q (.val 10 (.iaddrS 4) [.t 7,.t 9]),
 q (.load 11 (.t 10) 4 true),
 q (.newL 5 [.p (.int .i64 0),.p (.int .i64 0),.p (.int .i64 0),.p (.int .i64 0)]),
 q (.store (.t 5) (.t 11) 4)]
def r51_1:IC:=(.reg o51_1 [1,5])
def o51_2:List IOp:=[mv 12 1,
 q (.val 13 (.bin .rem) [.t 12,ki 2]),
 q (.val 14 (.bin .eql) [.t 13,ki 1])]
def r51_2:IC:=(.reg o51_2 [5,14])
def o51_3:List IOp:=[q (.val 15 (.faddr 0) [.t 5]),
 q (.load 16 (.t 15) 1 false),
 mv 4 16]
def r51_3:IC:=(.reg o51_3 [4])
def o51_4:List IOp:=[q (.val 17 (.faddr 1) [.t 5]),
 q (.load 18 (.t 17) 1 false),
 mv 4 18]
def r51_4:IC:=(.reg o51_4 [4])
def b51:IC:=(.seq r51_0 (.seq r51_1 (.seq (.seq r51_2 (.cond (.t 14) (.seq r51_3 .ret) .skip)) (.kp [5] (.seq r51_4 .ret)))))
def i51:IFn:=⟨2,19,b51,[.tmp 4]⟩
def o52_0:List IOp:=[q (.boxL 3 (.t 0)),
 q (.val 6 .mov [.k (.p (.bool false))])]
def r52_0:IC:=(.reg o52_0 [1,2,3])
def o52_1:List IOp:=[q (.val 7 .mov [ki 0])]
def r52_1:IC:=(.reg o52_1 [1,2,3,7])
def o52_2:List IOp:=[mv 9 7,
 mv 10 1,
 q (.val 11 .len [.t 10]),
 q (.val 12 (.bin .lss) [.t 9,.t 11])]
def r52_2:IC:=(.reg o52_2 [1,2,3,7,12])
def o52_4:List IOp:=[q (.val 8 .mov [ki 0])]
def r52_4:IC:=(.reg o52_4 [1,2,3,7,8])
def o52_5:List IOp:=[mv 15 8,
 mv 16 2,
 q (.val 17 .len [.t 16]),
 q (.val 18 (.bin .lss) [.t 15,.t 17])]
def r52_5:IC:=(.reg o52_5 [1,2,3,7,8,18])
def o52_7:List IOp:=[mv 21 1,
 mv 22 7,
 ⟨none,.val 23 (.iaddrS 1) [.t 21,.t 22],[0,1],none⟩,
 ⟨none,.loadH 24 (.t 23) 1 false,[0,1,2],none⟩,
 ⟨none,.val 25 (.bin .quo) [.t 24,ki 2],[0,1,2,3],none⟩,
 mv 26 2,
 mv 27 8,
 ⟨none,.val 28 (.iaddrS 1) [.t 26,.t 27],[5,6],none⟩,
 ⟨none,.loadH 29 (.t 28) 1 false,[5,6,7],none⟩,
 ⟨none,.val 30 (.bin .quo) [.t 29,ki 2],[5,6,7,8],none⟩,
 ⟨none,.val 31 (.bin .eql) [.t 25,.t 30],[0,1,2,3,4,5,6,7,8,9],none⟩]
def r52_7:IC:=(.regD o52_7 [1,2,3,7,8,31])
def o52_8:List IOp:=[q (.val 6 .mov [.k (.p (.bool false))])]
def r52_8:IC:=(.reg o52_8 [6])
def o52_6:List IOp:=[mv 19 8,
 q (.val 20 (.bin .add) [.t 19,ki 1]),
 mv 8 20]
def r52_6:IC:=(.reg o52_6 [1,2,3,7,8])
def l52_2:IC:=(.seq (.seq r52_5 (.cond (.t 18) .skip (.kp [1,2,3,7] (.exit 2)))) (.kp [1,2,3,7,8] (.seq (.block 3 (.seq r52_7 (.cond (.t 31) (.seq r52_8 .ret) .skip))) (.kp [1,2,3,7,8] r52_6))))
def o52_3:List IOp:=[mv 13 7,
 q (.val 14 (.bin .add) [.t 13,ki 1]),
 mv 7 14]
def r52_3:IC:=(.reg o52_3 [1,2,3,7])
def l52_1:IC:=(.seq (.seq r52_2 (.cond (.t 12) .skip (.kp [1,2,3] (.exit 0)))) (.kp [1,2,3,7] (.seq (.block 1 (.seq r52_4 (.block 2 (.loop l52_2)))) r52_3)))
def o52_9:List IOp:=[q (.loadL 32 (.t 3) 3 true),
 mv 33 1,
 ⟨none,.callP 34 75 [.t 32,.t 33],[0,1],none⟩,
 q (.loadL 35 (.t 3) 3 true),
 mv 36 2,
 ⟨none,.call (some 37) 75 [.t 35,.t 36],[0,1,2,3,4],none⟩,
 ⟨none,.call (some 38) 74 [.t 34,.t 37],[0,1,2,3,4,5],none⟩,
 ⟨none,.val 39 .not [.t 38],[0,1,2,3,4,5,6],none⟩,
 ⟨none,.val 40 .mov [.t 39],[0,1,2,3,4,5,6,7],none⟩,
 ⟨(some (40,true)),.loadL 41 (.t 3) 3 true,[0,1,2,3,4,5,6,7,8],none⟩,
 ⟨(some (40,true)),.val 42 .mov [.t 2],[0,1,2,3,4,5,6,7,8],none⟩,
 ⟨(some (40,true)),.callP 43 75 [.t 41,.t 42],[0,1,2,3,4,5,6,7,8,9,10],none⟩,
 ⟨(some (40,true)),.loadL 44 (.t 3) 3 true,[0,1,2,3,4,5,6,7,8],none⟩,
 ⟨(some (40,true)),.val 45 .mov [.t 1],[0,1,2,3,4,5,6,7,8],none⟩,
 ⟨(some (40,true)),.callP 46 75 [.t 44,.t 45],[0,1,2,3,4,5,6,7,8,9,10,11,12,13],none⟩,
 ⟨(some (40,true)),.callP 47 74 [.t 43,.t 46],[0,1,2,3,4,5,6,7,8,9,10,11,12,13,14],none⟩,
 ⟨(some (40,true)),.val 48 .not [.t 47],[0,1,2,3,4,5,6,7,8,9,10,11,12,13,14,15],none⟩,
 ⟨none,.val 49 .pick [.t 40,.t 48,.k (.p (.bool false))],[0,1,2,3,4,5,6,7,8,9,10,11,12,13,14,15,16],none⟩,
 ⟨none,.val 6 .mov [.t 49],[0,1,2,3,4,5,6,7,8,9,10,11,12,13,14,15,16,17],none⟩]
def r52_9:IC:=(.regD o52_9 [6])
def b52:IC:=(.seq r52_0 (.seq (.seq r52_1 (.block 0 (.loop l52_1))) (.seq r52_9 .ret)))
def i52:IFn:=⟨3,50,b52,[.tmp 6]⟩
def o53_0:List IOp:=[q (.boxH 1 (.t 0)),
 q (.val 2 .mov [.k (.p (.bool false))])]
def r53_0:IC:=(.reg o53_0 [1])
def o53_1:List IOp:=[q (.val 7 (.mkfn 76 0) [.t 1]),
 q (.val 8 (.mkfn 78 0) [.t 1]),
 q (.val 9 (.mkfn 79 0) [.t 1]),
 q (.val 10 (.mkfn 80 0) [.t 1]),
 q (.val 11 (.build [.nl .nilFunc,.nl .nilFunc,.nl .nilFunc,.nl .nilFunc] [(0,1),(1,1),(2,1),(3,1)]) [.t 7,.t 8,.t 9,.t 10]),
 q (.newL 3 [.nl .nilFunc,.nl .nilFunc,.nl .nilFunc,.nl .nilFunc]),
 q (.store (.t 3) (.t 11) 4)]
def r53_1:IC:=(.reg o53_1 [1,3])
def o53_2:List IOp:=[q (.val 12 (.faddr 2) [.t 1]),
 q (.load 13 (.t 12) 1 false),
 q (.val 14 .len [.t 13]),
 q (.val 15 .mov [ki 0])]
def r53_2:IC:=(.reg o53_2 [3,14,15])
def o53_3:List IOp:=[q (.val 16 (.bin .lss) [.t 15,.t 14])]
def r53_3:IC:=(.reg o53_3 [3,14,15,16])
def o53_4:List IOp:=[mv 17 15,
 mv 4 17]
def r53_4:IC:=(.reg o53_4 [3,4,14,15])
def o53_5:List IOp:=[q (.load 18 (.t 3) 4 true),
 q (.val 19 .mov [ki 0])]
def r53_5:IC:=(.reg o53_5 [3,4,14,15,18,19])
def o53_6:List IOp:=[q (.val 20 (.bin .lss) [.t 19,ki 4])]
def r53_6:IC:=(.reg o53_6 [3,4,14,15,18,19,20])
def o53_7:List IOp:=[q (.val 21 (.idx 4 1 false) [.t 18,.t 19]),
 mv 6 21]
def r53_7:IC:=(.reg o53_7 [3,4,6,14,15,18,19])
def o53_8:List IOp:=[mv 22 6,
 mv 23 4,
 q (.callV (some 24) (.t 22) [.t 23]),
 q (.val 25 .not [.t 24])]
def r53_8:IC:=(.reg o53_8 [3,4,14,15,18,19,25])
def o53_9:List IOp:=[q (.val 2 .mov [.k (.p (.bool false))])]
def r53_9:IC:=(.reg o53_9 [2])
def o53_10:List IOp:=[q (.val 26 (.bin .add) [.t 19,ki 1]),
 mv 19 26]
def r53_10:IC:=(.reg o53_10 [3,4,14,15,18,19])
def l53_2:IC:=(.seq r53_6 (.seq (.cond (.t 20) .skip (.kp [3,14,15] (.exit 2))) (.kp [3,4,14,15,18,19] (.seq (.block 3 (.seq r53_7 (.seq r53_8 (.cond (.t 25) (.seq r53_9 .ret) .skip)))) (.kp [3,4,14,15,18,19] r53_10)))))
def o53_11:List IOp:=[q (.val 27 (.bin .add) [.t 15,ki 1]),
 mv 15 27]
def r53_11:IC:=(.reg o53_11 [3,14,15])
def l53_1:IC:=(.seq r53_3 (.seq (.cond (.t 16) .skip (.kp [] (.exit 0))) (.kp [3,14,15] (.seq (.block 1 (.seq r53_4 (.seq r53_5 (.block 2 (.loop l53_2))))) r53_11))))
def o53_12:List IOp:=[q (.val 2 .mov [.k (.p (.bool true))])]
def r53_12:IC:=(.reg o53_12 [2])
def b53:IC:=(.seq r53_0 (.seq r53_1 (.seq (.seq r53_2 (.block 0 (.loop l53_1))) (.seq r53_12 .ret))))
def i53:IFn:=⟨1,28,b53,[.tmp 2]⟩
def o54_0:List IOp:=[q (.val 4 .mov [.k (.p (.bool false))])]
def r54_0:IC:=(.reg o54_0 [0,1])
def o54_1:List IOp:=[mv 5 0,
 mv 6 1,
 q (.call (some 7) 81 [.t 5,.t 6]),
 q (.val 8 (.bin .geq) [.t 7,ki 0]),
 mv 4 8]
def r54_1:IC:=(.reg o54_1 [4])
def b54:IC:=(.seq r54_0 (.seq r54_1 .ret))
def i54:IFn:=⟨2,9,b54,[.tmp 4]⟩
def o55_0:List IOp:=[q (.boxL 3 (.t 0)),
 q (.boxL 5 (.t 2)),
 q (.val 6 .mov [.k (.p (.sl 1 true []))])]
def r55_0:IC:=(.reg o55_0 [1,3,5])
def o55_1:List IOp:=[q (.val 10 (.faddr 0) [.t 3]),
 q (.load 11 (.t 10) 1 false),
 q (.mkSl 12 (.t 11) (.t 11) [.bool false] 1),
 mv 7 12]
def r55_1:IC:=(.reg o55_1 [1,3,5,7])
def o55_2:List IOp:=[mv 13 7,
 mv 14 1,
 q (.val 15 (.iaddrS 1) [.t 13,.t 14]),
 q (.store (.t 15) (.k (.p (.bool true))) 1)]
def r55_2:IC:=(.reg o55_2 [3,5,7])
def o55_3:List IOp:=[q (.val 16 (.faddr 0) [.t 3]),
 q (.load 17 (.t 16) 1 false),
 q (.val 18 .mov [ki 0])]
def r55_3:IC:=(.reg o55_3 [3,5,7,17,18])
def o55_4:List IOp:=[q (.val 19 (.bin .lss) [.t 18,.t 17])]
def r55_4:IC:=(.reg o55_4 [3,5,7,17,18,19])
def o55_5:List IOp:=[q (.val 20 (.faddr 2) [.t 3]),
 q (.load 21 (.t 20) 1 false),
 q (.val 22 .len [.t 21]),
 q (.val 23 .mov [ki 0])]
def r55_5:IC:=(.reg o55_5 [3,5,7,17,18,21,22,23])
def o55_6:List IOp:=[q (.val 24 (.bin .lss) [.t 23,.t 22])]
def r55_6:IC:=(.reg o55_6 [3,5,7,17,18,21,22,23,24])
def o55_7:List IOp:=[mv 25 23,
 q (.val 26 (.iaddrS 4) [.t 21,.t 23]),
 q (.load 27 (.t 26) 4 true),
 q (.newL 9 [.p (.int .i64 0),.p (.int .i64 0),.p (.int .i64 0),.p (.int .i64 0)]),
 mv 8 25,
 q (.store (.t 9) (.t 27) 4)]
def r55_7:IC:=(.reg o55_7 [3,5,7,8,9,17,18,21,22,23])
def o55_8:List IOp:=[mv 28 8,
 ⟨none,.val 29 (.iaddr 24 1) [.t 5,.t 28],[0],none⟩,
 ⟨none,.loadL 30 (.t 29) 1 false,[0,1],none⟩,
 ⟨none,.val 31 .not [.t 30],[0,1,2],none⟩,
 ⟨none,.val 32 .mov [.t 31],[0,1,2,3],none⟩,
 ⟨(some (32,true)),.val 33 .mov [.t 7],[0,1,2,3,4],none⟩,
 ⟨(some (32,true)),.val 34 (.faddr 0) [.t 9],[0,1,2,3,4],none⟩,
 ⟨(some (32,true)),.loadL 35 (.t 34) 1 false,[0,1,2,3,4,6],none⟩,
 ⟨(some (32,true)),.val 36 (.iaddrS 1) [.t 33,.t 35],[0,1,2,3,4,5,6,7],none⟩,
 ⟨(some (32,true)),.loadH 37 (.t 36) 1 false,[0,1,2,3,4,5,6,7,8],none⟩,
 ⟨(some (32,true)),.val 38 .mov [.t 7],[0,1,2,3,4],none⟩,
 ⟨(some (32,true)),.val 39 (.faddr 1) [.t 9],[0,1,2,3,4],none⟩,
 ⟨(some (32,true)),.loadL 40 (.t 39) 1 false,[0,1,2,3,4,11],none⟩,
 ⟨(some (32,true)),.val 41 (.iaddrS 1) [.t 38,.t 40],[0,1,2,3,4,10,11,12],none⟩,
 ⟨(some (32,true)),.loadH 42 (.t 41) 1 false,[0,1,2,3,4,10,11,12,13],none⟩,
 ⟨(some (32,true)),.val 43 (.eqB true) [.t 37,.t 42],[0,1,2,3,4,5,6,7,8,9,10,11,12,13,14],none⟩,
 ⟨none,.val 44 .pick [.t 32,.t 43,.k (.p (.bool false))],[0,1,2,3,4,5,6,7,8,9,10,11,12,13,14,15],none⟩]
def r55_8:IC:=(.regD o55_8 [3,5,7,9,17,18,21,22,23,44])
def o55_9:List IOp:=[mv 45 7,
 q (.val 46 (.faddr 0) [.t 9]),
 ⟨none,.loadL 47 (.t 46) 1 false,[1],none⟩,
 mv 48 7,
 q (.val 49 (.faddr 1) [.t 9]),
 ⟨none,.loadL 50 (.t 49) 1 false,[4],none⟩,
 ⟨none,.val 51 (.iaddrS 1) [.t 45,.t 47],[0,1,2],none⟩,
 ⟨none,.storeH (.t 51) (.k (.p (.bool true))) 1,[0,1,2,6],none⟩,
 ⟨none,.val 52 (.iaddrS 1) [.t 48,.t 50],[0,1,2,3,4,5,6,7],none⟩,
 ⟨none,.storeH (.t 52) (.k (.p (.bool true))) 1,[0,1,2,3,4,5,6,7,8],none⟩]
def r55_9:IC:=(.regD o55_9 [3,5,7,17,18,21,22,23])
def o55_10:List IOp:=[q (.val 53 (.bin .add) [.t 23,ki 1]),
 mv 23 53]
def r55_10:IC:=(.reg o55_10 [3,5,7,17,18,21,22,23])
def l55_2:IC:=(.seq r55_6 (.seq (.cond (.t 24) .skip (.kp [3,5,7,17,18] (.exit 2))) (.kp [3,5,7,17,18,21,22,23] (.seq (.block 3 (.seq r55_7 (.seq r55_8 (.cond (.t 44) r55_9 .skip)))) (.kp [3,5,7,17,18,21,22,23] r55_10)))))
def o55_11:List IOp:=[q (.val 54 (.bin .add) [.t 18,ki 1]),
 mv 18 54]
def r55_11:IC:=(.reg o55_11 [3,5,7,17,18])
def l55_1:IC:=(.seq r55_4 (.seq (.cond (.t 19) .skip (.kp [7] (.exit 0))) (.kp [3,5,7,17,18] (.seq (.block 1 (.seq r55_5 (.block 2 (.loop l55_2)))) r55_11))))
def o55_12:List IOp:=[mv 55 7,
 mv 6 55]
def r55_12:IC:=(.reg o55_12 [6])
def b55:IC:=(.seq r55_0 (.seq r55_1 (.seq r55_2 (.seq (.seq r55_3 (.block 0 (.loop l55_1))) (.seq r55_12 .ret)))))
def i55:IFn:=⟨3,56,b55,[.tmp 6]⟩
def o56_0:List IOp:=[q (.val 1 .mov [.k (.p (.bool false))])]
def r56_0:IC:=(.reg o56_0 [0])
def o56_1:List IOp:=[q (.val 2 (.faddr 0) [.t 0]),
 q (.load 3 (.t 2) 1 false),
 q (.call (some 4) 40 [.t 3,ki 1,ki 4095]),
 mv 1 4]
def r56_1:IC:=(.reg o56_1 [1])
def b56:IC:=(.seq r56_0 (.seq r56_1 .ret))
def i56:IFn:=⟨1,5,b56,[.tmp 1]⟩
def o57_0:List IOp:=[q (.val 2 .mov [.k (.p (.bool false))])]
def r57_0:IC:=(.reg o57_0 [0,1])
def o57_1:List IOp:=[q (.load 3 (.t 0) 3 true),
 q (.val 4 (.faddr 1) [.t 1]),
 q (.load 5 (.t 4) 1 false),
 q (.call (some 6) 58 [.t 3,.t 5]),
 mv 7 6,
 ⟨(some (7,true)),.load 8 (.t 0) 3 true,[],none⟩,
 ⟨(some (7,true)),.val 9 (.faddr 2) [.t 1],[],none⟩,
 ⟨(some (7,true)),.load 10 (.t 9) 1 false,[],none⟩,
 ⟨(some (7,true)),.call (some 11) 58 [.t 8,.t 10],[],none⟩,
 q (.val 12 .pick [.t 7,.t 11,.k (.p (.bool false))]),
 mv 13 12,
 ⟨(some (13,true)),.val 14 (.faddr 1) [.t 1],[],none⟩,
 ⟨(some (13,true)),.load 15 (.t 14) 1 false,[],none⟩,
 ⟨(some (13,true)),.val 16 (.faddr 2) [.t 1],[],none⟩,
 ⟨(some (13,true)),.load 17 (.t 16) 1 false,[],none⟩,
 ⟨(some (13,true)),.val 18 (.bin .neq) [.t 15,.t 17],[],none⟩,
 q (.val 19 .pick [.t 13,.t 18,.k (.p (.bool false))]),
 mv 2 19]
def r57_1:IC:=(.reg o57_1 [2])
def b57:IC:=(.seq r57_0 (.seq r57_1 .ret))
def i57:IFn:=⟨2,20,b57,[.tmp 2]⟩
def o58_0:List IOp:=[q (.boxL 2 (.t 0)),
 q (.val 4 .mov [.k (.p (.bool false))])]
def r58_0:IC:=(.reg o58_0 [1,2])
def o58_1:List IOp:=[mv 5 1,
 q (.val 6 (.faddr 0) [.t 2]),
 q (.load 7 (.t 6) 1 false),
 q (.val 8 (.bin .sub) [.t 7,ki 1]),
 q (.call (some 9) 40 [.t 5,ki 0,.t 8]),
 mv 10 9,
 ⟨(some (10,true)),.val 11 (.faddr 1) [.t 2],[],none⟩,
 ⟨(some (10,true)),.load 12 (.t 11) 1 false,[],none⟩,
 ⟨(some (10,true)),.val 13 .mov [.t 1],[],none⟩,
 ⟨(some (10,true)),.val 14 (.iaddrS 1) [.t 12,.t 13],[],none⟩,
 ⟨(some (10,true)),.load 15 (.t 14) 1 false,[],none⟩,
 q (.val 16 .pick [.t 10,.t 15,.k (.p (.bool false))]),
 mv 4 16]
def r58_1:IC:=(.reg o58_1 [4])
def b58:IC:=(.seq r58_0 (.seq r58_1 .ret))
def i58:IFn:=⟨2,17,b58,[.tmp 4]⟩
def o59_0:List IOp:=[q (.val 1 .mov [.k (.p (.bool false))])]
def r59_0:IC:=(.reg o59_0 [0])
def o59_1:List IOp:=[q (.val 2 (.faddr 4) [.t 0]),
 q (.load 3 (.t 2) 1 false),
 q (.call (some 4) 40 [.t 3,ki 84,ki 1542]),
 mv 1 4]
def r59_1:IC:=(.reg o59_1 [1])
def b59:IC:=(.seq r59_0 (.seq r59_1 .ret))
def i59:IFn:=⟨1,5,b59,[.tmp 1]⟩
def o60_0:List IOp:=[q (.val 1 .mov [.k (.p (.bool false))])]
def r60_0:IC:=(.reg o60_0 [0])
def o60_1:List IOp:=[q (.val 2 (.faddr 8) [.t 0]),
 q (.load 3 (.t 2) 1 false),
 q (.call (some 4) 40 [.t 3,ki 1,ki 1099511627776]),
 mv 1 4]
def r60_1:IC:=(.reg o60_1 [1])
def b60:IC:=(.seq r60_0 (.seq r60_1 .ret))
def i60:IFn:=⟨1,5,b60,[.tmp 1]⟩
def o61_0:List IOp:=[q (.val 1 .mov [.k (.p (.bool false))])]
def r61_0:IC:=(.reg o61_0 [0])
def o61_1:List IOp:=[q (.val 2 (.faddr 3) [.t 0]),
 q (.load 3 (.t 2) 1 false)]
def r61_1:IC:=(.reg o61_1 [0,3])
def o61_2:List IOp:=[q (.val 5 (.bin .eql) [.t 3,ki 7]),
 mv 4 5]
def r61_2:IC:=(.reg o61_2 [0,3,4])
def o61_3:List IOp:=[q (.val 6 (.faddr 5) [.t 0]),
 q (.load 7 (.t 6) 1 false),
 q (.call (some 8) 40 [.t 7,ki 1,ki 240]),
 mv 9 8,
 ⟨(some (9,true)),.val 10 (.faddr 6) [.t 0],[],none⟩,
 ⟨(some (9,true)),.load 11 (.t 10) 2 true,[],none⟩,
 ⟨(some (9,true)),.val 12 (.build [.p (.int .i64 0),.p (.int .i64 0)] []) [],[],none⟩,
 ⟨(some (9,true)),.val 13 (.eqS false [true,true]) [.t 11,.t 12],[],none⟩,
 q (.val 14 .pick [.t 9,.t 13,.k (.p (.bool false))]),
 mv 1 14]
def r61_3:IC:=(.reg o61_3 [1])
def o61_4:List IOp:=[q (.val 16 (.bin .eql) [.t 3,ki 6]),
 mv 15 16]
def r61_4:IC:=(.reg o61_4 [0,15])
def o61_5:List IOp:=[q (.val 17 (.faddr 5) [.t 0]),
 q (.load 18 (.t 17) 1 false),
 q (.val 19 (.bin .eql) [.t 18,ki 0]),
 mv 20 19,
 ⟨(some (20,true)),.val 21 (.faddr 6) [.t 0],[],none⟩,
 ⟨(some (20,true)),.load 22 (.t 21) 2 true,[],none⟩,
 ⟨(some (20,true)),.call (some 23) 62 [.t 22],[],none⟩,
 ⟨(some (20,true)),.val 24 (.bin .eql) [.t 23,ki 0],[],none⟩,
 q (.val 25 .pick [.t 20,.t 24,.k (.p (.bool false))]),
 mv 26 25,
 ⟨(some (26,true)),.val 27 (.faddr 6) [.t 0],[],none⟩,
 ⟨(some (26,true)),.val 28 (.faddr 0) [.t 27],[],none⟩,
 ⟨(some (26,true)),.load 29 (.t 28) 1 false,[],none⟩,
 ⟨(some (26,true)),.val 30 (.faddr 4) [.t 0],[],none⟩,
 ⟨(some (26,true)),.load 31 (.t 30) 1 false,[],none⟩,
 ⟨(some (26,true)),.val 32 (.bin .geq) [.t 29,.t 31],[],none⟩,
 q (.val 33 .pick [.t 26,.t 32,.k (.p (.bool false))]),
 mv 1 33]
def r61_5:IC:=(.reg o61_5 [1])
def o61_6:List IOp:=[q (.val 1 .mov [.k (.p (.bool false))])]
def r61_6:IC:=(.reg o61_6 [1])
def b61:IC:=(.seq r61_0 (.seq (.seq r61_1 (.block 0 (.seq r61_2 (.cond (.t 4) (.seq r61_3 .ret) (.seq r61_4 (.cond (.t 15) (.seq r61_5 .ret) .skip)))))) (.kp [] (.seq r61_6 .ret))))
def i61:IFn:=⟨1,34,b61,[.tmp 1]⟩
def o62_0:List IOp:=[q (.boxL 1 (.t 0)),
 q (.val 2 .mov [ki 0])]
def r62_0:IC:=(.reg o62_0 [1])
def o62_1:List IOp:=[q (.val 3 (.faddr 0) [.t 1]),
 q (.load 4 (.t 3) 1 false),
 q (.call (some 5) 82 [.t 4,ki 1,ki 1048576]),
 q (.val 6 .not [.t 5]),
 mv 7 6,
 ⟨(some (7,false)),.val 8 (.faddr 1) [.t 1],[],none⟩,
 ⟨(some (7,false)),.load 9 (.t 8) 1 false,[],none⟩,
 ⟨(some (7,false)),.call (some 10) 82 [.t 9,ki 1,ki 2097152],[],none⟩,
 ⟨(some (7,false)),.val 11 .not [.t 10],[],none⟩,
 q (.val 12 .pick [.t 7,.k (.p (.bool true)),.t 11])]
def r62_1:IC:=(.reg o62_1 [12])
def o62_2:List IOp:=[q (.val 2 .mov [ki 130])]
def r62_2:IC:=(.reg o62_2 [2])
def o62_3:List IOp:=[q (.val 2 .mov [ki 0])]
def r62_3:IC:=(.reg o62_3 [2])
def b62:IC:=(.seq r62_0 (.seq (.seq r62_1 (.cond (.t 12) (.seq r62_2 .ret) .skip)) (.kp [] (.seq r62_3 .ret))))
def i62:IFn:=⟨1,13,b62,[.tmp 2]⟩
def o63_0:List IOp:=[q (.val 1 .mov [.k (.p (.bool false))])]
def r63_0:IC:=(.reg o63_0 [0])
def o63_1:List IOp:=[q (.val 2 (.faddr 9) [.t 0]),
 q (.load 3 (.t 2) 1 false),
 q (.val 4 .len [.t 3]),
 q (.call (some 5) 40 [.t 4,ki 1,ki 2]),
 mv 1 5]
def r63_1:IC:=(.reg o63_1 [1])
def b63:IC:=(.seq r63_0 (.seq r63_1 .ret))
def i63:IFn:=⟨1,6,b63,[.tmp 1]⟩
def o64_0:List IOp:=[q (.val 2 .mov [.k (.p (.bool false))])]
def r64_0:IC:=(.reg o64_0 [0,1])
def o64_1:List IOp:=[q (.val 5 (.faddr 9) [.t 0]),
 q (.load 6 (.t 5) 1 false),
 q (.val 7 .len [.t 6]),
 q (.val 8 .mov [ki 0])]
def r64_1:IC:=(.reg o64_1 [0,1,6,7,8])
def o64_2:List IOp:=[q (.val 9 (.bin .lss) [.t 8,.t 7])]
def r64_2:IC:=(.reg o64_2 [0,1,6,7,8,9])
def o64_3:List IOp:=[q (.val 10 (.iaddrS 1) [.t 6,.t 8]),
 q (.load 11 (.t 10) 1 false),
 mv 4 11]
def r64_3:IC:=(.reg o64_3 [0,1,4,6,7,8])
def o64_4:List IOp:=[q (.load 12 (.t 1) 3 true),
 mv 13 4,
 q (.val 14 (.faddr 1) [.t 0]),
 q (.load 15 (.t 14) 1 false),
 q (.val 16 (.faddr 2) [.t 0]),
 q (.load 17 (.t 16) 1 false),
 q (.call (some 18) 65 [.t 12,.t 13,.t 15,.t 17]),
 q (.val 19 .not [.t 18])]
def r64_4:IC:=(.reg o64_4 [0,1,6,7,8,19])
def o64_5:List IOp:=[q (.val 2 .mov [.k (.p (.bool false))])]
def r64_5:IC:=(.reg o64_5 [2])
def o64_6:List IOp:=[q (.val 20 (.bin .add) [.t 8,ki 1]),
 mv 8 20]
def r64_6:IC:=(.reg o64_6 [0,1,6,7,8])
def l64_1:IC:=(.seq r64_2 (.seq (.cond (.t 9) .skip (.kp [] (.exit 0))) (.kp [0,1,6,7,8] (.seq (.block 1 (.seq r64_3 (.seq r64_4 (.cond (.t 19) (.seq r64_5 .ret) .skip)))) (.kp [0,1,6,7,8] r64_6)))))
def o64_7:List IOp:=[q (.val 2 .mov [.k (.p (.bool true))])]
def r64_7:IC:=(.reg o64_7 [2])
def b64:IC:=(.seq r64_0 (.seq (.seq r64_1 (.block 0 (.loop l64_1))) (.seq r64_7 .ret)))
def i64:IFn:=⟨2,21,b64,[.tmp 2]⟩
def o65_0:List IOp:=[q (.boxL 4 (.t 0)),
 q (.val 8 .mov [.k (.p (.bool false))])]
def r65_0:IC:=(.reg o65_0 [1,2,3,4])
def o65_1:List IOp:=[q (.load 13 (.t 4) 3 true),
 mv 14 1,
 q (.call (some 15) 83 [.t 13,.t 14]),
 mv 12 15,
 q (.val 16 (.ext 0) [.t 12]),
 q (.val 17 (.ext 1) [.t 12]),
 q (.val 18 (.ext 2) [.t 12]),
 mv 9 16,
 mv 10 17,
 mv 11 18]
def r65_1:IC:=(.reg o65_1 [2,3,9,10,11])
def o65_2:List IOp:=[mv 19 11,
 q (.val 20 (.bin .eql) [.t 19,ki 0]),
 mv 21 20,
 ⟨(some (21,true)),.val 22 .mov [.t 9],[],none⟩,
 ⟨(some (21,true)),.val 23 .mov [.t 2],[],none⟩,
 ⟨(some (21,true)),.val 24 (.bin .eql) [.t 22,.t 23],[],none⟩,
 q (.val 25 .pick [.t 21,.t 24,.k (.p (.bool false))]),
 mv 26 25,
 ⟨(some (26,true)),.val 27 .mov [.t 10],[],none⟩,
 ⟨(some (26,true)),.val 28 .mov [.t 3],[],none⟩,
 ⟨(some (26,true)),.val 29 (.bin .eql) [.t 27,.t 28],[],none⟩,
 q (.val 30 .pick [.t 26,.t 29,.k (.p (.bool false))]),
 mv 8 30]
def r65_2:IC:=(.reg o65_2 [8])
def b65:IC:=(.seq r65_0 (.seq r65_1 (.seq r65_2 .ret)))
def i65:IFn:=⟨4,31,b65,[.tmp 8]⟩
def o66_0:List IOp:=[q (.val 2 .mov [.k (.p (.bool false))])]
def r66_0:IC:=(.reg o66_0 [0,1])
def o66_1:List IOp:=[q (.val 5 (.faddr 9) [.t 0]),
 q (.load 6 (.t 5) 1 false),
 q (.val 7 .len [.t 6]),
 q (.val 8 (.bin .lss) [.t 7,ki 2])]
def r66_1:IC:=(.reg o66_1 [0,1,8])
def o66_2:List IOp:=[q (.val 2 .mov [.k (.p (.bool true))])]
def r66_2:IC:=(.reg o66_2 [2])
def o66_3:List IOp:=[q (.loadH 10 (.t 1) 3 true),
 q (.val 11 (.faddr 9) [.t 0]),
 ⟨none,.loadH 12 (.t 11) 1 false,[1],none⟩,
 ⟨none,.val 13 (.iaddrS 1) [.t 12,ki 0],[1,2],none⟩,
 ⟨none,.loadH 14 (.t 13) 1 false,[1,2,3],none⟩,
 q (.val 15 (.faddr 9) [.t 0]),
 ⟨none,.loadH 16 (.t 15) 1 false,[5],none⟩,
 ⟨none,.val 17 (.iaddrS 1) [.t 16,ki 1],[5,6],none⟩,
 ⟨none,.loadH 18 (.t 17) 1 false,[5,6,7],none⟩,
 ⟨none,.call (some 19) 67 [.t 10,.t 14,.t 18],[0,1,2,3,4,5,6,7,8],none⟩,
 ⟨none,.val 9 .mov [.t 19],[0,1,2,3,4,5,6,7,8,9],none⟩,
 ⟨none,.val 20 (.ext 0) [.t 9],[0,1,2,3,4,5,6,7,8,9,10],none⟩,
 ⟨none,.val 21 (.ext 1) [.t 9],[0,1,2,3,4,5,6,7,8,9,10],none⟩,
 ⟨none,.val 3 .mov [.t 20],[0,1,2,3,4,5,6,7,8,9,10,11],none⟩,
 ⟨none,.val 4 .mov [.t 21],[0,1,2,3,4,5,6,7,8,9,10,11,12,13],none⟩]
def r66_3:IC:=(.regD o66_3 [3,4])
def o66_4:List IOp:=[mv 22 4,
 q (.val 23 (.bin .eql) [.t 22,ki 0]),
 mv 24 23,
 ⟨(some (24,true)),.val 25 .mov [.t 3],[],none⟩,
 q (.val 26 .pick [.t 24,.t 25,.k (.p (.bool false))]),
 mv 2 26]
def r66_4:IC:=(.reg o66_4 [2])
def b66:IC:=(.seq r66_0 (.seq (.seq r66_1 (.cond (.t 8) (.seq r66_2 .ret) .skip)) (.kp [0,1] (.seq r66_3 (.seq r66_4 .ret)))))
def i66:IFn:=⟨2,27,b66,[.tmp 2]⟩
def o67_0:List IOp:=[q (.boxL 3 (.t 0)),
 q (.boxH 4 (.t 1)),
 q (.boxH 5 (.t 2)),
 q (.val 6 .mov [.k (.p (.bool false))]),
 q (.val 7 .mov [ki 0])]
def r67_0:IC:=(.reg o67_0 [3,4,5])
def o67_1:List IOp:=[q (.load 8 (.t 3) 3 true),
 q (.load 9 (.t 4) 1 false),
 q (.val 10 (.mkfn 85 0) [.t 5,.t 4]),
 q (.call (some 11) 84 [.t 8,.t 9,.t 10]),
 q (.val 12 (.ext 0) [.t 11]),
 q (.val 13 (.ext 1) [.t 11]),
 mv 6 12,
 mv 7 13]
def r67_1:IC:=(.reg o67_1 [6,7])
def b67:IC:=(.seq r67_0 (.seq r67_1 .ret))
def i67:IFn:=⟨3,14,b67,[.tmp 6,.tmp 7]⟩
def o68_0:List IOp:=[q (.val 6 .mov [.k (.p (.bool false))])]
def r68_0:IC:=(.reg o68_0 [0,1,2])
def o68_1:List IOp:=[mv 7 0,
 mv 8 1,
 q (.val 9 (.bin .geq) [.t 7,.t 8]),
 mv 10 9,
 ⟨(some (10,true)),.val 11 .mov [.t 0],[],none⟩,
 ⟨(some (10,true)),.val 12 .mov [.t 2],[],none⟩,
 ⟨(some (10,true)),.val 13 (.bin .leq) [.t 11,.t 12],[],none⟩,
 q (.val 14 .pick [.t 10,.t 13,.k (.p (.bool false))]),
 mv 6 14]
def r68_1:IC:=(.reg o68_1 [6])
def b68:IC:=(.seq r68_0 (.seq r68_1 .ret))
def i68:IFn:=⟨3,15,b68,[.tmp 6]⟩
def o69_0:List IOp:=[q (.boxL 2 (.t 0)),
 q (.val 4 .mov [.k (.p (.bool false))])]
def r69_0:IC:=(.reg o69_0 [1,2])
def o69_1:List IOp:=[mv 5 1,
 q (.val 6 (.faddr 0) [.t 2]),
 q (.load 7 (.t 6) 1 false),
 q (.val 8 (.bin .sub) [.t 7,ki 1]),
 q (.call (some 9) 68 [.t 5,ki 0,.t 8]),
 mv 10 9,
 ⟨(some (10,true)),.val 11 (.faddr 1) [.t 2],[],none⟩,
 ⟨(some (10,true)),.load 12 (.t 11) 1 false,[],none⟩,
 ⟨(some (10,true)),.val 13 .mov [.t 1],[],none⟩,
 ⟨(some (10,true)),.val 14 (.iaddrS 1) [.t 12,.t 13],[],none⟩,
 ⟨(some (10,true)),.load 15 (.t 14) 1 false,[],none⟩,
 q (.val 16 .pick [.t 10,.t 15,.k (.p (.bool false))]),
 mv 4 16]
def r69_1:IC:=(.reg o69_1 [4])
def b69:IC:=(.seq r69_0 (.seq r69_1 .ret))
def i69:IFn:=⟨2,17,b69,[.tmp 4]⟩
def o70_0:List IOp:=[q (.boxL 2 (.t 0)),
 q (.val 4 .mov [.k (.p (.bool false))])]
def r70_0:IC:=(.reg o70_0 [1,2])
def o70_1:List IOp:=[mv 8 1,
 q (.val 9 .len [.t 8]),
 q (.val 10 (.bin .lss) [.t 9,ki 1]),
 mv 11 10,
 ⟨(some (11,false)),.val 12 .mov [.t 1],[],none⟩,
 ⟨(some (11,false)),.val 13 .len [.t 12],[],none⟩,
 ⟨(some (11,false)),.val 14 (.bin .gtr) [.t 13,ki 8],[],none⟩,
 q (.val 15 .pick [.t 11,.k (.p (.bool true)),.t 14])]
def r70_1:IC:=(.reg o70_1 [1,2,15])
def o70_2:List IOp:=[q (.val 4 .mov [.k (.p (.bool false))])]
def r70_2:IC:=(.reg o70_2 [4])
def o70_3:List IOp:=[q (.val 5 .mov [ki 0])]
def r70_3:IC:=(.reg o70_3 [1,2,5])
def o70_4:List IOp:=[mv 16 5,
 mv 17 1,
 q (.val 18 .len [.t 17]),
 q (.val 19 (.bin .lss) [.t 16,.t 18])]
def r70_4:IC:=(.reg o70_4 [1,2,5,19])
def o70_6:List IOp:=[q (.loadL 22 (.t 2) 3 true),
 mv 23 1,
 mv 24 5,
 ⟨none,.val 25 (.iaddrS 1) [.t 23,.t 24],[1,2],none⟩,
 ⟨none,.loadH 26 (.t 25) 1 false,[1,2,3],none⟩,
 ⟨none,.call (some 27) 89 [.t 22,.t 26],[0,1,2,3,4],none⟩,
 ⟨none,.val 28 .not [.t 27],[0,1,2,3,4,5],none⟩]
def r70_6:IC:=(.regD o70_6 [1,2,5,28])
def o70_7:List IOp:=[q (.val 4 .mov [.k (.p (.bool false))])]
def r70_7:IC:=(.reg o70_7 [4])
def o70_5:List IOp:=[mv 20 5,
 q (.val 21 (.bin .add) [.t 20,ki 1]),
 mv 5 21]
def r70_5:IC:=(.reg o70_5 [1,2,5])
def l70_1:IC:=(.seq (.seq r70_4 (.cond (.t 19) .skip (.kp [1,2] (.exit 0)))) (.kp [1,2,5] (.seq (.block 1 (.seq r70_6 (.cond (.t 28) (.seq r70_7 .ret) .skip))) (.kp [1,2,5] r70_5))))
def o70_8:List IOp:=[q (.load 29 (.t 2) 3 true),
 mv 30 1,
 q (.call (some 31) 75 [.t 29,.t 30]),
 mv 6 31]
def r70_8:IC:=(.reg o70_8 [1,2,6])
def o70_9:List IOp:=[q (.val 7 .mov [ki 0])]
def r70_9:IC:=(.reg o70_9 [1,2,6,7])
def o70_10:List IOp:=[mv 32 7,
 mv 33 6,
 q (.val 34 .len [.t 33]),
 q (.val 35 (.bin .lss) [.t 32,.t 34])]
def r70_10:IC:=(.reg o70_10 [1,2,6,7,35])
def o70_12:List IOp:=[mv 38 6,
 mv 39 7,
 ⟨none,.val 40 (.slice 1 false true false) [.t 38,.t 39],[0,1],none⟩,
 mv 41 6,
 mv 42 7,
 ⟨none,.val 43 (.iaddrS 1) [.t 41,.t 42],[3,4],none⟩,
 ⟨none,.loadH 44 (.t 43) 1 false,[3,4,5],none⟩,
 ⟨none,.call (some 45) 72 [.t 40,.t 44],[0,1,2,3,4,5,6],none⟩]
def r70_12:IC:=(.regD o70_12 [1,2,6,7,45])
def o70_13:List IOp:=[q (.val 4 .mov [.k (.p (.bool false))])]
def r70_13:IC:=(.reg o70_13 [4])
def o70_14:List IOp:=[mv 46 7,
 ⟨none,.val 47 (.bin .gtr) [.t 46,ki 0],[0],none⟩,
 ⟨none,.val 48 .mov [.t 47],[0,1],none⟩,
 ⟨(some (48,true)),.val 49 .mov [.t 7],[0,1,2],none⟩,
 ⟨(some (48,true)),.val 50 .mov [.t 1],[0,1,2],none⟩,
 ⟨(some (48,true)),.val 51 .len [.t 50],[0,1,2,4],none⟩,
 ⟨(some (48,true)),.val 52 (.bin .lss) [.t 49,.t 51],[0,1,2,3,4,5],none⟩,
 ⟨none,.val 53 .pick [.t 48,.t 52,.k (.p (.bool false))],[0,1,2,3,4,5,6],none⟩,
 ⟨none,.val 54 .mov [.t 53],[0,1,2,3,4,5,6,7],none⟩,
 ⟨(some (54,true)),.val 55 (.faddr 1) [.t 2],[0,1,2,3,4,5,6,7,8],none⟩,
 ⟨(some (54,true)),.loadL 56 (.t 55) 1 false,[0,1,2,3,4,5,6,7,8,9],none⟩,
 ⟨(some (54,true)),.val 57 .mov [.t 6],[0,1,2,3,4,5,6,7,8],none⟩,
 ⟨(some (54,true)),.val 58 .mov [.t 7],[0,1,2,3,4,5,6,7,8],none⟩,
 ⟨(some (54,true)),.val 59 (.iaddrS 1) [.t 57,.t 58],[0,1,2,3,4,5,6,7,8,11,12],none⟩,
 ⟨(some (54,true)),.loadH 60 (.t 59) 1 false,[0,1,2,3,4,5,6,7,8,11,12,13],none⟩,
 ⟨(some (54,true)),.val 61 (.iaddrS 1) [.t 56,.t 60],[0,1,2,3,4,5,6,7,8,9,10,11,12,13,14],none⟩,
 ⟨(some (54,true)),.loadH 62 (.t 61) 1 false,[0,1,2,3,4,5,6,7,8,9,10,11,12,13,14,15],none⟩,
 ⟨(some (54,true)),.val 63 .mov [.t 62],[0,1,2,3,4,5,6,7,8,9,10,11,12,13,14,15,16],none⟩,
 ⟨(some (63,false)),.loadL 64 (.t 2) 3 true,[0,1,2,3,4,5,6,7,8,9,10,11,12,13,14,15,16,17],none⟩,
 ⟨(some (63,false)),.val 65 .mov [.t 1],[0,1,2,3,4,5,6,7,8,9,10,11,12,13,14,15,16,17],none⟩,
 ⟨(some (63,false)),.val 66 .mov [.t 7],[0,1,2,3,4,5,6,7,8,9,10,11,12,13,14,15,16,17],none⟩,
 ⟨(some (63,false)),.val 67 (.iaddrS 1) [.t 65,.t 66],[0,1,2,3,4,5,6,7,8,9,10,11,12,13,14,15,16,17,19,20],none⟩,
 ⟨(some (63,false)),.loadH 68 (.t 67) 1 false,[0,1,2,3,4,5,6,7,8,9,10,11,12,13,14,15,16,17,19,20,21],none⟩,
 ⟨(some (63,false)),.callP 69 50 [.t 64,.t 68],[0,1,2,3,4,5,6,7,8,9,10,11,12,13,14,15,16,17,18,19,20,21,22],none⟩,
 ⟨(some (63,false)),.val 70 .mov [.t 6],[0,1,2,3,4,5,6,7,8,9,10,11,12,13,14,15,16,17],none⟩,
 ⟨(some (63,false)),.val 71 .mov [.t 7],[0,1,2,3,4,5,6,7,8,9,10,11,12,13,14,15,16,17],none⟩,
 ⟨(some (63,false)),.val 72 (.iaddrS 1) [.t 70,.t 71],[0,1,2,3,4,5,6,7,8,9,10,11,12,13,14,15,16,17,24,25],none⟩,
 ⟨(some (63,false)),.loadH 73 (.t 72) 1 false,[0,1,2,3,4,5,6,7,8,9,10,11,12,13,14,15,16,17,24,25,26],none⟩,
 ⟨(some (63,false)),.val 74 (.bin .neq) [.t 69,.t 73],[0,1,2,3,4,5,6,7,8,9,10,11,12,13,14,15,16,17,18,19,20,21,22,23,24,25,26,27],none⟩,
 ⟨(some (54,true)),.val 75 .pick [.t 63,.k (.p (.bool true)),.t 74],[0,1,2,3,4,5,6,7,8,9,10,11,12,13,14,15,16,17,18,19,20,21,22,23,24,25,26,27,28],none⟩,
 ⟨none,.val 76 .pick [.t 54,.t 75,.k (.p (.bool false))],[0,1,2,3,4,5,6,7,8,9,10,11,12,13,14,15,16,17,18,19,20,21,22,23,24,25,26,27,28,29],none⟩]
def r70_14:IC:=(.regD o70_14 [1,2,6,7,76])
def o70_15:List IOp:=[q (.val 4 .mov [.k (.p (.bool false))])]
def r70_15:IC:=(.reg o70_15 [4])
def o70_11:List IOp:=[mv 36 7,
 q (.val 37 (.bin .add) [.t 36,ki 1]),
 mv 7 37]
def r70_11:IC:=(.reg o70_11 [1,2,6,7])
def l70_2:IC:=(.seq (.seq r70_10 (.cond (.t 35) .skip (.kp [] (.exit 2)))) (.kp [1,2,6,7] (.seq (.block 3 (.seq (.seq r70_12 (.cond (.t 45) (.seq r70_13 .ret) .skip)) (.kp [1,2,6,7] (.seq r70_14 (.cond (.t 76) (.seq r70_15 .ret) .skip))))) (.kp [1,2,6,7] r70_11))))
def o70_16:List IOp:=[q (.val 4 .mov [.k (.p (.bool true))])]
def r70_16:IC:=(.reg o70_16 [4])
def b70:IC:=(.seq r70_0 (.seq (.seq r70_1 (.cond (.t 15) (.seq r70_2 .ret) .skip)) (.kp [1,2] (.seq (.seq r70_3 (.block 0 (.loop l70_1))) (.seq r70_8 (.seq (.seq r70_9 (.block 2 (.loop l70_2))) (.seq r70_16 .ret)))))))
def i70:IFn:=⟨2,77,b70,[.tmp 4]⟩
def o71_0:List IOp:=[q (.boxL 2 (.t 0)),
 q (.val 4 .mov [.k (.p (.bool false))])]
def r71_0:IC:=(.reg o71_0 [1,2])
def o71_1:List IOp:=[mv 5 1,
 q (.val 6 (.bin .geq) [.t 5,ki 0]),
 mv 7 6,
 ⟨(some (7,true)),.val 8 .mov [.t 1],[],none⟩,
 ⟨(some (7,true)),.val 9 (.faddr 0) [.t 2],[],none⟩,
 ⟨(some (7,true)),.load 10 (.t 9) 1 false,[],none⟩,
 ⟨(some (7,true)),.val 11 (.bin .lss) [.t 8,.t 10],[],none⟩,
 q (.val 12 .pick [.t 7,.t 11,.k (.p (.bool false))]),
 mv 4 12]
def r71_1:IC:=(.reg o71_1 [4])
def b71:IC:=(.seq r71_0 (.seq r71_1 .ret))
def i71:IFn:=⟨2,13,b71,[.tmp 4]⟩
def o72_0:List IOp:=[q (.val 4 .mov [.k (.p (.bool false))])]
def r72_0:IC:=(.reg o72_0 [0,1])
def o72_1:List IOp:=[q (.val 5 .mov [ki 0])]
def r72_1:IC:=(.reg o72_1 [0,1,5])
def o72_2:List IOp:=[mv 6 5,
 mv 7 0,
 q (.val 8 .len [.t 7]),
 q (.val 9 (.bin .lss) [.t 6,.t 8])]
def r72_2:IC:=(.reg o72_2 [0,1,5,9])
def o72_4:List IOp:=[mv 12 0,
 mv 13 5,
 q (.val 14 (.iaddrS 1) [.t 12,.t 13]),
 q (.load 15 (.t 14) 1 false),
 mv 16 1,
 q (.val 17 (.bin .eql) [.t 15,.t 16])]
def r72_4:IC:=(.reg o72_4 [0,1,5,17])
def o72_5:List IOp:=[q (.val 4 .mov [.k (.p (.bool true))])]
def r72_5:IC:=(.reg o72_5 [4])
def o72_3:List IOp:=[mv 10 5,
 q (.val 11 (.bin .add) [.t 10,ki 1]),
 mv 5 11]
def r72_3:IC:=(.reg o72_3 [0,1,5])
def l72_1:IC:=(.seq (.seq r72_2 (.cond (.t 9) .skip (.kp [] (.exit 0)))) (.kp [0,1,5] (.seq (.block 1 (.seq r72_4 (.cond (.t 17) (.seq r72_5 .ret) .skip))) (.kp [0,1,5] r72_3))))
def o72_6:List IOp:=[q (.val 4 .mov [.k (.p (.bool false))])]
def r72_6:IC:=(.reg o72_6 [4])
def b72:IC:=(.seq r72_0 (.seq (.seq r72_1 (.block 0 (.loop l72_1))) (.seq r72_6 .ret)))
def i72:IFn:=⟨2,18,b72,[.tmp 4]⟩
def o73_0:List IOp:=[q (.boxL 3 (.t 0)),
 q (.val 6 .mov [.k (.p (.sl 1 true []))])]
def r73_0:IC:=(.reg o73_0 [1,2,3])
def o73_1:List IOp:=[mv 14 1,
 q (.val 15 (.conv .i64) [.t 14]),
 q (.val 16 (.faddr 0) [.t 3]),
 q (.load 17 (.t 16) 1 false),
 q (.val 18 (.bin .rem) [.t 15,.t 17]),
 mv 7 18]
def r73_1:IC:=(.reg o73_1 [2,3,7])
def o73_2:List IOp:=[mv 19 7,
 q (.litSl 20 1 [.t 19]),
 mv 8 20]
def r73_2:IC:=(.reg o73_2 [2,3,7,8])
def o73_3:List IOp:=[q (.val 9 .mov [.k (.p (.sl 1 true []))])]
def r73_3:IC:=(.reg o73_3 [2,3,7,8,9])
def o73_4:List IOp:=[mv 21 9,
 q (.val 22 .len [.t 21]),
 q (.val 23 (.bin .lss) [.t 22,ki 8]),
 mv 24 23,
 ⟨(some (24,true)),.val 25 .mov [.t 9],[],none⟩,
 ⟨(some (24,true)),.val 26 .len [.t 25],[],none⟩,
 ⟨(some (24,true)),.val 27 (.bin .eql) [.t 26,ki 0],[],none⟩,
 ⟨(some (24,true)),.val 28 .mov [.t 27],[],none⟩,
 ⟨(some (28,false)),.val 29 (.faddr 1) [.t 3],[],none⟩,
 ⟨(some (28,false)),.load 30 (.t 29) 1 false,[],none⟩,
 ⟨(some (28,false)),.val 31 .mov [.t 7],[],none⟩,
 ⟨(some (28,false)),.val 32 (.iaddrS 1) [.t 30,.t 31],[],none⟩,
 ⟨(some (28,false)),.load 33 (.t 32) 1 false,[],none⟩,
 ⟨(some (28,false)),.val 34 .not [.t 33],[],none⟩,
 ⟨(some (24,true)),.val 35 .pick [.t 28,.k (.p (.bool true)),.t 34],[],none⟩,
 q (.val 36 .pick [.t 24,.t 35,.k (.p (.bool false))])]
def r73_4:IC:=(.reg o73_4 [2,3,7,8,9,36])
def o73_5:List IOp:=[q (.val 10 .mov [.k (.p (.sl 1 true []))])]
def r73_5:IC:=(.reg o73_5 [2,3,7,8,9,10])
def o73_6:List IOp:=[q (.load 37 (.t 3) 3 true),
 mv 38 7,
 q (.call (some 39) 90 [.t 37,.t 38]),
 mv 11 39]
def r73_6:IC:=(.reg o73_6 [2,3,8,9,10,11])
def o73_7:List IOp:=[q (.val 12 .mov [ki 0])]
def r73_7:IC:=(.reg o73_7 [2,3,8,9,10,11,12])
def o73_8:List IOp:=[mv 40 12,
 mv 41 11,
 q (.val 42 .len [.t 41]),
 q (.val 43 (.bin .lss) [.t 40,.t 42])]
def r73_8:IC:=(.reg o73_8 [2,3,8,9,10,11,12,43])
def o73_10:List IOp:=[mv 46 8,
 q (.loadL 47 (.t 3) 3 true),
 mv 48 11,
 mv 49 12,
 ⟨none,.val 50 (.iaddrS 1) [.t 48,.t 49],[2,3],none⟩,
 ⟨none,.loadH 51 (.t 50) 1 false,[2,3,4],none⟩,
 ⟨none,.callP 52 51 [.t 47,.t 51],[1,2,3,4,5],none⟩,
 ⟨none,.call (some 53) 72 [.t 46,.t 52],[0,1,2,3,4,5,6],none⟩,
 ⟨none,.val 54 .not [.t 53],[0,1,2,3,4,5,6,7],none⟩]
def r73_10:IC:=(.regD o73_10 [2,3,8,9,10,11,12,54])
def o73_11:List IOp:=[mv 55 10,
 mv 56 11,
 mv 57 12,
 q (.val 58 (.iaddrS 1) [.t 56,.t 57]),
 q (.load 59 (.t 58) 1 false),
 q (.litP 60 1 [.t 59]),
 q (.app 61 (.t 55) (.t 60) 1 8),
 mv 10 61]
def r73_11:IC:=(.reg o73_11 [2,3,8,9,10,11,12])
def o73_9:List IOp:=[mv 44 12,
 q (.val 45 (.bin .add) [.t 44,ki 1]),
 mv 12 45]
def r73_9:IC:=(.reg o73_9 [2,3,8,9,10,11,12])
def l73_2:IC:=(.seq (.seq r73_8 (.cond (.t 43) .skip (.kp [2,3,8,9,10] (.exit 2)))) (.kp [2,3,8,9,10,11,12] (.seq (.block 3 (.seq r73_10 (.cond (.t 54) r73_11 .skip))) (.kp [2,3,8,9,10,11,12] r73_9))))
def o73_12:List IOp:=[mv 62 10,
 q (.val 63 .len [.t 62]),
 q (.val 64 (.bin .eql) [.t 63,ki 0])]
def r73_12:IC:=(.reg o73_12 [2,3,8,9,10,64])
def o73_13:List IOp:=[mv 65 9,
 mv 6 65]
def r73_13:IC:=(.reg o73_13 [6])
def o73_14:List IOp:=[mv 66 10,
 mv 67 2,
 q (.val 68 (.conv .i64) [.t 67]),
 mv 69 9,
 q (.val 70 .len [.t 69]),
 q (.val 71 (.bin .mul) [ki 3,.t 70]),
 q (.val 72 (.bin .add) [.t 68,.t 71]),
 mv 73 10,
 q (.val 74 .len [.t 73]),
 q (.val 75 (.bin .rem) [.t 72,.t 74]),
 q (.val 76 (.iaddrS 1) [.t 66,.t 75]),
 q (.load 77 (.t 76) 1 false),
 mv 13 77]
def r73_14:IC:=(.reg o73_14 [2,3,8,9,13])
def o73_15:List IOp:=[mv 78 9,
 mv 79 13,
 q (.litP 80 1 [.t 79]),
 q (.app 81 (.t 78) (.t 80) 1 8),
 mv 9 81]
def r73_15:IC:=(.reg o73_15 [2,3,8,9,13])
def o73_16:List IOp:=[q (.load 82 (.t 3) 3 true),
 mv 83 13,
 q (.call (some 84) 51 [.t 82,.t 83]),
 mv 7 84]
def r73_16:IC:=(.reg o73_16 [2,3,7,8,9])
def o73_17:List IOp:=[mv 85 8,
 mv 86 7,
 q (.litP 87 1 [.t 86]),
 q (.app 88 (.t 85) (.t 87) 1 8),
 mv 8 88]
def r73_17:IC:=(.reg o73_17 [2,3,7,8,9])
def l73_1:IC:=(.seq (.seq r73_4 (.cond (.t 36) .skip (.kp [9] (.exit 0)))) (.kp [2,3,7,8,9] (.block 1 (.seq r73_5 (.seq r73_6 (.seq (.seq r73_7 (.block 2 (.loop l73_2))) (.seq (.seq r73_12 (.cond (.t 64) (.seq r73_13 .ret) .skip)) (.kp [2,3,8,9,10] (.seq r73_14 (.seq r73_15 (.seq r73_16 r73_17)))))))))))
def o73_18:List IOp:=[mv 89 9,
 mv 6 89]
def r73_18:IC:=(.reg o73_18 [6])
def b73:IC:=(.seq r73_0 (.seq r73_1 (.seq r73_2 (.seq r73_3 (.seq (.block 0 (.loop l73_1)) (.seq r73_18 .ret))))))
def i73:IFn:=⟨3,90,b73,[.tmp 6]⟩
def o74_0:List IOp:=[q (.val 4 .mov [.k (.p (.bool false))])]
def r74_0:IC:=(.reg o74_0 [0,1])
def o74_1:List IOp:=[q (.val 5 .mov [ki 1])]
def r74_1:IC:=(.reg o74_1 [0,1,5])
def o74_2:List IOp:=[mv 6 5,
 mv 7 0,
 q (.val 8 .len [.t 7]),
 q (.val 9 (.bin .sub) [.t 8,ki 1]),
 q (.val 10 (.bin .lss) [.t 6,.t 9])]
def r74_2:IC:=(.reg o74_2 [0,1,5,10])
def o74_4:List IOp:=[mv 13 1,
 mv 14 0,
 mv 15 5,
 q (.val 16 (.iaddrS 1) [.t 14,.t 15]),
 q (.load 17 (.t 16) 1 false),
 q (.call (some 18) 72 [.t 13,.t 17])]
def r74_4:IC:=(.reg o74_4 [0,1,5,18])
def o74_5:List IOp:=[q (.val 4 .mov [.k (.p (.bool true))])]
def r74_5:IC:=(.reg o74_5 [4])
def o74_3:List IOp:=[mv 11 5,
 q (.val 12 (.bin .add) [.t 11,ki 1]),
 mv 5 12]
def r74_3:IC:=(.reg o74_3 [0,1,5])
def l74_1:IC:=(.seq (.seq r74_2 (.cond (.t 10) .skip (.kp [] (.exit 0)))) (.kp [0,1,5] (.seq (.block 1 (.seq r74_4 (.cond (.t 18) (.seq r74_5 .ret) .skip))) (.kp [0,1,5] r74_3))))
def o74_6:List IOp:=[q (.val 4 .mov [.k (.p (.bool false))])]
def r74_6:IC:=(.reg o74_6 [4])
def b74:IC:=(.seq r74_0 (.seq (.seq r74_1 (.block 0 (.loop l74_1))) (.seq r74_6 .ret)))
def i74:IFn:=⟨2,19,b74,[.tmp 4]⟩
def o75_0:List IOp:=[q (.boxL 2 (.t 0)),
 q (.val 4 .mov [.k (.p (.sl 1 true []))])]
def r75_0:IC:=(.reg o75_0 [1,2])
def o75_1:List IOp:=[q (.loadL 7 (.t 2) 3 true),
 mv 8 1,
 ⟨none,.val 9 (.iaddrS 1) [.t 8,ki 0],[1],none⟩,
 ⟨none,.loadH 10 (.t 9) 1 false,[1,2],none⟩,
 ⟨none,.call (some 11) 50 [.t 7,.t 10],[0,1,2,3],none⟩,
 ⟨none,.litSl 12 1 [.t 11],[0,1,2,3,4],none⟩,
 ⟨none,.val 5 .mov [.t 12],[0,1,2,3,4,5],none⟩]
def r75_1:IC:=(.regD o75_1 [1,2,5])
def o75_2:List IOp:=[q (.val 6 .mov [ki 0])]
def r75_2:IC:=(.reg o75_2 [1,2,5,6])
def o75_3:List IOp:=[mv 13 6,
 mv 14 1,
 q (.val 15 .len [.t 14]),
 q (.val 16 (.bin .lss) [.t 13,.t 15])]
def r75_3:IC:=(.reg o75_3 [1,2,5,6,16])
def o75_5:List IOp:=[mv 19 5,
 q (.loadL 20 (.t 2) 3 true),
 mv 21 1,
 mv 22 6,
 ⟨none,.val 23 (.iaddrS 1) [.t 21,.t 22],[2,3],none⟩,
 ⟨none,.loadH 24 (.t 23) 1 false,[2,3,4],none⟩,
 ⟨none,.callP 25 51 [.t 20,.t 24],[1,2,3,4,5],none⟩,
 ⟨none,.litP 26 1 [.t 25],[1,2,3,4,5,6],none⟩,
 ⟨none,.app 27 (.t 19) (.t 26) 1 8,[0,1,2,3,4,5,6,7],none⟩,
 ⟨none,.val 5 .mov [.t 27],[0,1,2,3,4,5,6,7,8],none⟩]
def r75_5:IC:=(.regD o75_5 [1,2,5,6])
def o75_4:List IOp:=[mv 17 6,
 q (.val 18 (.bin .add) [.t 17,ki 1]),
 mv 6 18]
def r75_4:IC:=(.reg o75_4 [1,2,5,6])
def l75_1:IC:=(.seq (.seq r75_3 (.cond (.t 16) .skip (.kp [5] (.exit 0)))) (.kp [1,2,5,6] (.seq (.block 1 r75_5) r75_4)))
def o75_6:List IOp:=[mv 28 5,
 mv 4 28]
def r75_6:IC:=(.reg o75_6 [4])
def b75:IC:=(.seq r75_0 (.seq r75_1 (.seq (.seq r75_2 (.block 0 (.loop l75_1))) (.seq r75_6 .ret))))
def i75:IFn:=⟨2,29,b75,[.tmp 4]⟩
def o76_0:List IOp:=[q (.val 3 .mov [.k (.p (.bool false))])]
def r76_0:IC:=(.reg o76_0 [0,1])
def o76_1:List IOp:=[q (.val 5 (.faddr 2) [.t 1]),
 q (.load 6 (.t 5) 1 false),
 mv 7 0,
 q (.val 8 (.iaddrS 4) [.t 6,.t 7]),
 q (.load 9 (.t 8) 4 true),
 q (.newL 4 [.p (.int .i64 0),.p (.int .i64 0),.p (.int .i64 0),.p (.int .i64 0)]),
 q (.store (.t 4) (.t 9) 4)]
def r76_1:IC:=(.reg o76_1 [1,4])
def o76_2:List IOp:=[q (.load 10 (.t 1) 3 true),
 q (.val 11 (.faddr 0) [.t 4]),
 q (.load 12 (.t 11) 1 false),
 q (.call (some 13) 77 [.t 10,.t 12]),
 mv 14 13,
 ⟨(some (14,true)),.load 15 (.t 1) 3 true,[],none⟩,
 ⟨(some (14,true)),.val 16 (.faddr 1) [.t 4],[],none⟩,
 ⟨(some (14,true)),.load 17 (.t 16) 1 false,[],none⟩,
 ⟨(some (14,true)),.call (some 18) 77 [.t 15,.t 17],[],none⟩,
 q (.val 19 .pick [.t 14,.t 18,.k (.p (.bool false))]),
 mv 20 19,
 ⟨(some (20,true)),.val 21 (.faddr 0) [.t 4],[],none⟩,
 ⟨(some (20,true)),.load 22 (.t 21) 1 false,[],none⟩,
 ⟨(some (20,true)),.val 23 (.faddr 1) [.t 4],[],none⟩,
 ⟨(some (20,true)),.load 24 (.t 23) 1 false,[],none⟩,
 ⟨(some (20,true)),.val 25 (.bin .neq) [.t 22,.t 24],[],none⟩,
 q (.val 26 .pick [.t 20,.t 25,.k (.p (.bool false))]),
 mv 3 26]
def r76_2:IC:=(.reg o76_2 [3])
def b76:IC:=(.seq r76_0 (.seq r76_1 (.seq r76_2 .ret)))
def i76:IFn:=⟨2,27,b76,[.tmp 3]⟩
def o77_0:List IOp:=[q (.boxL 2 (.t 0)),
 q (.val 4 .mov [.k (.p (.bool false))])]
def r77_0:IC:=(.reg o77_0 [1,2])
def o77_1:List IOp:=[mv 5 1,
 q (.val 6 (.bin .geq) [.t 5,ki 0]),
 mv 7 6,
 ⟨(some (7,true)),.val 8 .mov [.t 1],[],none⟩,
 ⟨(some (7,true)),.val 9 (.faddr 0) [.t 2],[],none⟩,
 ⟨(some (7,true)),.load 10 (.t 9) 1 false,[],none⟩,
 ⟨(some (7,true)),.val 11 (.bin .lss) [.t 8,.t 10],[],none⟩,
 q (.val 12 .pick [.t 7,.t 11,.k (.p (.bool false))]),
 mv 4 12]
def r77_1:IC:=(.reg o77_1 [4])
def b77:IC:=(.seq r77_0 (.seq r77_1 .ret))
def i77:IFn:=⟨2,13,b77,[.tmp 4]⟩
def o78_0:List IOp:=[q (.val 3 .mov [.k (.p (.bool false))])]
def r78_0:IC:=(.reg o78_0 [0,1])
def o78_1:List IOp:=[q (.val 5 (.faddr 2) [.t 1]),
 q (.load 6 (.t 5) 1 false),
 mv 7 0,
 q (.val 8 (.iaddrS 4) [.t 6,.t 7]),
 q (.load 9 (.t 8) 4 true),
 q (.newL 4 [.p (.int .i64 0),.p (.int .i64 0),.p (.int .i64 0),.p (.int .i64 0)]),
 q (.store (.t 4) (.t 9) 4)]
def r78_1:IC:=(.reg o78_1 [1,4])
def o78_2:List IOp:=[q (.val 10 (.faddr 1) [.t 1]),
 q (.load 11 (.t 10) 1 false),
 q (.val 12 (.faddr 0) [.t 4]),
 q (.load 13 (.t 12) 1 false),
 q (.val 14 (.iaddrS 1) [.t 11,.t 13]),
 q (.load 15 (.t 14) 1 false),
 q (.val 16 .not [.t 15]),
 mv 17 16,
 ⟨(some (17,false)),.val 18 (.faddr 1) [.t 1],[],none⟩,
 ⟨(some (17,false)),.load 19 (.t 18) 1 false,[],none⟩,
 ⟨(some (17,false)),.val 20 (.faddr 1) [.t 4],[],none⟩,
 ⟨(some (17,false)),.load 21 (.t 20) 1 false,[],none⟩,
 ⟨(some (17,false)),.val 22 (.iaddrS 1) [.t 19,.t 21],[],none⟩,
 ⟨(some (17,false)),.load 23 (.t 22) 1 false,[],none⟩,
 ⟨(some (17,false)),.val 24 .not [.t 23],[],none⟩,
 q (.val 25 .pick [.t 17,.k (.p (.bool true)),.t 24]),
 mv 3 25]
def r78_2:IC:=(.reg o78_2 [3])
def b78:IC:=(.seq r78_0 (.seq r78_1 (.seq r78_2 .ret)))
def i78:IFn:=⟨2,26,b78,[.tmp 3]⟩
def o79_0:List IOp:=[q (.val 3 .mov [.k (.p (.bool false))])]
def r79_0:IC:=(.reg o79_0 [0,1])
def o79_1:List IOp:=[q (.val 7 (.faddr 2) [.t 1]),
 q (.load 8 (.t 7) 1 false),
 mv 9 0,
 q (.val 10 (.iaddrS 4) [.t 8,.t 9]),
 q (.load 11 (.t 10) 4 true),
 q (.newL 4 [.p (.int .i64 0),.p (.int .i64 0),.p (.int .i64 0),.p (.int .i64 0)]),
 q (.store (.t 4) (.t 11) 4)]
def r79_1:IC:=(.reg o79_1 [0,1,4])
def o79_2:List IOp:=[q (.val 12 (.faddr 2) [.t 1]),
 q (.load 13 (.t 12) 1 false),
 mv 14 0,
 q (.val 15 (.slice 4 false true false) [.t 13,.t 14]),
 q (.val 16 .len [.t 15]),
 q (.val 17 .mov [ki 0])]
def r79_2:IC:=(.reg o79_2 [4,15,16,17])
def o79_3:List IOp:=[q (.val 18 (.bin .lss) [.t 17,.t 16])]
def r79_3:IC:=(.reg o79_3 [4,15,16,17,18])
def o79_4:List IOp:=[q (.val 19 (.iaddrS 4) [.t 15,.t 17]),
 q (.load 20 (.t 19) 4 true),
 q (.newL 6 [.p (.int .i64 0),.p (.int .i64 0),.p (.int .i64 0),.p (.int .i64 0)]),
 q (.store (.t 6) (.t 20) 4)]
def r79_4:IC:=(.reg o79_4 [4,6,15,16,17])
def o79_5:List IOp:=[q (.val 21 (.faddr 0) [.t 4]),
 q (.load 22 (.t 21) 1 false),
 q (.val 23 (.faddr 0) [.t 6]),
 q (.load 24 (.t 23) 1 false),
 q (.val 25 (.bin .eql) [.t 22,.t 24]),
 mv 26 25,
 ⟨(some (26,true)),.val 27 (.faddr 1) [.t 4],[],none⟩,
 ⟨(some (26,true)),.load 28 (.t 27) 1 false,[],none⟩,
 ⟨(some (26,true)),.val 29 (.faddr 1) [.t 6],[],none⟩,
 ⟨(some (26,true)),.load 30 (.t 29) 1 false,[],none⟩,
 ⟨(some (26,true)),.val 31 (.bin .eql) [.t 28,.t 30],[],none⟩,
 q (.val 32 .pick [.t 26,.t 31,.k (.p (.bool false))]),
 mv 33 32,
 ⟨(some (33,false)),.val 34 (.faddr 0) [.t 4],[],none⟩,
 ⟨(some (33,false)),.load 35 (.t 34) 1 false,[],none⟩,
 ⟨(some (33,false)),.val 36 (.faddr 1) [.t 6],[],none⟩,
 ⟨(some (33,false)),.load 37 (.t 36) 1 false,[],none⟩,
 ⟨(some (33,false)),.val 38 (.bin .eql) [.t 35,.t 37],[],none⟩,
 ⟨(some (33,false)),.val 39 .mov [.t 38],[],none⟩,
 ⟨(some (39,true)),.val 40 (.faddr 1) [.t 4],[],none⟩,
 ⟨(some (39,true)),.load 41 (.t 40) 1 false,[],none⟩,
 ⟨(some (39,true)),.val 42 (.faddr 0) [.t 6],[],none⟩,
 ⟨(some (39,true)),.load 43 (.t 42) 1 false,[],none⟩,
 ⟨(some (39,true)),.val 44 (.bin .eql) [.t 41,.t 43],[],none⟩,
 ⟨(some (33,false)),.val 45 .pick [.t 39,.t 44,.k (.p (.bool false))],[],none⟩,
 q (.val 46 .pick [.t 33,.k (.p (.bool true)),.t 45])]
def r79_5:IC:=(.reg o79_5 [4,15,16,17,46])
def o79_6:List IOp:=[q (.val 3 .mov [.k (.p (.bool false))])]
def r79_6:IC:=(.reg o79_6 [3])
def o79_7:List IOp:=[q (.val 47 (.bin .add) [.t 17,ki 1]),
 mv 17 47]
def r79_7:IC:=(.reg o79_7 [4,15,16,17])
def l79_1:IC:=(.seq r79_3 (.seq (.cond (.t 18) .skip (.kp [] (.exit 0))) (.kp [4,15,16,17] (.seq (.block 1 (.seq r79_4 (.seq r79_5 (.cond (.t 46) (.seq r79_6 .ret) .skip)))) (.kp [4,15,16,17] r79_7)))))
def o79_8:List IOp:=[q (.val 3 .mov [.k (.p (.bool true))])]
def r79_8:IC:=(.reg o79_8 [3])
def b79:IC:=(.seq r79_0 (.seq r79_1 (.seq (.seq r79_2 (.block 0 (.loop l79_1))) (.seq r79_8 .ret))))
def i79:IFn:=⟨2,48,b79,[.tmp 3]⟩
def o80_0:List IOp:=[q (.val 3 .mov [.k (.p (.bool false))])]
def r80_0:IC:=(.reg o80_0 [0,1])
def o80_1:List IOp:=[q (.val 5 (.faddr 2) [.t 1]),
 q (.load 6 (.t 5) 1 false),
 mv 7 0,
 q (.val 8 (.iaddrS 4) [.t 6,.t 7]),
 q (.load 9 (.t 8) 4 true),
 q (.newL 4 [.p (.int .i64 0),.p (.int .i64 0),.p (.int .i64 0),.p (.int .i64 0)]),
 q (.store (.t 4) (.t 9) 4)]
def r80_1:IC:=(.reg o80_1 [4])
def o80_2:List IOp:=[q (.val 10 (.faddr 2) [.t 4]),
 q (.load 11 (.t 10) 1 false),
 q (.val 12 (.bin .geq) [.t 11,ki 1]),
 mv 13 12,
 ⟨(some (13,true)),.val 14 (.faddr 2) [.t 4],[],none⟩,
 ⟨(some (13,true)),.load 15 (.t 14) 1 false,[],none⟩,
 ⟨(some (13,true)),.val 16 (.bin .leq) [.t 15,ki 1000],[],none⟩,
 q (.val 17 .pick [.t 13,.t 16,.k (.p (.bool false))]),
 mv 18 17,
 ⟨(some (18,true)),.val 19 (.faddr 3) [.t 4],[],none⟩,
 ⟨(some (18,true)),.load 20 (.t 19) 1 false,[],none⟩,
 ⟨(some (18,true)),.val 21 (.bin .geq) [.t 20,ki 0],[],none⟩,
 q (.val 22 .pick [.t 18,.t 21,.k (.p (.bool false))]),
 mv 23 22,
 ⟨(some (23,true)),.val 24 (.faddr 3) [.t 4],[],none⟩,
 ⟨(some (23,true)),.load 25 (.t 24) 1 false,[],none⟩,
 ⟨(some (23,true)),.val 26 (.bin .leq) [.t 25,ki 10000],[],none⟩,
 q (.val 27 .pick [.t 23,.t 26,.k (.p (.bool false))]),
 mv 3 27]
def r80_2:IC:=(.reg o80_2 [3])
def b80:IC:=(.seq r80_0 (.seq r80_1 (.seq r80_2 .ret)))
def i80:IFn:=⟨2,28,b80,[.tmp 3]⟩
def o81_0:List IOp:=[q (.val 4 .mov [ki 0])]
def r81_0:IC:=(.reg o81_0 [0,1])
def o81_1:List IOp:=[mv 6 0,
 q (.val 7 .len [.t 6]),
 q (.val 8 .mov [ki 0])]
def r81_1:IC:=(.reg o81_1 [0,1,7,8])
def o81_2:List IOp:=[q (.val 9 (.bin .lss) [.t 8,.t 7])]
def r81_2:IC:=(.reg o81_2 [0,1,7,8,9])
def o81_3:List IOp:=[mv 10 8,
 mv 5 10]
def r81_3:IC:=(.reg o81_3 [0,1,5,7,8])
def o81_4:List IOp:=[mv 11 1,
 mv 12 0,
 mv 13 5,
 q (.val 14 (.iaddrS 1) [.t 12,.t 13]),
 q (.load 15 (.t 14) 1 false),
 q (.val 16 (.eqB false) [.t 11,.t 15])]
def r81_4:IC:=(.reg o81_4 [0,1,5,7,8,16])
def o81_5:List IOp:=[mv 17 5,
 mv 4 17]
def r81_5:IC:=(.reg o81_5 [4])
def o81_6:List IOp:=[q (.val 18 (.bin .add) [.t 8,ki 1]),
 mv 8 18]
def r81_6:IC:=(.reg o81_6 [0,1,7,8])
def l81_1:IC:=(.seq r81_2 (.seq (.cond (.t 9) .skip (.kp [] (.exit 0))) (.kp [0,1,7,8] (.seq (.block 1 (.seq r81_3 (.seq r81_4 (.cond (.t 16) (.seq r81_5 .ret) .skip)))) (.kp [0,1,7,8] r81_6)))))
def o81_7:List IOp:=[q (.val 4 .mov [ki (-1)])]
def r81_7:IC:=(.reg o81_7 [4])
def b81:IC:=(.seq r81_0 (.seq (.seq r81_1 (.block 0 (.loop l81_1))) (.seq r81_7 .ret)))
def i81:IFn:=⟨2,19,b81,[.tmp 4]⟩
def o82_0:List IOp:=[q (.val 6 .mov [.k (.p (.bool false))])]
def r82_0:IC:=(.reg o82_0 [0,1,2])
def o82_1:List IOp:=[mv 7 1,
 mv 8 0,
 q (.val 9 (.bin .leq) [.t 7,.t 8]),
 mv 10 9,
 ⟨(some (10,true)),.val 11 .mov [.t 0],[],none⟩,
 ⟨(some (10,true)),.val 12 .mov [.t 2],[],none⟩,
 ⟨(some (10,true)),.val 13 (.bin .leq) [.t 11,.t 12],[],none⟩,
 q (.val 14 .pick [.t 10,.t 13,.k (.p (.bool false))]),
 mv 6 14]
def r82_1:IC:=(.reg o82_1 [6])
def b82:IC:=(.seq r82_0 (.seq r82_1 .ret))
def i82:IFn:=⟨3,15,b82,[.tmp 6]⟩
def o83_0:List IOp:=[q (.boxL 2 (.t 0)),
 q (.val 4 .mov [ki 0]),
 q (.val 5 .mov [ki 0]),
 q (.val 6 .mov [ki 0])]
def r83_0:IC:=(.reg o83_0 [1,2])
def o83_1:List IOp:=[q (.load 9 (.t 2) 3 true),
 mv 10 1,
 q (.call (some 11) 91 [.t 9,.t 10]),
 mv 8 11,
 q (.val 12 (.ext 0) [.t 8]),
 q (.val 13 (.ext 1) [.t 8]),
 mv 7 12,
 mv 6 13]
def r83_1:IC:=(.reg o83_1 [6,7])
def o83_2:List IOp:=[mv 14 6,
 q (.val 15 (.bin .neq) [.t 14,ki 0])]
def r83_2:IC:=(.reg o83_2 [6,7,15])
def o83_3:List IOp:=[mv 16 6,
 q (.val 4 .mov [ki 0]),
 q (.val 5 .mov [ki 0]),
 mv 6 16]
def r83_3:IC:=(.reg o83_3 [4,5,6])
def o83_4:List IOp:=[mv 17 7,
 ⟨none,.val 18 (.iaddrS 1) [.t 17,ki 0],[0],none⟩,
 ⟨none,.loadH 19 (.t 18) 1 false,[0,1],none⟩,
 mv 20 7,
 mv 21 7,
 ⟨none,.val 22 .len [.t 21],[4],none⟩,
 ⟨none,.val 23 (.bin .sub) [.t 22,ki 1],[4,5],none⟩,
 ⟨none,.val 24 (.iaddrS 1) [.t 20,.t 23],[3,4,5,6],none⟩,
 ⟨none,.loadH 25 (.t 24) 1 false,[3,4,5,6,7],none⟩,
 ⟨none,.val 4 .mov [.t 19],[0,1,2],none⟩,
 ⟨none,.val 5 .mov [.t 25],[0,1,2,3,4,5,6,7,8,9],none⟩,
 ⟨none,.val 6 .mov [ki 0],[0,1,2,3,4,5,6,7,8,9,10],none⟩]
def r83_4:IC:=(.regD o83_4 [4,5,6])
def b83:IC:=(.seq r83_0 (.seq r83_1 (.seq (.seq r83_2 (.cond (.t 15) (.seq r83_3 .ret) .skip)) (.kp [7] (.seq r83_4 .ret)))))
def i83:IFn:=⟨2,26,b83,[.tmp 4,.tmp 5,.tmp 6]⟩
def o84_0:List IOp:=[q (.boxL 3 (.t 0)),
 q (.val 6 .mov [.k (.p (.bool false))]),
 q (.val 7 .mov [ki 0])]
def r84_0:IC:=(.reg o84_0 [1,2,3])
def o84_1:List IOp:=[q (.val 8 .mov [.k (.p (.bool false))])]
def r84_1:IC:=(.reg o84_1 [1,2,3,8])
def o84_2:List IOp:=[q (.load 10 (.t 3) 3 true),
 mv 11 1,
 q (.call (some 12) 92 [.t 10,.t 11]),
 mv 9 12]
def r84_2:IC:=(.reg o84_2 [2,3,8,9])
def o84_3:List IOp:=[mv 13 9,
 q (.val 14 (.bin .neq) [.t 13,ki 0])]
def r84_3:IC:=(.reg o84_3 [2,3,8,9,14])
def o84_4:List IOp:=[mv 15 8,
 mv 16 9,
 mv 6 15,
 mv 7 16]
def r84_4:IC:=(.reg o84_4 [6,7])
def o84_5:List IOp:=[mv 17 2,
 q (.load 18 (.t 3) 3 true),
 q (.val 19 (.build [.p (.int .i64 0),.p (.sl 1 true []),.p (.sl 4 true [])] [(0,3)]) [.t 18]),
 q (.callV (some 20) (.t 17) [.t 19]),
 q (.val 21 (.ext 0) [.t 20]),
 q (.val 22 (.ext 1) [.t 20]),
 mv 6 21,
 mv 7 22]
def r84_5:IC:=(.reg o84_5 [6,7])
def b84:IC:=(.seq r84_0 (.seq r84_1 (.seq (.seq r84_2 (.seq r84_3 (.cond (.t 14) (.seq r84_4 .ret) .skip))) (.kp [2,3] (.seq r84_5 .ret)))))
def i84:IFn:=⟨3,23,b84,[.tmp 6,.tmp 7]⟩
def o85_0:List IOp:=[q (.boxL 3 (.t 0)),
 q (.val 4 .mov [.k (.p (.bool false))]),
 q (.val 5 .mov [ki 0])]
def r85_0:IC:=(.reg o85_0 [1,2,3])
def o85_1:List IOp:=[q (.load 6 (.t 3) 3 true),
 q (.load 7 (.t 1) 1 false),
 q (.call (some 8) 86 [.t 6,.t 7]),
 q (.val 9 .not [.t 8])]
def r85_1:IC:=(.reg o85_1 [1,2,3,9])
def o85_2:List IOp:=[q (.val 4 .mov [.k (.p (.bool false))]),
 q (.val 5 .mov [ki 310])]
def r85_2:IC:=(.reg o85_2 [4,5])
def o85_3:List IOp:=[q (.load 10 (.t 2) 1 false),
 q (.load 11 (.t 1) 1 false),
 q (.call (some 12) 87 [.t 10,.t 11]),
 q (.val 13 .not [.t 12]),
 mv 14 13,
 ⟨(some (14,true)),.load 15 (.t 3) 3 true,[],none⟩,
 ⟨(some (14,true)),.load 16 (.t 2) 1 false,[],none⟩,
 ⟨(some (14,true)),.load 17 (.t 1) 1 false,[],none⟩,
 ⟨(some (14,true)),.call (some 18) 88 [.t 15,.t 16,.t 17],[],none⟩,
 ⟨(some (14,true)),.val 19 .not [.t 18],[],none⟩,
 q (.val 20 .pick [.t 14,.t 19,.k (.p (.bool false))]),
 mv 21 20,
 ⟨(some (21,true)),.load 22 (.t 3) 3 true,[],none⟩,
 ⟨(some (21,true)),.load 23 (.t 1) 1 false,[],none⟩,
 ⟨(some (21,true)),.load 24 (.t 2) 1 false,[],none⟩,
 ⟨(some (21,true)),.call (some 25) 88 [.t 22,.t 23,.t 24],[],none⟩,
 ⟨(some (21,true)),.val 26 .not [.t 25],[],none⟩,
 q (.val 27 .pick [.t 21,.t 26,.k (.p (.bool false))]),
 mv 4 27,
 q (.val 5 .mov [ki 0])]
def r85_3:IC:=(.reg o85_3 [4,5])
def b85:IC:=(.seq r85_0 (.seq (.seq r85_1 (.cond (.t 9) (.seq r85_2 .ret) .skip)) (.kp [1,2,3] (.seq r85_3 .ret))))
def i85:IFn:=⟨3,28,b85,[.tmp 4,.tmp 5]⟩
def o86_0:List IOp:=[q (.boxH 2 (.t 0)),
 q (.val 4 .mov [.k (.p (.bool false))])]
def r86_0:IC:=(.reg o86_0 [1,2])
def o86_1:List IOp:=[mv 10 1,
 q (.val 11 .len [.t 10]),
 q (.val 12 (.bin .lss) [.t 11,ki 1]),
 mv 13 12,
 ⟨(some (13,false)),.val 14 .mov [.t 1],[],none⟩,
 ⟨(some (13,false)),.val 15 .len [.t 14],[],none⟩,
 ⟨(some (13,false)),.val 16 (.bin .gtr) [.t 15,ki 8],[],none⟩,
 q (.val 17 .pick [.t 13,.k (.p (.bool true)),.t 16])]
def r86_1:IC:=(.reg o86_1 [1,2,17])
def o86_2:List IOp:=[q (.val 4 .mov [.k (.p (.bool false))])]
def r86_2:IC:=(.reg o86_2 [4])
def o86_3:List IOp:=[q (.newH 5 [.p (.bool false),.p (.bool false),.p (.bool false),.p (.bool false),.p (.bool false),.p (.bool false),.p (.bool false),.p (.bool false),.p (.bool false),.p (.bool false),.p (.bool false),.p (.bool false)])]
def r86_3:IC:=(.reg o86_3 [1,2,5])
def o86_4:List IOp:=[q (.newH 6 [.p (.int .i64 0)]),
 q (.newH 7 [.p (.int .i64 0)]),
 q (.store (.t 6) (ki 0) 1),
 q (.store (.t 7) (ki 0) 1)]
def r86_4:IC:=(.reg o86_4 [1,2,5,6,7])
def o86_5:List IOp:=[q (.load 18 (.t 2) 3 true),
 mv 19 1,
 q (.call (some 20) 93 [.t 18,.t 19])]
def r86_5:IC:=(.reg o86_5 [1,2,5,6,7,20])
def o86_6:List IOp:=[mv 8 21]
def r86_6:IC:=(.reg o86_6 [2,5,6,7,8,22])
def o86_7:List IOp:=[q (.newL 9 [.p (.int .i64 0),.p (.int .i64 0),.p (.int .i64 0)]),
 q (.store (.t 9) (.t 22) 3)]
def r86_7:IC:=(.reg o86_7 [2,5,6,7,8,9])
def o86_8:List IOp:=[mv 23 8,
 q (.val 24 (.bin .eql) [.t 23,ki 0])]
def r86_8:IC:=(.reg o86_8 [2,5,6,7,9,24])
def o86_9:List IOp:=[q (.val 25 (.faddr 1) [.t 9]),
 q (.load 26 (.t 25) 1 false),
 q (.val 27 (.iaddr 12 1) [.t 5,.t 26]),
 q (.store (.t 27) (.k (.p (.bool true))) 1)]
def r86_9:IC:=(.reg o86_9 [5,6,7,9])
def o86_10:List IOp:=[q (.val 28 (.faddr 1) [.t 9]),
 q (.load 29 (.t 28) 1 false),
 q (.load 30 (.t 6) 1 false),
 q (.val 31 (.bin .neq) [.t 29,.t 30]),
 mv 32 31,
 ⟨(some (32,false)),.val 33 (.faddr 0) [.t 2],[],none⟩,
 ⟨(some (32,false)),.val 34 (.faddr 1) [.t 33],[],none⟩,
 ⟨(some (32,false)),.load 35 (.t 34) 1 false,[],none⟩,
 ⟨(some (32,false)),.load 36 (.t 6) 1 false,[],none⟩,
 ⟨(some (32,false)),.val 37 (.iaddrS 1) [.t 35,.t 36],[],none⟩,
 ⟨(some (32,false)),.load 38 (.t 37) 1 false,[],none⟩,
 q (.val 39 .pick [.t 32,.k (.p (.bool true)),.t 38])]
def r86_10:IC:=(.reg o86_10 [5,6,7,9,39])
def o86_11:List IOp:=[q (.val 40 (.faddr 2) [.t 9]),
 q (.load 41 (.t 40) 1 false),
 q (.val 42 (.iaddr 12 1) [.t 5,.t 41]),
 q (.load 43 (.t 42) 1 false)]
def r86_11:IC:=(.reg o86_11 [5,6,7,9,43])
def o86_12:List IOp:=[q (.val 44 (.faddr 2) [.t 9]),
 q (.load 45 (.t 44) 1 false),
 q (.val 46 (.iaddr 12 1) [.t 5,.t 45]),
 q (.store (.t 46) (.k (.p (.bool true))) 1)]
def r86_12:IC:=(.reg o86_12 [6,7,9])
def o86_13:List IOp:=[q (.val 47 (.faddr 2) [.t 9]),
 q (.load 48 (.t 47) 1 false),
 q (.store (.t 6) (.t 48) 1)]
def r86_13:IC:=(.reg o86_13 [7])
def o86_14:List IOp:=[q (.load 49 (.t 7) 1 false),
 q (.val 50 (.bin .add) [.t 49,ki 1]),
 q (.store (.t 7) (.t 50) 1)]
def r86_14:IC:=(.reg o86_14 [])
def Zcg:IC:=(.seq r86_6 r86_7)
def Zcf:IC:=(.block 1 (.seq (.seq r86_8 (.cond (.t 24) r86_9 (.seq r86_10 (.cond (.t 39) (.kp [] (.exit 0)) .skip)))) (.kp [5,6,7,9] (.seq (.seq r86_11 (.cond (.t 43) (.kp [] (.exit 0)) .skip)) (.kp [5,6,7,9] (.seq r86_12 (.seq r86_13 r86_14)))))))
def o86_15:List IOp:=[q (.load 51 (.t 7) 1 false),
 mv 52 1,
 q (.val 53 .len [.t 52]),
 q (.val 54 (.bin .eql) [.t 51,.t 53]),
 mv 4 54]
def r86_15:IC:=(.reg o86_15 [4])
def b86:IC:=(.seq r86_0 (.seq (.seq r86_1 (.cond (.t 17) (.seq r86_2 .ret) .skip)) (.kp [1,2] (.seq r86_3 (.seq r86_4 (.seq (.seq r86_5 (.block 0 (.rangeF (.t 20) [21,22] Zcg Zcf))) (.kp [1,7] (.seq r86_15 .ret))))))))
def i86:IFn:=⟨2,55,b86,[.tmp 4]⟩
def o87_0:List IOp:=[q (.val 4 .mov [.k (.p (.bool false))])]
def r87_0:IC:=(.reg o87_0 [0,1])
def o87_1:List IOp:=[mv 9 0,
 q (.val 10 .len [.t 9]),
 q (.val 11 .mov [ki 0])]
def r87_1:IC:=(.reg o87_1 [1,9,10,11])
def o87_2:List IOp:=[q (.val 12 (.bin .lss) [.t 11,.t 10])]
def r87_2:IC:=(.reg o87_2 [1,9,10,11,12])
def o87_3:List IOp:=[q (.val 13 (.iaddrS 1) [.t 9,.t 11]),
 q (.load 14 (.t 13) 1 false),
 mv 6 14]
def r87_3:IC:=(.reg o87_3 [1,6,9,10,11])
def o87_4:List IOp:=[mv 15 1,
 q (.val 16 .len [.t 15]),
 q (.val 17 .mov [ki 0])]
def r87_4:IC:=(.reg o87_4 [1,6,9,10,11,15,16,17])
def o87_5:List IOp:=[q (.val 18 (.bin .lss) [.t 17,.t 16])]
def r87_5:IC:=(.reg o87_5 [1,6,9,10,11,15,16,17,18])
def o87_6:List IOp:=[q (.val 19 (.iaddrS 1) [.t 15,.t 17]),
 q (.load 20 (.t 19) 1 false),
 mv 8 20]
def r87_6:IC:=(.reg o87_6 [1,6,8,9,10,11,15,16,17])
def o87_7:List IOp:=[mv 21 6,
 q (.val 22 (.bin .quo) [.t 21,ki 2]),
 mv 23 8,
 q (.val 24 (.bin .quo) [.t 23,ki 2]),
 q (.val 25 (.bin .eql) [.t 22,.t 24])]
def r87_7:IC:=(.reg o87_7 [1,6,9,10,11,15,16,17,25])
def o87_8:List IOp:=[q (.val 4 .mov [.k (.p (.bool true))])]
def r87_8:IC:=(.reg o87_8 [4])
def o87_9:List IOp:=[q (.val 26 (.bin .add) [.t 17,ki 1]),
 mv 17 26]
def r87_9:IC:=(.reg o87_9 [1,6,9,10,11,15,16,17])
def l87_2:IC:=(.seq r87_5 (.seq (.cond (.t 18) .skip (.kp [1,9,10,11] (.exit 2))) (.kp [1,6,9,10,11,15,16,17] (.seq (.block 3 (.seq r87_6 (.seq r87_7 (.cond (.t 25) (.seq r87_8 .ret) .skip)))) (.kp [1,6,9,10,11,15,16,17] r87_9)))))
def o87_10:List IOp:=[q (.val 27 (.bin .add) [.t 11,ki 1]),
 mv 11 27]
def r87_10:IC:=(.reg o87_10 [1,9,10,11])
def l87_1:IC:=(.seq r87_2 (.seq (.cond (.t 12) .skip (.kp [] (.exit 0))) (.kp [1,9,10,11] (.seq (.block 1 (.seq r87_3 (.seq r87_4 (.block 2 (.loop l87_2))))) r87_10))))
def o87_11:List IOp:=[q (.val 4 .mov [.k (.p (.bool false))])]
def r87_11:IC:=(.reg o87_11 [4])
def b87:IC:=(.seq r87_0 (.seq (.seq r87_1 (.block 0 (.loop l87_1))) (.seq r87_11 .ret)))
def i87:IFn:=⟨2,28,b87,[.tmp 4]⟩
def o88_0:List IOp:=[q (.boxL 3 (.t 0)),
 q (.val 6 .mov [.k (.p (.bool false))])]
def r88_0:IC:=(.reg o88_0 [1,2,3])
def o88_1:List IOp:=[q (.load 12 (.t 3) 3 true),
 mv 13 1,
 q (.call (some 14) 94 [.t 12,.t 13]),
 mv 7 14]
def r88_1:IC:=(.reg o88_1 [2,3,7])
def o88_2:List IOp:=[mv 15 7,
 q (.val 16 .len [.t 15]),
 q (.val 17 (.bin .sub) [.t 16,ki 1]),
 mv 8 17]
def r88_2:IC:=(.reg o88_2 [2,3,7,8])
def o88_3:List IOp:=[q (.load 18 (.t 3) 3 true),
 mv 19 2,
 q (.call (some 20) 94 [.t 18,.t 19]),
 mv 9 20]
def r88_3:IC:=(.reg o88_3 [7,8,9])
def o88_4:List IOp:=[mv 21 7,
 mv 22 8,
 mv 23 8,
 q (.val 24 (.slice 1 true true true) [.t 21,ki 1,.t 22,.t 23]),
 q (.val 25 .len [.t 24]),
 q (.val 26 .mov [ki 0])]
def r88_4:IC:=(.reg o88_4 [9,24,25,26])
def o88_5:List IOp:=[q (.val 27 (.bin .lss) [.t 26,.t 25])]
def r88_5:IC:=(.reg o88_5 [9,24,25,26,27])
def o88_6:List IOp:=[q (.val 28 (.iaddrS 1) [.t 24,.t 26]),
 q (.load 29 (.t 28) 1 false),
 mv 11 29]
def r88_6:IC:=(.reg o88_6 [9,11,24,25,26])
def o88_7:List IOp:=[mv 30 9,
 mv 31 11,
 q (.call (some 32) 95 [.t 30,.t 31])]
def r88_7:IC:=(.reg o88_7 [9,24,25,26,32])
def o88_8:List IOp:=[q (.val 6 .mov [.k (.p (.bool true))])]
def r88_8:IC:=(.reg o88_8 [6])
def o88_9:List IOp:=[q (.val 33 (.bin .add) [.t 26,ki 1]),
 mv 26 33]
def r88_9:IC:=(.reg o88_9 [9,24,25,26])
def l88_1:IC:=(.seq r88_5 (.seq (.cond (.t 27) .skip (.kp [] (.exit 0))) (.kp [9,24,25,26] (.seq (.block 1 (.seq r88_6 (.seq r88_7 (.cond (.t 32) (.seq r88_8 .ret) .skip)))) (.kp [9,24,25,26] r88_9)))))
def o88_10:List IOp:=[q (.val 6 .mov [.k (.p (.bool false))])]
def r88_10:IC:=(.reg o88_10 [6])
def b88:IC:=(.seq r88_0 (.seq r88_1 (.seq r88_2 (.seq r88_3 (.seq (.seq r88_4 (.block 0 (.loop l88_1))) (.seq r88_10 .ret))))))
def i88:IFn:=⟨3,34,b88,[.tmp 6]⟩
def o89_0:List IOp:=[q (.boxL 2 (.t 0)),
 q (.val 4 .mov [.k (.p (.bool false))])]
def r89_0:IC:=(.reg o89_0 [1,2])
def o89_1:List IOp:=[mv 5 1,
 q (.val 6 (.bin .geq) [.t 5,ki 0]),
 mv 7 6,
 ⟨(some (7,true)),.val 8 .mov [.t 1],[],none⟩,
 ⟨(some (7,true)),.val 9 (.faddr 2) [.t 2],[],none⟩,
 ⟨(some (7,true)),.load 10 (.t 9) 1 false,[],none⟩,
 ⟨(some (7,true)),.val 11 .len [.t 10],[],none⟩,
 ⟨(some (7,true)),.val 12 (.bin .mul) [ki 2,.t 11],[],none⟩,
 ⟨(some (7,true)),.val 13 (.bin .lss) [.t 8,.t 12],[],none⟩,
 q (.val 14 .pick [.t 7,.t 13,.k (.p (.bool false))]),
 mv 4 14]
def r89_1:IC:=(.reg o89_1 [4])
def b89:IC:=(.seq r89_0 (.seq r89_1 .ret))
def i89:IFn:=⟨2,15,b89,[.tmp 4]⟩
def o90_0:List IOp:=[q (.boxL 2 (.t 0)),
 q (.val 4 .mov [.k (.p (.sl 1 true []))])]
def r90_0:IC:=(.reg o90_0 [1,2])
def o90_1:List IOp:=[q (.val 5 .mov [.k (.p (.sl 1 true []))])]
def r90_1:IC:=(.reg o90_1 [1,2,5])
def o90_2:List IOp:=[q (.val 6 .mov [ki 0])]
def r90_2:IC:=(.reg o90_2 [1,2,5,6])
def o90_3:List IOp:=[mv 7 6,
 q (.val 8 (.faddr 2) [.t 2]),
 q (.load 9 (.t 8) 1 false),
 q (.val 10 .len [.t 9]),
 q (.val 11 (.bin .mul) [ki 2,.t 10]),
 q (.val 12 (.bin .lss) [.t 7,.t 11])]
def r90_3:IC:=(.reg o90_3 [1,2,5,6,12])
def o90_5:List IOp:=[q (.load 15 (.t 2) 3 true),
 mv 16 6,
 q (.call (some 17) 50 [.t 15,.t 16]),
 mv 18 1,
 q (.val 19 (.bin .eql) [.t 17,.t 18])]
def r90_5:IC:=(.reg o90_5 [1,2,5,6,19])
def o90_6:List IOp:=[mv 20 5,
 mv 21 6,
 q (.litP 22 1 [.t 21]),
 q (.app 23 (.t 20) (.t 22) 1 8),
 mv 5 23]
def r90_6:IC:=(.reg o90_6 [1,2,5,6])
def o90_4:List IOp:=[mv 13 6,
 q (.val 14 (.bin .add) [.t 13,ki 1]),
 mv 6 14]
def r90_4:IC:=(.reg o90_4 [1,2,5,6])
def l90_1:IC:=(.seq (.seq r90_3 (.cond (.t 12) .skip (.kp [5] (.exit 0)))) (.kp [1,2,5,6] (.seq (.block 1 (.seq r90_5 (.cond (.t 19) r90_6 .skip))) (.kp [1,2,5,6] r90_4))))
def o90_7:List IOp:=[mv 24 5,
 mv 4 24]
def r90_7:IC:=(.reg o90_7 [4])
def b90:IC:=(.seq r90_0 (.seq r90_1 (.seq (.seq r90_2 (.block 0 (.loop l90_1))) (.seq r90_7 .ret))))
def i90:IFn:=⟨2,25,b90,[.tmp 4]⟩
def o91_0:List IOp:=[q (.boxL 2 (.t 0)),
 q (.boxH 3 (.t 1)),
 q (.val 4 .mov [.k (.p (.sl 1 true []))]),
 q (.val 5 .mov [ki 0])]
def r91_0:IC:=(.reg o91_0 [2,3])
def o91_1:List IOp:=[q (.load 6 (.t 2) 3 true),
 q (.load 7 (.t 3) 1 false),
 q (.val 8 (.mkfn 97 0) [.t 3]),
 q (.call (some 9) 96 [.t 6,.t 7,.t 8]),
 q (.val 10 (.ext 0) [.t 9]),
 q (.val 11 (.ext 1) [.t 9]),
 mv 4 10,
 mv 5 11]
def r91_1:IC:=(.reg o91_1 [4,5])
def b91:IC:=(.seq r91_0 (.seq r91_1 .ret))
def i91:IFn:=⟨2,12,b91,[.tmp 4,.tmp 5]⟩
def o92_0:List IOp:=[q (.boxL 2 (.t 0)),
 q (.val 4 .mov [ki 0])]
def r92_0:IC:=(.reg o92_0 [1,2])
def o92_1:List IOp:=[q (.load 6 (.t 2) 3 true),
 q (.call (some 7) 38 [.t 6]),
 mv 5 7]
def r92_1:IC:=(.reg o92_1 [1,2,5])
def o92_2:List IOp:=[mv 8 5,
 q (.val 9 (.bin .neq) [.t 8,ki 0])]
def r92_2:IC:=(.reg o92_2 [1,2,5,9])
def o92_3:List IOp:=[mv 10 5,
 mv 4 10]
def r92_3:IC:=(.reg o92_3 [4])
def o92_4:List IOp:=[q (.load 11 (.t 2) 3 true),
 q (.val 12 (.build [.p (.int .i64 0),.p (.sl 1 true []),.p (.sl 4 true [])] [(0,3)]) [.t 11]),
 mv 13 1,
 q (.call (some 14) 86 [.t 12,.t 13]),
 q (.val 15 .not [.t 14])]
def r92_4:IC:=(.reg o92_4 [15])
def o92_5:List IOp:=[q (.val 4 .mov [ki 310])]
def r92_5:IC:=(.reg o92_5 [4])
def o92_6:List IOp:=[q (.val 4 .mov [ki 0])]
def r92_6:IC:=(.reg o92_6 [4])
def b92:IC:=(.seq r92_0 (.seq (.seq r92_1 (.seq r92_2 (.cond (.t 9) (.seq r92_3 .ret) .skip))) (.kp [1,2] (.seq (.seq r92_4 (.cond (.t 15) (.seq r92_5 .ret) .skip)) (.kp [] (.seq r92_6 .ret))))))
def i92:IFn:=⟨2,16,b92,[.tmp 4]⟩
def o93_0:List IOp:=[q (.boxH 2 (.t 0)),
 q (.boxH 3 (.t 1)),
 q (.val 4 .mov [.k (.nl .nilFunc)])]
def r93_0:IC:=(.reg o93_0 [2,3])
def o93_1:List IOp:=[q (.val 5 (.mkfn 98 0) [.t 3,.t 2]),
 mv 4 5]
def r93_1:IC:=(.reg o93_1 [4])
def b93:IC:=(.seq r93_0 (.seq r93_1 .ret))
def i93:IFn:=⟨2,6,b93,[.tmp 4]⟩
def o94_0:List IOp:=[q (.boxL 2 (.t 0)),
 q (.val 4 .mov [.k (.p (.sl 1 true []))])]
def r94_0:IC:=(.reg o94_0 [1,2])
def o94_1:List IOp:=[mv 8 1,
 q (.val 9 .len [.t 8]),
 q (.val 10 (.bin .add) [.t 9,ki 1]),
 q (.mkSl 11 (ki 0) (.t 10) [.int .i64 0] 8),
 q (.newH 5 [.p (.sl 1 true [])]),
 q (.store (.t 5) (.t 11) 1)]
def r94_1:IC:=(.reg o94_1 [1,2,5])
def o94_2:List IOp:=[q (.load 12 (.t 2) 3 true),
 mv 13 1,
 q (.call (some 14) 93 [.t 12,.t 13])]
def r94_2:IC:=(.reg o94_2 [5,14])
def o94_3:List IOp:=[mv 6 15]
def r94_3:IC:=(.reg o94_3 [5,6,16])
def o94_4:List IOp:=[q (.newL 7 [.p (.int .i64 0),.p (.int .i64 0),.p (.int .i64 0)]),
 q (.store (.t 7) (.t 16) 3)]
def r94_4:IC:=(.reg o94_4 [5,6,7])
def o94_5:List IOp:=[mv 17 6,
 q (.val 18 (.bin .eql) [.t 17,ki 0])]
def r94_5:IC:=(.reg o94_5 [5,7,18])
def o94_6:List IOp:=[q (.load 19 (.t 5) 1 false),
 q (.val 20 (.faddr 1) [.t 7]),
 q (.load 21 (.t 20) 1 false),
 q (.litP 22 1 [.t 21]),
 q (.app 23 (.t 19) (.t 22) 1 8),
 q (.store (.t 5) (.t 23) 1)]
def r94_6:IC:=(.reg o94_6 [5,7])
def o94_7:List IOp:=[q (.load 24 (.t 5) 1 false),
 q (.val 25 (.faddr 2) [.t 7]),
 q (.load 26 (.t 25) 1 false),
 q (.litP 27 1 [.t 26]),
 q (.app 28 (.t 24) (.t 27) 1 8),
 q (.store (.t 5) (.t 28) 1)]
def r94_7:IC:=(.reg o94_7 [])
def Zcr:IC:=(.seq r94_3 r94_4)
def Zcq:IC:=(.block 1 (.seq (.seq r94_5 (.cond (.t 18) r94_6 .skip)) (.kp [5,7] r94_7)))
def o94_8:List IOp:=[q (.load 29 (.t 5) 1 false),
 mv 4 29]
def r94_8:IC:=(.reg o94_8 [4])
def b94:IC:=(.seq r94_0 (.seq r94_1 (.seq (.seq r94_2 (.block 0 (.rangeF (.t 14) [15,16] Zcr Zcq))) (.kp [5] (.seq r94_8 .ret)))))
def i94:IFn:=⟨2,30,b94,[.tmp 4]⟩
def o95_0:List IOp:=[q (.val 4 .mov [.k (.p (.bool false))])]
def r95_0:IC:=(.reg o95_0 [0,1])
def o95_1:List IOp:=[mv 5 0,
 mv 6 1,
 q (.call (some 7) 99 [.t 5,.t 6]),
 q (.val 8 (.bin .geq) [.t 7,ki 0]),
 mv 4 8]
def r95_1:IC:=(.reg o95_1 [4])
def b95:IC:=(.seq r95_0 (.seq r95_1 .ret))
def i95:IFn:=⟨2,9,b95,[.tmp 4]⟩
def o96_0:List IOp:=[q (.boxL 3 (.t 0)),
 q (.val 6 .mov [.k (.p (.sl 1 true []))]),
 q (.val 7 .mov [ki 0])]
def r96_0:IC:=(.reg o96_0 [1,2,3])
def o96_1:List IOp:=[q (.val 8 .mov [.k (.p (.sl 1 true []))])]
def r96_1:IC:=(.reg o96_1 [1,2,3,8])
def o96_2:List IOp:=[q (.load 10 (.t 3) 3 true),
 mv 11 1,
 q (.call (some 12) 92 [.t 10,.t 11]),
 mv 9 12]
def r96_2:IC:=(.reg o96_2 [2,3,8,9])
def o96_3:List IOp:=[mv 13 9,
 q (.val 14 (.bin .neq) [.t 13,ki 0])]
def r96_3:IC:=(.reg o96_3 [2,3,8,9,14])
def o96_4:List IOp:=[mv 15 8,
 mv 16 9,
 mv 6 15,
 mv 7 16]
def r96_4:IC:=(.reg o96_4 [6,7])
def o96_5:List IOp:=[mv 17 2,
 q (.load 18 (.t 3) 3 true),
 q (.val 19 (.build [.p (.int .i64 0),.p (.sl 1 true []),.p (.sl 4 true [])] [(0,3)]) [.t 18]),
 q (.callV (some 20) (.t 17) [.t 19]),
 q (.val 21 (.ext 0) [.t 20]),
 q (.val 22 (.ext 1) [.t 20]),
 mv 6 21,
 mv 7 22]
def r96_5:IC:=(.reg o96_5 [6,7])
def b96:IC:=(.seq r96_0 (.seq r96_1 (.seq (.seq r96_2 (.seq r96_3 (.cond (.t 14) (.seq r96_4 .ret) .skip))) (.kp [2,3] (.seq r96_5 .ret)))))
def i96:IFn:=⟨3,23,b96,[.tmp 6,.tmp 7]⟩
def o97_0:List IOp:=[q (.boxL 2 (.t 0)),
 q (.val 3 .mov [.k (.p (.sl 1 true []))]),
 q (.val 4 .mov [ki 0])]
def r97_0:IC:=(.reg o97_0 [1,2])
def o97_1:List IOp:=[q (.load 5 (.t 2) 3 true),
 q (.load 6 (.t 1) 1 false),
 q (.call (some 7) 94 [.t 5,.t 6]),
 mv 3 7,
 q (.val 4 .mov [ki 0])]
def r97_1:IC:=(.reg o97_1 [3,4])
def b97:IC:=(.seq r97_0 (.seq r97_1 .ret))
def i97:IFn:=⟨2,8,b97,[.tmp 3,.tmp 4]⟩
def o98_0:List IOp:=[q (.load 8 (.t 1) 1 false),
 q (.val 9 .len [.t 8]),
 q (.val 10 .mov [ki 0])]
def r98_0:IC:=(.reg o98_0 [0,2,8,9,10])
def o98_1:List IOp:=[q (.val 11 (.bin .lss) [.t 10,.t 9])]
def r98_1:IC:=(.reg o98_1 [0,2,8,9,10,11])
def o98_2:List IOp:=[mv 12 10,
 q (.val 13 (.iaddrS 1) [.t 8,.t 10]),
 q (.load 14 (.t 13) 1 false),
 mv 4 12,
 mv 5 14]
def r98_2:IC:=(.reg o98_2 [0,2,4,5,8,9,10])
def o98_3:List IOp:=[mv 15 5,
 q (.val 16 (.bin .lss) [.t 15,ki 0]),
 mv 17 16,
 ⟨(some (17,false)),.val 18 .mov [.t 5],[],none⟩,
 ⟨(some (17,false)),.val 19 (.faddr 0) [.t 2],[],none⟩,
 ⟨(some (17,false)),.val 20 (.faddr 2) [.t 19],[],none⟩,
 ⟨(some (17,false)),.load 21 (.t 20) 1 false,[],none⟩,
 ⟨(some (17,false)),.val 22 .len [.t 21],[],none⟩,
 ⟨(some (17,false)),.val 23 (.bin .mul) [ki 2,.t 22],[],none⟩,
 ⟨(some (17,false)),.val 24 (.bin .geq) [.t 18,.t 23],[],none⟩,
 q (.val 25 .pick [.t 17,.k (.p (.bool true)),.t 24])]
def r98_3:IC:=(.reg o98_3 [0,2,4,5,8,9,10,25])
def o98_4:List IOp:=[q (.val 26 (.faddr 0) [.t 2]),
 q (.val 27 (.faddr 2) [.t 26]),
 q (.load 28 (.t 27) 1 false),
 mv 29 5,
 q (.val 30 (.bin .quo) [.t 29,ki 2]),
 q (.val 31 (.iaddrS 4) [.t 28,.t 30]),
 q (.load 32 (.t 31) 4 true),
 q (.newL 6 [.p (.int .i64 0),.p (.int .i64 0),.p (.int .i64 0),.p (.int .i64 0)]),
 q (.store (.t 6) (.t 32) 4)]
def r98_4:IC:=(.reg o98_4 [0,2,4,5,6,8,9,10])
def o98_5:List IOp:=[mv 33 5,
 q (.val 34 (.faddr 0) [.t 6]),
 q (.load 35 (.t 34) 1 false),
 q (.val 36 (.faddr 1) [.t 6]),
 q (.load 37 (.t 36) 1 false),
 q (.val 38 (.build [.p (.int .i64 0),.p (.int .i64 0),.p (.int .i64 0)] [(0,1),(1,1),(2,1)]) [.t 33,.t 35,.t 37]),
 q (.newL 7 [.p (.int .i64 0),.p (.int .i64 0),.p (.int .i64 0)]),
 q (.store (.t 7) (.t 38) 3)]
def r98_5:IC:=(.reg o98_5 [0,2,4,5,6,7,8,9,10])
def o98_6:List IOp:=[mv 39 5,
 q (.val 40 (.bin .rem) [.t 39,ki 2]),
 q (.val 41 (.bin .eql) [.t 40,ki 1])]
def r98_6:IC:=(.reg o98_6 [0,2,4,5,6,7,8,9,10,41])
def o98_7:List IOp:=[mv 42 5,
 q (.val 43 (.faddr 1) [.t 6]),
 q (.load 44 (.t 43) 1 false),
 q (.val 45 (.faddr 0) [.t 6]),
 q (.load 46 (.t 45) 1 false),
 q (.val 47 (.build [.p (.int .i64 0),.p (.int .i64 0),.p (.int .i64 0)] [(0,1),(1,1),(2,1)]) [.t 42,.t 44,.t 46]),
 q (.store (.t 7) (.t 47) 3)]
def r98_7:IC:=(.reg o98_7 [0,2,4,7,8,9,10])
def o98_8:List IOp:=[mv 48 0,
 mv 49 4,
 q (.load 50 (.t 7) 3 true),
 q (.callY (some 51) (.t 48) [.t 49,.t 50]),
 q (.val 52 .not [.t 51])]
def r98_8:IC:=(.reg o98_8 [0,2,8,9,10,52])
def o98_9:List IOp:=[q (.val 53 (.bin .add) [.t 10,ki 1]),
 mv 10 53]
def r98_9:IC:=(.reg o98_9 [0,2,8,9,10])
def l98_1:IC:=(.seq r98_1 (.seq (.cond (.t 11) .skip (.kp [] (.exit 0))) (.kp [0,2,8,9,10] (.seq (.block 1 (.seq r98_2 (.seq (.seq r98_3 (.cond (.t 25) (.kp [] (.exit 0)) .skip)) (.kp [0,2,4,5,8,9,10] (.seq r98_4 (.seq r98_5 (.seq (.seq r98_6 (.cond (.t 41) r98_7 .skip)) (.kp [0,2,4,7,8,9,10] (.seq r98_8 (.cond (.t 52) (.kp [] (.exit 0)) .skip)))))))))) (.kp [0,2,8,9,10] r98_9)))))
def s98:IC:=(.seq (.label 0) (.seq r98_0 (.block 0 (.loop l98_1))))
def b98:IC:=(.scope s98)
def i98:IFn:=⟨3,54,b98,[]⟩
def o99_0:List IOp:=[q (.val 4 .mov [ki 0])]
def r99_0:IC:=(.reg o99_0 [0,1])
def o99_1:List IOp:=[mv 6 0,
 q (.val 7 .len [.t 6]),
 q (.val 8 .mov [ki 0])]
def r99_1:IC:=(.reg o99_1 [0,1,7,8])
def o99_2:List IOp:=[q (.val 9 (.bin .lss) [.t 8,.t 7])]
def r99_2:IC:=(.reg o99_2 [0,1,7,8,9])
def o99_3:List IOp:=[mv 10 8,
 mv 5 10]
def r99_3:IC:=(.reg o99_3 [0,1,5,7,8])
def o99_4:List IOp:=[mv 11 1,
 mv 12 0,
 mv 13 5,
 q (.val 14 (.iaddrS 1) [.t 12,.t 13]),
 q (.load 15 (.t 14) 1 false),
 q (.val 16 (.bin .eql) [.t 11,.t 15])]
def r99_4:IC:=(.reg o99_4 [0,1,5,7,8,16])
def o99_5:List IOp:=[mv 17 5,
 mv 4 17]
def r99_5:IC:=(.reg o99_5 [4])
def o99_6:List IOp:=[q (.val 18 (.bin .add) [.t 8,ki 1]),
 mv 8 18]
def r99_6:IC:=(.reg o99_6 [0,1,7,8])
def l99_1:IC:=(.seq r99_2 (.seq (.cond (.t 9) .skip (.kp [] (.exit 0))) (.kp [0,1,7,8] (.seq (.block 1 (.seq r99_3 (.seq r99_4 (.cond (.t 16) (.seq r99_5 .ret) .skip)))) (.kp [0,1,7,8] r99_6)))))
def o99_7:List IOp:=[q (.val 4 .mov [ki (-1)])]
def r99_7:IC:=(.reg o99_7 [4])
def b99:IC:=(.seq r99_0 (.seq (.seq r99_1 (.block 0 (.loop l99_1))) (.seq r99_7 .ret)))
def i99:IFn:=⟨2,19,b99,[.tmp 4]⟩
end Go.Eng

