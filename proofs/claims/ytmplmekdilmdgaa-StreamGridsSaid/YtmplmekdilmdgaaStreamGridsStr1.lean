/- Part of the proof; written by a program out of the texts in wip/. -/
import Derived.Test.YtmplmekdilmdgaaStreamGridsTop5
set_option linter.unusedVariables false
set_option linter.unusedSimpArgs false
namespace Go.Sh
open Go Go.Eng
section
variable {N:Nat} {t:api_Topo}
theorem ref21_Right_any (g:Good t) (r:List Int) (hN:200 ≤ N):ref21_Right N t r=some (validR t r):=by
 by_cases h:r.length ≤ 100
 ·exact ref21_Right_eq g h hN
 ·unfold ref21_Right validR
  rw [if_pos (by simp; omega)]
  have:decide (r.length ≤ 8)=false:=by simp; omega
  rw [this]; simp
theorem route_valid_any (g:Good t) (r:List Int) (hN:200 ≤ N):route_walk_valid N ⟨t⟩ r=some (validR t r):=by
 by_cases h:r.length ≤ 100
 ·exact route_valid_eq g h hN
 ·unfold route_walk_valid validR
  rw [if_pos (by simp; omega)]
  have:decide (r.length ≤ 8)=false:=by simp; omega
  rw [this]; simp
theorem validR_len {r:List Int} (h:validR t r=true):r.length ≤ 100:=by have:=ports_of h; omega
theorem route_Check_any (r:List Int) (hN:200 ≤ N):route_Check N t r=some (errR t r):=by
 by_cases h:r.length ≤ 100
 ·exact route_Check_eq h hN
 ·unfold route_Check errR
  rw [topo_Check_eq (by omega),Option.bind_some]
  cases hT:topoB t with
  | false=>rfl
  | true =>
   simp only [if_true,bne_self_eq_false,Bool.false_eq_true,if_false]
   rw [route_valid_any (topoB_good.1 hT) r hN,Option.bind_some]
   cases validR t r <;> rfl
theorem route_Ends_any (r:List Int) (hN:200 ≤ N):route_Ends N t r=some (if errR t r=0 then (nd t r 0,nd t r r.length,0) else (0,0,errR t r)):=by
 by_cases he:errR t r=0
 ·rw [if_pos he]; exact route_Ends_val (validR_len (errR_ok.1 he).2) hN he
 ·rw [if_neg he]
  by_cases h:r.length ≤ 100
  ·exact route_Ends_bad h hN he
  ·have hne:(errR t r != 0)=true:=by simpa using he
   unfold route_Ends route_Nodes route_ask__int
   rw [route_Check_any r hN]
   simp only [Option.bind_some,hne,if_true]
theorem route_Apart_any (a b:List Int) (hN:200 ≤ N) :
  route_Apart N t a b=some (if errR t a=0 then (if validR t b then (apartB t a b,0) else (false,310)) else (false,errR t a)):=by
 by_cases ha:a.length ≤ 100
 ·by_cases hb:b.length ≤ 100
  ·exact route_Apart_eq ha hb hN
  ·have hvb:validR t b=false:=by
    cases h:validR t b with
    | false=>rfl
    | true=>exact absurd (validR_len h) hb
   unfold route_Apart route_ask_bool
   rw [route_Check_any a hN,Option.bind_some]
   by_cases he:errR t a=0
   ·rw [if_pos he,he]
    simp only [bne_self_eq_false,Bool.false_eq_true,if_false]
    unfold route_Apart_1
    rw [route_valid_any (topoB_good.1 (errR_ok.1 he).1) b hN,hvb]
    rfl
   ·rw [if_neg he]
    have:(errR t a != 0)=true:=by simpa using he
    rw [this]
    rfl
 ·have hva:validR t a=false:=by
   cases h:validR t a with
   | false=>rfl
   | true=>exact absurd (validR_len h) ha
  have he:errR t a ≠ 0:=fun e=>by have:=(errR_ok.1 e).2; rw [hva] at this; cases this
  unfold route_Apart route_ask_bool
  rw [route_Check_any a hN,Option.bind_some,if_neg he]
  have:(errR t a != 0)=true:=by simpa using he
  rw [this]
  rfl
def inB (v l h:Int):Bool:=decide (v ≥ l) && decide (v ≤ h)
def setupB (u:api_Setup):Bool:=inB u.Grid 1 10000 && (inB u.Slack 0 1000 && (inB u.Proc 0 10000 && inB u.Cap 1542 65536))
def statB (t:api_Topo) (n:Int):Bool:=nodeB t n && stB t n
def classB (s:api_Stream):Bool :=
 if s.Class == 7 then inB s.Period 1 240 && ((s.Bucket.Burst == 0) && (s.Bucket.Rate == 0))
 else if s.Class == 6 then (s.Period == 0) && (inB s.Bucket.Burst s.Size 1048576 && inB s.Bucket.Rate 1 2097152) else false
def joinB (t:api_Topo) (s:api_Stream) (r:List Int):Bool:=validR t r && ((nd t r 0 == s.Talker) && (nd t r r.length == s.Listener))
def pairB (t:api_Topo) (s:api_Stream):Bool:=decide (s.Routes.length < 2) || apartB t (s.Routes.getD 0 []) (s.Routes.getD 1 [])
def headB (t:api_Topo) (s:api_Stream):Bool :=
 inB s.Id 1 4095 && (statB t s.Talker && (statB t s.Listener && ((s.Talker != s.Listener) && (inB s.Size 84 1542 && inB s.Deadline 1 1099511627776))))
def lenB (s:api_Stream):Bool:=decide (1 ≤ s.Routes.length) && decide (s.Routes.length ≤ 2)
def streamB (t:api_Topo) (s:api_Stream):Bool:=headB t s && (classB s && (lenB s && (s.Routes.all (joinB t s) && pairB t s)))
theorem stream_between_eq (v l h:Int):stream_between N v l h=some (inB v l h):=rfl
theorem ref22_in_eq (v l h:Int):ref22_in N v l h=some (inB v l h):=rfl
theorem stream_CheckSetup_eq (u:api_Setup):stream_CheckSetup N u=some (if setupB u then 0 else 320):=by
 unfold stream_CheckSetup setupB
 simp only [stream_between_eq,Option.bind_some]
 cases inB u.Grid 1 10000 <;> cases inB u.Slack 0 1000 <;> cases inB u.Proc 0 10000 <;> cases inB u.Cap 1542 65536 <;> rfl
theorem inB_node (g:Good t) (n:Int):inB n 0 (w64 (t.Nodes - 1))=nodeB t n:=by
 rw [w64_id (by have:=g.n2; omega) (by have:=g.n12; omega)]
 unfold inB nodeB
 congr 1
 exact decide_eq_decide.2 ⟨fun h=>by omega,fun h=>by omega⟩
theorem stream_station_eq (g:Good t) (n:Int):stream_station N t n=some (statB t n):=by
 unfold stream_station statB
 simp only [stream_between_eq,inB_node g,Option.bind_some]
 cases h:nodeB t n with
 | false=>rfl
 | true=>simp only [if_true,node_lt g.st h,Option.bind_some,Bool.true_and]
theorem ref22_station_eq (g:Good t) (n:Int):ref22_station N t n=some (statB t n):=by
 unfold ref22_station statB
 simp only [ref22_in_eq,inB_node g,Option.bind_some]
 cases h:nodeB t n with
 | false=>rfl
 | true=>simp only [if_true,node_lt g.st h,Option.bind_some,Bool.true_and]
theorem stream_joins_eq (g:Good t) (s:api_Stream) (r:List Int) (hN:200 ≤ N):stream_joins N t r s.Talker s.Listener=some (joinB t s r):=by
 unfold stream_joins joinB
 rw [route_Ends_any r hN,Option.bind_some]
 have hT:=topoB_good.2 g
 by_cases he:errR t r=0
 ·rw [if_pos he,(errR_ok.1 he).2]; rfl
 ·rw [if_neg he]
  have hv:validR t r=false:=by
   cases h:validR t r with
   | false=>rfl
   | true=>exact absurd (errR_ok.2 ⟨hT,h⟩) he
  have:(errR t r == 0)=false:=by simpa using he
  simp only [this,hv,Bool.false_and]
theorem allB_list {α:Type} (l:List α) (d:α) (p:α→Bool):allB l.length (fun k=>p (l.getD k d))=l.all p:=by
 rw [Bool.eq_iff_iff,allB_iff,List.all_eq_true]
 constructor
 ·intro h x hx
  obtain ⟨k,hk,rfl⟩:=List.getElem_of_mem hx
  have:=h k hk
  rwa [getD_k hk] at this
 ·intro h k hk
  rw [getD_k hk]
  exact h _ (List.getElem_mem hk)
theorem lenB_iff {s:api_Stream}:inB ((List.length s.Routes:Nat):Int) 1 2=lenB s:=by
 unfold inB lenB
 congr 1 <;> exact decide_eq_decide.2 ⟨fun h=>by omega,fun h=>by omega⟩
theorem stream_valid_7_eq (g:Good t) {s:api_Stream} (hl:lenB s=true) (hN:200 ≤ N):stream_valid_7 N s t=some (s.Routes.all (joinB t s)):=by
 simp only [lenB,Bool.and_eq_true,decide_eq_true_eq] at hl
 unfold stream_valid_7
 have:=iterF_allN (n:=s.Routes.length) (p:=fun k=>joinB t s (s.Routes.getD k [])) (body:=fun x:Int=>stream_valid_7_L1 N s t x) (bad:=.inr false) (fin:=.inl ()) (fun k hk=>by
  unfold stream_valid_7_L1
  rw [if_pos (by simp; omega),idx_k hk,Option.bind_some,getD_k hk,stream_joins_eq g s _ hN,Option.bind_some,w64_succ (by omega)]
  cases joinB t s s.Routes[k] <;> rfl) (by unfold stream_valid_7_L1; rw [if_neg (by simp)]) (N:=N) (by omega)
 rw [this,allB_list s.Routes [] (joinB t s)]
 cases s.Routes.all (joinB t s) <;> rfl
theorem routes_ok {s:api_Stream} (h:s.Routes.all (joinB t s)=true) {k:Nat} (hk:k < s.Routes.length):validR t (s.Routes.getD k [])=true∧nd t (s.Routes.getD k []) 0=s.Talker∧nd t (s.Routes.getD k []) (s.Routes.getD k []).length=s.Listener:=by
 have:=List.all_eq_true.1 h _ (List.getElem_mem hk)
 rw [getD_k hk]
 simpa only [joinB,Bool.and_eq_true,beq_iff_eq] using this
theorem stream_valid_8_eq (g:Good t) {s:api_Stream} (hl:lenB s=true) (hr:s.Routes.all (joinB t s)=true) (hN:200 ≤ N):stream_valid_8 N s t=some (pairB t s):=by
 simp only [lenB,Bool.and_eq_true,decide_eq_true_eq] at hl
 unfold stream_valid_8 pairB
 by_cases h2:s.Routes.length < 2
 ·rw [if_pos (by simp; omega)]; simp [h2]
 ·rw [if_neg (by simp; omega),show (0:Int)=((0:Nat):Int) from rfl,show (1:Int)=((1:Nat):Int) from rfl,idx_k (by omega),idx_k (by omega)]
  simp only [Option.bind_some]
  have e0:=routes_ok hr (k:=0) (by omega)
  have e1:=routes_ok hr (k:=1) (by omega)
  rw [getD_k (by omega)] at e0 e1
  rw [route_Apart_any _ _ hN,if_pos (errR_ok.2 ⟨topoB_good.2 g,e0.1⟩),e1.1,Option.bind_some,getD_k (by omega),getD_k (by omega)]
  simp [h2]
theorem stream_valid_eq (g:Good t) (s:api_Stream) (hN:200 ≤ N):stream_valid N t s=some (streamB t s):=by
 unfold stream_valid stream_valid_1 stream_valid_2 stream_valid_3 stream_valid_4 stream_valid_6
 simp only [stream_between_eq,Option.bind_some,stream_station_eq g,lenB_iff]
 unfold streamB headB
 cases inB s.Id 1 4095 with
 | false=>rfl
 | true =>
 cases statB t s.Talker with
 | false=>rfl
 | true =>
 cases statB t s.Listener with
 | false=>rfl
 | true =>
 cases h4:(s.Talker != s.Listener) with
 | false=>simp
 | true =>
 cases h5:inB s.Size 84 1542 with
 | false=>simp
 | true =>
 cases inB s.Deadline 1 1099511627776 with
 | false=>simp
 | true =>
 have hc:stream_valid_5 N s=some (classB s):=by
  unfold stream_valid_5 classB
  simp only [stream_between_eq,Option.bind_some]
  by_cases c7:(s.Class == 7)=true
  ·rw [if_pos c7,if_pos c7]
   cases inB s.Period 1 240 <;> simp
  ·rw [if_neg c7,if_neg c7]
   by_cases c6:(s.Class == 6)=true
   ·rw [if_pos c6,if_pos c6]
    cases s.Period == 0 with
    | false=>rfl
    | true =>
     simp only [if_true]
     unfold bucket_Check bucket_inside_int
     simp only [Option.bind_some]
     simp only [inB,Bool.and_eq_true,decide_eq_true_eq] at h5
     unfold inB
     by_cases q1:s.Bucket.Burst ≥ s.Size
     ·have q2:(1:Int) ≤ s.Bucket.Burst:=by omega
      by_cases q3:s.Bucket.Burst ≤ 1048576 <;> by_cases q4:(1:Int) ≤ s.Bucket.Rate <;> by_cases q5:s.Bucket.Rate ≤ 2097152 <;> simp [q1,q2,q3,q4,q5,ge_iff_le]
     ·by_cases q2:(1:Int) ≤ s.Bucket.Burst <;> by_cases q3:s.Bucket.Burst ≤ 1048576 <;> by_cases q4:(1:Int) ≤ s.Bucket.Rate <;> by_cases q5:s.Bucket.Rate ≤ 2097152 <;> simp [q1,q2,q3,q4,q5,ge_iff_le]
   ·rw [if_neg c6,if_neg c6]
 rw [hc]
 cases classB s with
 | false=>simp
 | true =>
 cases hl:lenB s with
 | false=>simp
 | true =>
 rw [stream_valid_7_eq g hl hN]
 cases hr:s.Routes.all (joinB t s) with
 | false=>simp
 | true =>
 rw [stream_valid_8_eq g hl hr hN]
 cases pairB t s <;> simp
end
end Go.Sh

