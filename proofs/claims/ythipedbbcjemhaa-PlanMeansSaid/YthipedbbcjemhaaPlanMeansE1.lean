/- Part of the proof; written by a program out of the texts in wip/. -/
import GoSem.Step
set_option linter.unusedVariables false
set_option linter.unusedSimpArgs false
namespace Go.Eng
inductive PC where
 | int (k:IntKind) (n:Int)
 | bool (b:Bool)
 | sl (sz:Nat) (full:Bool) (rows:List (List PC))
inductive NL where
 | nilFunc | nilIface | nilPtr | nilMap | unit | nilSl
def NL.val:NL→Value
 | .nilFunc=>.nilFunc
 | .nilIface=>.nilIface
 | .nilPtr=>.pointer none
 | .nilMap=>.map none
 | .unit=>.tuple #[]
 | .nilSl=>.slice none 0 0
inductive AV where
 | any
 | p (x:PC)
 | nl (x:NL)
 | agg (cs:List AV)
 | tup (vs:List AV)
 | osl (sz id ver off len:Nat)
 | optr (sz id ver i off:Nat)
 | ppt (sz:Nat) (rows:List (List PC)) (i off:Nat)
 | ptr (id off:Nat)
 | loc (t off:Nat)
 | fn (f:Nat) (first cap:List AV)
 | map (id:Nat)
 | yl (id:Nat)
 | csl (id n:Nat)
structure LC where
 ps:List Nat
 n:Nat
 ok:Code→Code→Prop
 mpk:Bool:=false
inductive LS where
 | ready | busy | dead
 | done (c:Code)
 | mp (kn:Nat) (es:List (List Int × AV))
 | mps (kn:Nat) (es:List (List Int × AV)) (bs:List Nat) (clock:Nat)
 | it (m since:Nat) (seen:List Nat) (last:Nat)
 | itd
inductive HO where
 | arr (sz ver:Nat) (frz:Bool) (rows:List (List PC))
 | cells (cs:List AV)
 | lp (L:LC) (fr:List (Nat × AV)) (st:LS)
structure St where
 fr:List (Nat × AV)
 bx:List (Nat × List AV)
 H:List HO
def get:List (Nat × AV)→Nat→AV
 | [],_=>.any
 | (u,v)::r,t=>if u=t then v else get r t
def put:List (Nat × AV)→Nat→AV→List (Nat × AV)
 | [],t,v=>[(t,v)]
 | (u,x)::r,t,v=>if t<u then (t,v)::(u,x)::r else if t=u then (t,v)::r else (u,x)::put r t v
def bget:List (Nat × List AV)→Nat→Option (List AV)
 | [],_=>none
 | (u,v)::r,t=>if u=t then some v else bget r t
def bput:List (Nat × List AV)→Nat→List AV→List (Nat × List AV)
 | [],t,v=>[(t,v)]
 | (u,x)::r,t,v=>if t<u then (t,v)::(u,x)::r else if t=u then (t,v)::r else (u,x)::bput r t v
def ZcP (t:Nat):List (Nat × AV)→List (Nat × AV)
 | []=>[]
 | (u,v)::r=>match v with
  | .loc t' _=>if t'=t then (u,.any)::ZcP t r else (u,v)::ZcP t r
  | _=>(u,v)::ZcP t r
def Zh1 (ks:List Nat):List (Nat × AV)→List (Nat × AV)
 | []=>[]
 | (u,v)::r=>if ks.elem u then (u,v)::Zh1 ks r else Zh1 ks r
def Zki (ks:List Nat):List (Nat × List AV)→List (Nat × List AV)
 | []=>[]
 | (u,v)::r=>if ks.elem u then (u,v)::Zki ks r else Zki ks r
def sub {α:Type} (off n:Nat) (l:List α):Option (List α) :=
 if off+n≤l.length then some ((l.drop off).take n) else none
def Zaz {α:Type} (off:Nat) (cs l:List α):Option (List α) :=
 if off+cs.length≤l.length then some (l.take off++cs++l.drop (off+cs.length)) else none
def ZK:AV→Bool
 | .loc .. => false
 | .agg cs=>noLocL cs
 | .tup cs=>noLocL cs
 | .fn _ a b=>noLocL a&&noLocL b
 | _=>true
 where noLocL:List AV→Bool
 | []=>true
 | c::cs=>ZK c&&noLocL cs
abbrev noLocL:=ZK.noLocL
def Zbw:AV→Bool
 | .p _ | .nl .nilFunc | .nl .nilIface | .nl .nilPtr | .nl .nilMap | .nl .nilSl | .osl .. | .ptr .. | .map _ | .yl _=>true
 | .fn _ a b=>noLocL a&&noLocL b
 | _=>false
def ZE:List AV→Bool
 | []=>true
 | c::cs=>Zbw c&&ZE cs
def cellsOf:AV→List AV
 | .agg cs=>cs
 | v=>[v]
def mk (isAgg:Bool) (cs:List AV):Option AV :=
 if isAgg then some (.agg cs) else match cs with
  | [c]=>some c
  | _=>none
def weakP:PC→PC
 | .sl sz _ rows=>.sl sz false rows
 | x=>x
def weak1:AV→AV
 | .p x=>.p (weakP x)
 | x=>x
def weakL:List AV→List AV
 | []=>[]
 | c::cs=>weak1 c::weakL cs
def weakV:AV→AV
 | .agg cs=>.agg (weakL cs)
 | v=>weak1 v
def weakVs:List AV→List AV
 | []=>[]
 | c::cs=>weakV c::weakVs cs
def unP:List AV→Option (List PC)
 | []=>some []
 | .p x::r=>(unP r).map (weakP x :: ·)
 | _::_=>none
inductive IX where
 | t (n:Nat)
 | k (v:AV)
def ev (fr:List (Nat × AV)):IX→AV
 | .t n=>get fr n
 | .k v=>v
def binI (op:BinOp) (k:IntKind) (a b:Int):Option PC :=
 match op with
 | .add=>some (.int k (k.wrap (a+b)))
 | .sub=>some (.int k (k.wrap (a - b)))
 | .mul=>some (.int k (k.wrap (a * b)))
 | .quo=>if b=0 then none else some (.int k (k.wrap (a.tdiv b)))
 | .rem=>if b=0 then none else some (.int k (a.tmod b))
 | .and=>some (.int k (k.wrap (BitVec.ofInt k.bits a &&& BitVec.ofInt k.bits b).toNat))
 | .or=>some (.int k (k.wrap (BitVec.ofInt k.bits a ||| BitVec.ofInt k.bits b).toNat))
 | .xor=>some (.int k (k.wrap (BitVec.ofInt k.bits a ^^^ BitVec.ofInt k.bits b).toNat))
 | .eql=>some (.bool (a==b))
 | .neq=>some (.bool (a != b))
 | .lss=>some (.bool (a<b))
 | .leq=>some (.bool (a≤b))
 | .gtr=>some (.bool (a > b))
 | .geq=>some (.bool (a ≥ b))
 | _=>none
def shI (op:BinOp) (k:IntKind) (a b:Int):Option PC :=
 if b<0 then none else match op with
  | .shl=>some (.int k (k.wrap (a * 2 ^ (min b.toNat k.bits))))
  | .shr=>some (.int k (a.fdiv (2 ^ (min b.toNat k.bits))))
  | _=>none
inductive VI where
 | mov
 | bin (op:BinOp)
 | sh (op:BinOp)
 | eqB (neg:Bool)
 | eqS (neg:Bool) (ks:List Bool)
 | not
 | neg
 | conv (k:IntKind)
 | pick
 | faddr (off:Nat)
 | iaddr (n sz:Nat)
 | iaddrS (sz:Nat)
 | idx (n sz:Nat) (isAgg:Bool)
 | fld (off n:Nat) (isAgg:Bool)
 | build (zero:List AV) (parts:List (Nat × Nat))
 | len
 | lenA (n:Nat)
 | ext (i:Nat)
 | mkfn (f:Nat) (nfirst:Nat)
 | min | max
 | slice (sz:Nat) (lo hi mx:Bool)
 | nilChk
 | isNil (neg:Bool)
def Zg3 (o:Nat):AV→Option AV
 | .loc t off=>some (.loc t (off+o))
 | .ptr id off=>some (.ptr id (off+o))
 | .optr sz id ver i off=>some (.optr sz id ver i (off+o))
 | .ppt sz rows i off=>some (.ppt sz rows i (off+o))
 | _=>none
def ZaE:List Bool→List AV→List AV→Option Bool
 | [],[],[]=>some true
 | true::ks,.p (.int k a)::r,.p (.int k' b)::r'=>if k=k' then (ZaE ks r r').map ((a==b) && ·) else none
 | false::ks,.p (.bool a)::r,.p (.bool b)::r'=>(ZaE ks r r').map ((a==b) && ·)
 | _,_,_=>none
def ZaF (cells:List AV):List (Nat × Nat)→List AV→Option (List AV)
 | [],[]=>some cells
 | (off,n)::ps,v::vs =>
  if (cellsOf v).length=n∧ZE (cellsOf v)=true then (Zaz off (cellsOf v) cells).bind fun c=>ZaF c ps vs else none
 | _,_=>none
def ZdR (sz:Nat):List AV→Option (List (List PC))
 | []=>some []
 | v::vs=>if (cellsOf v).length=sz then (unP (cellsOf v)).bind fun r=>(ZdR sz vs).map (r :: ·) else none
def minI:List AV→Option AV
 | [.p (.int k a),.p (.int _ b)]=>some (.p (.int k (if b<a then b else a)))
 | [.p (.int k a),.p (.int _ b),.p (.int _ c)]=>some (.p (.int k (if c<(if b<a then b else a) then c else (if b<a then b else a))))
 | _=>none
def maxI:List AV→Option AV
 | [.p (.int k a),.p (.int _ b)]=>some (.p (.int k (if b > a then b else a)))
 | [.p (.int k a),.p (.int _ b),.p (.int _ c)]=>some (.p (.int k (if c > (if b > a then b else a) then c else (if b > a then b else a))))
 | _=>none
def ZcM (given:Bool) (dflt:Nat) (vs:List AV):Option (Nat × List AV) :=
 if given then match vs with
  | .p (.int _ n)::r=>if 0≤n then some (n.toNat,r) else none
  | _=>none
 else some (dflt,vs)
def Zfn (sz:Nat) (lo hi mx:Bool) (x:AV) (vs:List AV):Option AV :=
 match x with
 | .p (.sl sz' _ rows) =>
  (ZcM lo 0 vs).bind fun (l,vs)=>(ZcM hi rows.length vs).bind fun (h,vs)=>(ZcM mx h vs).bind fun (m,vs) =>
  if vs.isEmpty∧l≤h∧h≤rows.length∧m=h∧sz'=sz∧(mx=true→hi=true) then some (.p (.sl sz mx ((rows.take h).drop l))) else none
 | .osl sz' id ver off len =>
  (ZcM lo 0 vs).bind fun (l,vs)=>(ZcM hi len vs).bind fun (h,vs) =>
  if vs.isEmpty∧mx=false∧l≤h∧h≤len∧(l=0∨l<len)∧sz'=sz then some (.osl sz id ver (off+l) (h - l)) else none
 | _=>none
def ZQ (v:VI) (xs:List AV):Option AV :=
 match v with
 | .mov=>match xs with
  | [x]=>some x
  | _=>none
 | .bin op=>match xs with
  | [.p (.int k a),.p (.int k' b)]=>if k=k' then (binI op k a b).map .p else none
  | _=>none
 | .sh op=>match xs with
  | [.p (.int k a),.p (.int _ b)]=>(shI op k a b).map .p
  | _=>none
 | .eqB neg=>match xs with
  | [.p (.bool a),.p (.bool b)]=>some (.p (.bool (if neg then a != b else a==b)))
  | _=>none
 | .eqS neg ks=>match xs with
  | [.agg a,.agg b]=>(ZaE ks a b).map fun e=>.p (.bool (if neg then !e else e))
  | _=>none
 | .not=>match xs with
  | [.p (.bool a)]=>some (.p (.bool !a))
  | _=>none
 | .neg=>match xs with
  | [.p (.int k a)]=>some (.p (.int k (k.wrap (0 - a))))
  | _=>none
 | .conv k=>match xs with
  | [.p (.int _ a)]=>some (.p (.int k (k.wrap a)))
  | _=>none
 | .pick=>match xs with
  | [.p (.bool c),a,b]=>some (if c then a else b)
  | _=>none
 | .faddr off=>match xs with
  | [x]=>Zg3 off x
  | _=>none
 | .iaddr n sz=>match xs with
  | [x,.p (.int _ i)]=>if 0≤i∧i<n then Zg3 (i.toNat * sz) x else none
  | _=>none
 | .iaddrS sz=>match xs with
  | [.p (.sl sz' _ rows),.p (.int _ i)]=>if sz'=sz∧0≤i∧i<rows.length then some (.ppt sz rows i.toNat 0) else none
  | [.osl sz' id ver off len,.p (.int _ i)]=>if sz'=sz∧0≤i∧i<len then some (.optr sz id ver (off+i.toNat) 0) else none
  | [.csl id n,.p (.int _ i)]=>if sz=1∧0≤i∧i<n then some (.ptr id i.toNat) else none
  | _=>none
 | .idx n sz isAgg=>match xs with
  | [.agg cs,.p (.int _ i)]=>if 0≤i∧i<n then (sub (i.toNat * sz) sz cs).bind (mk isAgg) else none
  | _=>none
 | .fld off n isAgg=>match xs with
  | [.agg cs]=>(sub off n cs).bind (mk isAgg)
  | _=>none
 | .build zero parts=>(ZaF zero parts xs).map .agg
 | .len=>match xs with
  | [.p (.sl _ _ rows)]=>some (.p (.int .i64 rows.length))
  | [.osl _ _ _ _ len]=>some (.p (.int .i64 len))
  | [.csl _ n]=>some (.p (.int .i64 n))
  | _=>none
 | .lenA n=>some (.p (.int .i64 n))
 | .ext i=>match xs with
  | [.tup vs]=>vs[i]?
  | _=>none
 | .mkfn f nfirst=>if noLocL xs then some (.fn f (xs.take nfirst) (xs.drop nfirst)) else none
 | .min=>minI xs
 | .max=>maxI xs
 | .slice sz lo hi mx=>match xs with
  | x::vs=>Zfn sz lo hi mx x vs
  | _=>none
 | .nilChk=>match xs with
  | [.loc t o]=>some (.loc t o)
  | [.ptr i o]=>some (.ptr i o)
  | [.optr sz i v j o]=>some (.optr sz i v j o)
  | [.fn f a b]=>some (.fn f a b)
  | [.yl i]=>some (.yl i)
  | _=>none
 | .isNil neg=>match xs with
  | [.nl .nilSl]=>some (.p (.bool (!neg)))
  | [.p (.sl _ _ (_::_))]=>some (.p (.bool neg))
  | _=>none
inductive SpK where
 | mkMap
 | mapGet (kn:Nat) (ok:Bool) (zero:AV)
 | mapSet (kn:Nat)
 | litC
 | mkP (n:Nat) (zero:List PC) (bytes:Nat)
 | range
 | next
 | entry
inductive Ins where
 | val (d:Nat) (v:VI) (xs:List IX)
 | load (d:Nat) (x:IX) (n:Nat) (isAgg:Bool)
 | loadL (d:Nat) (x:IX) (n:Nat) (isAgg:Bool)
 | loadH (d:Nat) (x:IX) (n:Nat) (isAgg:Bool)
 | loadI (d:Nat) (x:IX) (n:Nat) (isAgg:Bool)
 | store (x y:IX) (n:Nat)
 | storeH (x y:IX) (n:Nat)
 | newL (d:Nat) (zero:List AV)
 | boxL (d:Nat) (x:IX)
 | newH (d:Nat) (zero:List AV)
 | boxH (d:Nat) (x:IX)
 | mkSl (d:Nat) (n c:IX) (zero:List PC) (bytes:Nat)
 | app (d:Nat) (s x:IX) (sz bytes:Nat)
 | appN (d:Nat) (s x:IX) (sz bytes:Nat)
 | litSl (d:Nat) (sz:Nat) (xs:List IX)
 | litP (d:Nat) (sz:Nat) (xs:List IX)
 | call (d:Option Nat) (f:Nat) (xs:List IX)
 | callP (d:Nat) (f:Nat) (xs:List IX)
 | callQ (d:Nat) (f:Nat) (xs:List IX)
 | callV (d:Option Nat) (f:IX) (xs:List IX)
 | callY (d:Option Nat) (f:IX) (xs:List IX)
 | sp (d:Option Nat) (q:SpK) (xs:List IX)
structure IOp where
 g:Option (Nat × Bool)
 i:Ins
 pre:List Nat:=[]
 bn:Option Nat:=none
def adrI:Ins→Option IX
 | .load _ x _ _ | .loadL _ x _ _ | .store x _ _ | .storeH x _ _=>some x
 | _=>none
def bnOK (o:IOp) (fr:List (Nat × AV)):Bool:=match o.bn with
 | none=>true
 | some b=>match adrI o.i with
  | some x=>(match ev fr x with
   | .loc t _=>t==b
   | _=>false)
  | none=>false
inductive IC where
 | skip
 | reg (ops:List IOp) (keep:List Nat)
 | regD (ops:List IOp) (keep:List Nat)
 | regF (fs:List Nat) (ops:List IOp) (keep:List Nat)
 | seq (a b:IC)
 | cond (x:IX) (a b:IC)
 | block (id:Nat) (a:IC)
 | loop (a:IC)
 | exit (id:Nat)
 | scope (a:IC)
 | label (l:Nat)
 | goto (l:Nat)
 | ret
 | kp (ks:List Nat) (a:IC)
 | pu (fs:List Nat) (a:IC)
 | rangeF (x:IX) (ps:List Nat) (assign body:IC)
 | box (a:IC)
def rd (bx:List (Nat × List AV)) (H:List HO) (n:Nat):AV→Option (List AV)
 | .loc t off=>(bget bx t).bind (sub off n)
 | .ptr id off=>match H[id]? with
  | some (.cells cs)=>sub off n cs
  | _=>none
 | .optr sz id ver i off=>match H[id]? with
  | some (.arr sz' ver' _ rows)=>if sz'=sz∧ver'=ver then (rows[i]?).bind fun r=>(sub off n r).map (·.map .p) else none
  | _=>none
 | .ppt _ rows i off=>(rows[i]?).bind fun r=>(sub off n r).map (·.map .p)
 | _=>none
structure Mem where
 bx:List (Nat × List AV)
 H:List HO
def wrt (bx:List (Nat × List AV)) (H:List HO) (cs:List AV):AV→Option Mem
 | .loc t off=>(bget bx t).bind fun b=>(Zaz off cs b).map fun b'=>⟨bput bx t b',H⟩
 | .ptr id off=>match H[id]? with
  | some (.cells b)=>(Zaz off cs b).map fun b'=>⟨bx,H.set id (.cells b')⟩
  | _=>none
 | .optr sz id ver i off=>match H[id]? with
  | some (.arr sz' ver' false rows) =>
   if sz'=sz∧ver'=ver then (rows[i]?).bind fun r=>(unP cs).bind fun ps=>(Zaz off ps r).map fun r'=>⟨bx,H.set id (.arr sz ver false (rows.set i r'))⟩
   else none
  | _=>none
 | _=>none
def ZdS (H:List HO) (sz:Nat):AV→Option (List (List PC))
 | .p (.sl sz' _ rows)=>if sz'=sz then some rows else none
 | .osl sz0 id ver off len=>match H[id]? with
  | some (.arr sz' ver' _ rows)=>if sz0=sz∧sz'=sz∧ver'=ver then sub off len rows else none
  | _=>none
 | _=>none
def appV (H:List HO) (sz bytes:Nat) (s:AV) (new:List (List PC)):Option (AV × List HO) :=
 match s with
 | .p (.sl sz' full rows) =>
  if sz'=sz∧full=true∧(rows.length+new.length) * bytes≤140737488355328∧rows.length+new.length≤140737488355328 then
   if new=[] then some (s,H) else some (.osl sz H.length 0 0 (rows.length+new.length),H++[.arr sz 0 false (rows++new)])
  else none
 | .osl sz0 id ver off len=>match H[id]? with
  | some (.arr sz' ver' frz rows) =>
   if sz0=sz∧sz'=sz∧ver'=ver∧off=0∧(len+new.length) * bytes≤140737488355328∧len+new.length≤140737488355328∧len=rows.length then
    some (.osl sz id (ver+1) 0 (len+new.length),H.set id (.arr sz (ver+1) frz (rows++new)))
   else none
  | _=>none
 | _=>none
def Zkk:AV→Bool
 | .loc .. => true
 | _=>false
def putO (fr:List (Nat × AV)):Option Nat→AV→List (Nat × AV)
 | some d,v=>put fr d v
 | none,_=>fr
def dstI:Ins→Option Nat
 | .val d _ _ | .load d _ _ _ | .loadL d _ _ _ | .loadH d _ _ _ | .loadI d _ _ _ | .appN d _ _ _ _ | .newL d _ | .boxL d _ | .newH d _ | .boxH d _ | .mkSl d _ _ _ _ | .app d _ _ _ _ | .litSl d _ _ | .litP d _ _ | .callP d _ _ | .callQ d _ _=>some d
 | .store .. | .storeH .. => none
 | .call d _ _ | .callV d _ _ | .callY d _ _ | .sp d _ _=>d
def ZS (i:Ins) (s:St):Option St :=
 match i with
 | .val d v xs=>(ZQ v (xs.map (ev s.fr))).map fun r=>{ s with fr:=put s.fr d r }
 | .load d x n isAgg=>(rd s.bx s.H n (ev s.fr x)).bind fun cs=>if ZE cs=true then (mk isAgg cs).map fun r=>{ s with fr:=put s.fr d r } else none
 | .loadL d x n isAgg=>match ev s.fr x with
  | .loc t off=>(rd s.bx [] n (.loc t off)).bind fun cs=>if ZE cs=true then (mk isAgg cs).map fun r=>{ s with fr:=put s.fr d r } else none
  | _=>none
 | .loadH d x n isAgg=>if Zkk (ev s.fr x)=true then none else (rd [] s.H n (ev s.fr x)).bind fun cs=>if ZE cs=true then (mk isAgg cs).map fun r=>{ s with fr:=put s.fr d r } else none
 | .loadI d x n isAgg=>match ev s.fr x with
  | .ppt sz rows i off=>(rd [] [] n (.ppt sz rows i off)).bind fun cs=>if ZE cs=true then (mk isAgg cs).map fun r=>{ s with fr:=put s.fr d r } else none
  | _=>none
 | .store x y n =>
  if (cellsOf (ev s.fr y)).length=n∧ZE (cellsOf (ev s.fr y))=true then
   (wrt s.bx s.H (cellsOf (ev s.fr y)) (ev s.fr x)).map fun m=>⟨s.fr,m.bx,m.H⟩
  else none
 | .storeH x y n =>
  if Zkk (ev s.fr x)=false∧(cellsOf (ev s.fr y)).length=n∧ZE (cellsOf (ev s.fr y))=true then
   (wrt s.bx s.H (cellsOf (ev s.fr y)) (ev s.fr x)).map fun m=>⟨s.fr,m.bx,m.H⟩
  else none
 | .newL d zero=>some ⟨put (ZcP d s.fr) d (.loc d 0),bput s.bx d zero,s.H⟩
 | .boxL d x =>
  if ZE (cellsOf (ev s.fr x))=true then some ⟨put (ZcP d s.fr) d (.loc d 0),bput s.bx d (cellsOf (ev s.fr x)),s.H⟩ else none
 | .newH d zero=>some ⟨put s.fr d (.ptr s.H.length 0),s.bx,s.H++[.cells zero]⟩
 | .boxH d x =>
  if ZE (cellsOf (ev s.fr x))=true then some ⟨put s.fr d (.ptr s.H.length 0),s.bx,s.H++[.cells (cellsOf (ev s.fr x))]⟩ else none
 | .mkSl d n c zero bytes=>match ev s.fr n,ev s.fr c with
  | .p (.int .i64 n),.p (.int .i64 c) =>
   if 0≤n∧n≤c∧c * bytes≤140737488355328∧c≤140737488355328 then
    some ⟨put s.fr d (.osl zero.length s.H.length 0 0 n.toNat),s.bx,s.H++[.arr zero.length 0 false (List.replicate n.toNat zero)]⟩
   else none
  | _,_=>none
 | .app d x y sz bytes =>
  (ZdS s.H sz (ev s.fr y)).bind fun new=>(appV s.H sz bytes (ev s.fr x) new).map fun (v,H)=>⟨put s.fr d v,s.bx,H⟩
 | .appN d x y sz bytes=>match ev s.fr x with
  | .p (.sl a true b)=>(ZdS s.H sz (ev s.fr y)).bind fun new=>(appV s.H sz bytes (.p (.sl a true b)) new).map fun (v,H)=>⟨put s.fr d v,s.bx,H⟩
  | _=>none
 | .litSl d sz xs=>(ZdR sz (xs.map (ev s.fr))).map fun rows=>⟨put s.fr d (.osl sz s.H.length 0 0 rows.length),s.bx,s.H++[.arr sz 0 false rows]⟩
 | .litP d sz xs=>(ZdR sz (xs.map (ev s.fr))).map fun rows=>⟨put s.fr d (.p (.sl sz true rows)),s.bx,s.H⟩
 | .call .. | .callP .. | .callQ .. | .callV .. | .callY .. | .sp .. => none
def Zj5 (H:List HO):AV→Option AV
 | .p x=>some (.p (weakP x))
 | .nl x=>some (.nl x)
 | .osl sz id ver off len=>match H[id]? with
  | some (.arr sz' ver' _ rows)=>if sz'=sz∧ver'=ver then (sub off len rows).map fun r=>.p (.sl sz false r) else none
  | _=>none
 | _=>none
def Zhf (H:List HO):List AV→Option (List AV)
 | []=>some []
 | c::cs=>(Zj5 H c).bind fun x=>(Zhf H cs).map (x :: ·)
def Zgs (H:List HO):AV→Option AV
 | .agg cs=>(Zhf H cs).map .agg
 | v=>Zj5 H v
inductive RV where
 | tmp (t:Nat)
 | cell (t n:Nat) (isAgg:Bool)
def resV (s:St):RV→Option AV
 | .tmp t=>Zgs s.H (get s.fr t)
 | .cell t n isAgg=>((rd s.bx s.H n (get s.fr t)).bind (mk isAgg)).bind (Zgs s.H)
def resL (s:St):List RV→Option (List AV)
 | []=>some []
 | r::rs=>(resV s r).bind fun v=>(resL s rs).map (v :: ·)
def ZeZ:List AV→Nat→List (Nat × AV)
 | [],_=>[]
 | v::vs,i=>(i,v)::ZeZ vs (i+1)
def rawV (s:St):RV→Option AV
 | .tmp t=>some (get s.fr t)
 | .cell t n isAgg=>(rd s.bx s.H n (get s.fr t)).bind (mk isAgg)
def rawL (s:St):List RV→Option (List AV)
 | []=>some []
 | r::rs=>(rawV s r).bind fun v=>(rawL s rs).map (v :: ·)
def ZaH:List AV→AV
 | [v]=>v
 | vs=>.tup vs
structure IFn where
 nargs:Nat
 nt:Nat
 body:IC
 res:List RV
def frz1 (H:List HO):AV→Option (AV × List HO)
 | .p x=>some (.p (weakP x),H)
 | .nl x=>some (.nl x,H)
 | .ptr id off=>some (.ptr id off,H)
 | .fn f a b=>if noLocL a&&noLocL b then some (.fn f a b,H) else none
 | .yl id=>some (.yl id,H)
 | .map id=>some (.map id,H)
 | .osl sz id ver off len=>match H[id]? with
  | some (.arr sz' ver' _ rows)=>if sz'=sz∧ver'=ver then (sub off len rows).map fun r=>(.p (.sl sz false r),H.set id (.arr sz ver true rows)) else none
  | _=>none
 | _=>none
def frzC (H:List HO):List AV→Option (List AV × List HO)
 | []=>some ([],H)
 | c::cs=>(frz1 H c).bind fun (x,H)=>(frzC H cs).map fun (xs,H)=>(x::xs,H)
def frzV (H:List HO):AV→Option (AV × List HO)
 | .agg cs=>(frzC H cs).map fun (cs,H)=>(.agg cs,H)
 | v=>frz1 H v
def frzL (H:List HO):List AV→Option (List AV × List HO)
 | []=>some ([],H)
 | c::cs=>(frzV H c).bind fun (x,H)=>(frzL H cs).map fun (xs,H)=>(x::xs,H)
def FrzC (H:List HO):List AV→List AV→Prop
 | [],ys=>ys=[]
 | c::cs,ys=>∃ x xs,ys=x::xs∧frz1 H c=some (x,H)∧FrzC H cs xs
def FrzQ (H:List HO) (v y:AV):Prop:=match v with
 | .agg cs=>∃ xs,y = .agg xs∧FrzC H cs xs
 | v=>frz1 H v=some (y,H)
def FrzL (H:List HO):List AV→List AV→Prop
 | [],ys=>ys=[]
 | c::cs,ys=>∃ x xs,ys=x::xs∧FrzQ H c x∧FrzL H cs xs
def ZlB (raw:Bool) (H:List HO) (c:AV):Option (AV × List HO):=if raw then (if ZK c then some (c,H) else none) else frz1 H c
def Zjn:List Bool→List HO→List AV→Option (List AV × List HO)
 | _,H,[]=>some ([],H)
 | fl,H,c::cs=>(ZlB (fl.headD false) H c).bind fun (x,H)=>(Zjn fl.tail H cs).map fun (xs,H)=>(x::xs,H)
def Zj8 (fl:List Bool) (H:List HO):AV→Option (AV × List HO)
 | .agg cs=>(Zjn fl H cs).map fun (cs,H)=>(.agg cs,H)
 | v=>ZlB (fl.headD false) H v
def Zgu:List (List Bool)→List HO→List AV→Option (List AV × List HO)
 | _,H,[]=>some ([],H)
 | fl,H,c::cs=>(Zj8 (fl.headD []) H c).bind fun (x,H)=>(Zgu fl.tail H cs).map fun (xs,H)=>(x::xs,H)
def Pass (H:List HO) (xs xs':List AV) (H':List HO):Prop:=∃ fl,Zgu fl H xs=some (xs',H')
def ZeU:AV→Bool
 | .p _ | .nl _=>true
 | _=>false
def ZeT:List AV→Bool
 | []=>true
 | c::cs=>ZeU c&&ZeT cs
def ZeV:AV→Bool
 | .agg cs=>ZeT cs
 | v=>ZeU v
def Zeg:List AV→Bool
 | []=>true
 | c::cs=>ZeV c&&Zeg cs
def ZeS:AV→Bool
 | .tup vs=>Zeg vs
 | v=>ZeV v
end Go.Eng

