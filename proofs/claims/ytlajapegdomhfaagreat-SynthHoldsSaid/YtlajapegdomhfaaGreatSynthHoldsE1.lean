/-Part of the proof. -/
import GoSem.Step
import Derived.Orders
import Derived.Laws.Cells
import Derived.Laws.CopyRow
import Derived.Below
import Derived.MapKept
import Derived.Laws.Entries
import Derived.Laws.StructEq
import Derived.ChangeKeysEq
set_option linter.all false
namespace Go.Eng
theorem Za:type_of%@Array.getD_eq_getD_getElem?:=@Array.getD_eq_getD_getElem?
theorem Zb:type_of%@Array.getElem?_eq_getElem:=@Array.getElem?_eq_getElem
theorem Zc:type_of%@Array.getElem?_setIfInBounds_ne:=@Array.getElem?_setIfInBounds_ne
theorem Zd:type_of%@Array.length_toList:=@Array.length_toList
theorem Ze:type_of%@Bool.and_eq_true:=@Bool.and_eq_true
theorem Zf:type_of%@Bool.eq_iff_iff:=@Bool.eq_iff_iff
theorem Zg:type_of%@Bool.false_eq_true:=@Bool.false_eq_true
theorem Zh:type_of%@Bool.not_eq_true':=@Bool.not_eq_true'
theorem Zi:type_of%@Bool.not_true:=@Bool.not_true
theorem Zj:type_of%@Bool.or_eq_true:=@Bool.or_eq_true
theorem Zk:type_of%@Bool.true_and:=@Bool.true_and
theorem Zl:type_of%@Int.add_mul:=@Int.add_mul
theorem Zm:type_of%@Int.mul_comm:=@Int.mul_comm
theorem Zn:type_of%@Int.tdiv_eq_ediv_of_nonneg:=@Int.tdiv_eq_ediv_of_nonneg
theorem Zo:type_of%@Int.tmod_eq_emod_of_nonneg:=@Int.tmod_eq_emod_of_nonneg
theorem Zp:type_of%@Int.toNat_natCast:=@Int.toNat_natCast
theorem Zq:type_of%@Int.toNat_of_nonneg:=@Int.toNat_of_nonneg
theorem Zr:type_of%@List.all_eq_true:=@List.all_eq_true
theorem Zs:type_of%@List.append_assoc:=@List.append_assoc
theorem Zt:type_of%@List.cons.injEq:=@List.cons.injEq
theorem Zu:type_of%@List.cons_append:=@List.cons_append
theorem Zv:type_of%@List.contains_iff_mem:=@List.contains_iff_mem
theorem Zw:type_of%@List.drop_zero:=@List.drop_zero
theorem Zx:type_of%@List.find?_cons:=@List.find?_cons
theorem Zy:type_of%@List.foldl_cons:=@List.foldl_cons
theorem Zz:type_of%@List.getD_eq_getElem?_getD:=@List.getD_eq_getElem?_getD
theorem ZA:type_of%@List.getElem?_append_left:=@List.getElem?_append_left
theorem ZB:type_of%@List.getElem?_append_right:=@List.getElem?_append_right
theorem ZC:type_of%@List.getElem?_cons_succ:=@List.getElem?_cons_succ
theorem ZD:type_of%@List.getElem?_cons_zero:=@List.getElem?_cons_zero
theorem ZE:type_of%@List.getElem?_drop:=@List.getElem?_drop
theorem ZF:type_of%@List.getElem?_eq_getElem:=@List.getElem?_eq_getElem
theorem ZG:type_of%@List.getElem?_eq_none:=@List.getElem?_eq_none
theorem ZH:type_of%@List.getElem?_map:=@List.getElem?_map
theorem ZI:type_of%@List.getElem?_replicate:=@List.getElem?_replicate
theorem ZJ:type_of%@List.getElem?_set:=@List.getElem?_set
theorem ZK:type_of%@List.getElem?_set_ne:=@List.getElem?_set_ne
theorem ZL:type_of%@List.getElem?_take:=@List.getElem?_take
theorem ZM:type_of%@List.length_append:=@List.length_append
theorem ZN:type_of%@List.length_cons:=@List.length_cons
theorem ZO:type_of%@List.length_map:=@List.length_map
theorem ZP:type_of%@List.length_nil:=@List.length_nil
theorem ZQ:type_of%@List.length_range:=@List.length_range
theorem ZR:type_of%@List.length_singleton:=@List.length_singleton
theorem ZS:type_of%@List.length_take:=@List.length_take
theorem ZT:type_of%@List.map_append:=@List.map_append
theorem ZU:type_of%@List.map_cons:=@List.map_cons
theorem ZV:type_of%@List.map_nil:=@List.map_nil
theorem ZW:type_of%@List.mem_range:=@List.mem_range
theorem ZX:type_of%@List.mem_singleton:=@List.mem_singleton
theorem ZY:type_of%@List.nil_append:=@List.nil_append
theorem ZZ:type_of%@List.range'_succ:=@List.range'_succ
theorem Z0:type_of%@List.range_eq_range':=@List.range_eq_range'
theorem Z1:type_of%@List.set_append_right:=@List.set_append_right
theorem Z2:type_of%@List.take_append_of_le_length:=@List.take_append_of_le_length
theorem Z3:type_of%@List.take_length:=@List.take_length
theorem Z4:type_of%@List.take_of_length_le:=@List.take_of_length_le
theorem Z5:type_of%@List.take_succ_eq_append_getElem:=@List.take_succ_eq_append_getElem
theorem Z6:type_of%@Nat.add_mul:=@Nat.add_mul
theorem Z7:type_of%@Nat.zero_add:=@Nat.zero_add
theorem Z8:type_of%@Option.bind_some:=@Option.bind_some
theorem Z9:type_of%@Option.getD_some:=@Option.getD_some
theorem Zaa:type_of%@Option.map_some:=@Option.map_some
theorem Zab:type_of%@Option.some.injEq:=@Option.some.injEq
theorem Zac:type_of%@Prod.mk.injEq:=@Prod.mk.injEq
theorem Zad:type_of%@and_true:=@and_true
theorem Zae:type_of%@bne_self_eq_false:=@bne_self_eq_false
theorem Zaf:type_of%@decide_eq_true:=@decide_eq_true
theorem Zag:type_of%@decide_eq_true_eq:=@decide_eq_true_eq
theorem Zah:type_of%@if_false:=@if_false
theorem Zai:type_of%@if_neg:=@if_neg
theorem Zaj:type_of%@if_pos:=@if_pos
theorem Zak:type_of%@if_true:=@if_true
inductive PC where
 |int (k:IntKind) (n:Int)
 |bool (b:Bool)
 |sl (sz:Nat) (full:Bool) (rows:List (List PC))
 |ow (sz id ver len:Nat)
inductive NL where
 |nilFunc|nilIface|nilPtr|nilMap|unit|nilSl
def NL.val:NL->Value
 |.nilFunc=>.nilFunc
 |.nilIface=>.nilIface
 |.nilPtr=>.pointer none
 |.nilMap=>.map none
 |.unit=>.tuple #[]
 |.nilSl=>.slice none 0 0
inductive AV where
 |any
 |p (x:PC)
 |nl (x:NL)
 |agg (cs:List AV)
 |tup (vs:List AV)
 |osl (sz id ver off len:Nat)
 |optr (sz id ver i off:Nat)
 |ppt (sz:Nat) (rows:List (List PC)) (i off:Nat)
 |ptr (id off:Nat)
 |loc (t off:Nat)
 |fn (f:Nat) (first cap:List AV)
 |map (id:Nat)
 |yl (id:Nat)
 |csl (id n:Nat)
structure LC where
 ps:List Nat
 n:Nat
 ok:Code->Code->Prop
 mpk:Bool:=false
inductive LS where
 |ready|busy|dead
 |done (c:Code)
 |mp (kn:Nat) (es:List (List Int×AV))
 |mps (kn:Nat) (es:List (List Int×AV)) (bs:List Nat) (clock:Nat)
 |it (m since:Nat) (seen:List Nat) (last:Nat)
 |itd
inductive HO where
 |arr (sz ver:Nat) (frz:Bool) (rows:List (List PC))
 |cells (cs:List AV)
 |lp (L:LC) (fr:List (Nat×AV)) (st:LS)
structure St where
 fr:List (Nat×AV)
 bx:List (Nat×List AV)
 H:List HO
def get:List (Nat×AV)->Nat->AV
 |[],_=>.any
 |(u,v)::r,t=>if u=t then v else get r t
def put:List (Nat×AV)->Nat->AV->List (Nat×AV)
 |[],t,v=>[(t,v)]
 |(u,x)::r,t,v=>if t<u then(t,v)::(u,x)::r else if t=u then(t,v)::r else(u,x)::put r t v
def bget:List (Nat×List AV)->Nat->Option (List AV)
 |[],_=>none
 |(u,v)::r,t=>if u=t then some v else bget r t
def bput:List (Nat×List AV)->Nat->List AV->List (Nat×List AV)
 |[],t,v=>[(t,v)]
 |(u,x)::r,t,v=>if t<u then(t,v)::(u,x)::r else if t=u then(t,v)::r else(u,x)::bput r t v
def Zf2 (t:Nat):List (Nat×AV)->List (Nat×AV)
 |[]=>[]
 |(u,v)::r=>match v with
  |.loc t' _=>if t'=t then(u,.any)::Zf2 t r else(u,v)::Zf2 t r
  |_=>(u,v)::Zf2 t r
def Znv (ks:List Nat):List (Nat×AV)->List (Nat×AV)
 |[]=>[]
 |(u,v)::r=>if ks.elem u then(u,v)::Znv ks r else Znv ks r
def Ztu (ks:List Nat):List (Nat×List AV)->List (Nat×List AV)
 |[]=>[]
 |(u,v)::r=>if ks.elem u then(u,v)::Ztu ks r else Ztu ks r
def sub {α:Type}(off n:Nat)(l:List α):Option (List α):=
 if off+n<=l.length then some ((l.drop off).take n)else none
def ZbU {α:Type}(off:Nat)(cs l:List α):Option (List α):=
 if off+cs.length<=l.length then some (l.take off++cs++l.drop (off+cs.length))else none
def ZaV:AV->Bool
 |.loc .. =>false
 |.agg cs=>noLocL cs
 |.tup cs=>noLocL cs
 |.fn _ a b=>noLocL a&&noLocL b
 |_=>true
 where noLocL:List AV->Bool
 |[]=>true
 |c::cs=>ZaV c&&noLocL cs
abbrev noLocL:=ZaV.noLocL
def ZdG:AV->Bool
 |.p _|.nl .nilFunc|.nl .nilIface|.nl .nilPtr|.nl .nilMap|.nl .nilSl|.osl .. |.ptr .. |.map _|.yl _|.csl .. =>true
 |.fn _ a b=>noLocL a&&noLocL b
 |_=>false
def ZaL:List AV->Bool
 |[]=>true
 |c::cs=>ZdG c&&ZaL cs
def cellsOf:AV->List AV
 |.agg cs=>cs
 |v=>[v]
def mk (isAgg:Bool)(cs:List AV):Option AV:=
 if isAgg then some (.agg cs)else match cs with
  |[c]=>some c
  |_=>none
def weakP:PC->PC
 |.sl sz _ rows=>.sl sz false rows
 |x=>x
def weak1:AV->AV
 |.p x=>.p (weakP x)
 |x=>x
def weakL:List AV->List AV
 |[]=>[]
 |c::cs=>weak1 c::weakL cs
def weakV:AV->AV
 |.agg cs=>.agg (weakL cs)
 |v=>weak1 v
def weakVs:List AV->List AV
 |[]=>[]
 |c::cs=>weakV c::weakVs cs
def isOw:PC->Bool
 |.ow .. =>true
 |_=>false
def up:PC->AV
 |.ow sz id ver len=>.osl sz id ver 0 len
 |x=>.p x
def Znp:List PC->Bool
 |[]=>true
 |x::xs=>!isOw x&&Znp xs
def Zr0:List (List PC)->Bool
 |[]=>true
 |r::rs=>Znp r&&Zr0 rs
def unP:List AV->Option (List PC)
 |[]=>some []
 |.p x::r=>if isOw x then none else(unP r).map (weakP x:: ·)
 |.osl sz id ver off len::r=>if off=0 then(unP r).map (.ow sz id ver len:: ·)else none
 |_::_=>none
inductive IX where
 |t (n:Nat)
 |k (v:AV)
def ev (fr:List (Nat×AV)):IX->AV
 |.t n=>get fr n
 |.k v=>v
def binI (op:BinOp)(k:IntKind)(a b:Int):Option PC:=
 match op with
 |.add=>some (.int k (k.wrap (a+b)))
 |.sub=>some (.int k (k.wrap (a-b)))
 |.mul=>some (.int k (k.wrap (a*b)))
 |.quo=>if b=0 then none else some (.int k (k.wrap (a.tdiv b)))
 |.rem=>if b=0 then none else some (.int k (a.tmod b))
 |.and=>some (.int k (k.wrap (BitVec.ofInt k.bits a&&&BitVec.ofInt k.bits b).toNat))
 |.or=>some (.int k (k.wrap (BitVec.ofInt k.bits a|||BitVec.ofInt k.bits b).toNat))
 |.xor=>some (.int k (k.wrap (BitVec.ofInt k.bits a ^^^ BitVec.ofInt k.bits b).toNat))
 |.eql=>some (.bool (a==b))
 |.neq=>some (.bool (a !=b))
 |.lss=>some (.bool (a<b))
 |.leq=>some (.bool (a<=b))
 |.gtr=>some (.bool (a>b))
 |.geq=>some (.bool (a≥b))
 |_=>none
def shI (op:BinOp)(k:IntKind)(a b:Int):Option PC:=
 if b<0 then none else match op with
  |.shl=>some (.int k (k.wrap (a*2 ^ (min b.toNat k.bits))))
  |.shr=>some (.int k (a.fdiv (2 ^ (min b.toNat k.bits))))
  |_=>none
inductive VI where
 |mov
 |bin (op:BinOp)
 |sh (op:BinOp)
 |eqB (neg:Bool)
 |eqS (neg:Bool) (ks:List Bool)
 |not
 |neg
 |conv (k:IntKind)
 |pick
 |faddr (off:Nat)
 |iaddr (n sz:Nat)
 |iaddrS (sz:Nat)
 |idx (n sz:Nat) (isAgg:Bool)
 |fld (off n:Nat) (isAgg:Bool)
 |build (zero:List AV) (parts:List (Nat×Nat))
 |len
 |lenA (n:Nat)
 |ext (i:Nat)
 |mkfn (f:Nat) (nfirst:Nat)
 |min|max
 |slice (sz:Nat) (lo hi mx:Bool)
 |nilChk
 |isNil (neg:Bool)
def Zn5 (o:Nat):AV->Option AV
 |.loc t off=>some (.loc t (off+o))
 |.ptr id off=>some (.ptr id (off+o))
 |.optr sz id ver i off=>some (.optr sz id ver i (off+o))
 |.ppt sz rows i off=>some (.ppt sz rows i (off+o))
 |_=>none
def Zcw:List Bool->List AV->List AV->Option Bool
 |[],[],[]=>some true
 |true::ks,.p (.int k a)::r,.p (.int k' b)::r'=>if k=k' then(Zcw ks r r').map ((a==b)&& ·)else none
 |false::ks,.p (.bool a)::r,.p (.bool b)::r'=>(Zcw ks r r').map ((a==b)&& ·)
 |_,_,_=>none
def Zcx (cells:List AV):List (Nat×Nat)->List AV->Option (List AV)
 |[],[]=>some cells
 |(off,n)::ps,v::vs=>
  if(cellsOf v).length=n/\ZaL (cellsOf v)=true then(ZbU off (cellsOf v) cells).bind λc=>Zcx c ps vs else none
 |_,_=>none
def Zj8 (un:List AV->Option (List PC))(sz:Nat):List AV->Option (List (List PC))
 |[]=>some []
 |v::vs=>if(cellsOf v).length=sz then(un (cellsOf v)).bind λr=>(Zj8 un sz vs).map (r:: ·)else none
abbrev ZnK:=Zj8 unP
def minI:List AV->Option AV
 |[.p (.int k a),.p (.int _ b)]=>some (.p (.int k (if b<a then b else a)))
 |[.p (.int k a),.p (.int _ b),.p (.int _ c)]=>some (.p (.int k (if c<(if b<a then b else a)then c else(if b<a then b else a))))
 |_=>none
def maxI:List AV->Option AV
 |[.p (.int k a),.p (.int _ b)]=>some (.p (.int k (if b>a then b else a)))
 |[.p (.int k a),.p (.int _ b),.p (.int _ c)]=>some (.p (.int k (if c>(if b>a then b else a)then c else(if b>a then b else a))))
 |_=>none
def Zgd (given:Bool)(dflt:Nat)(vs:List AV):Option (Nat×List AV):=
 if given then match vs with
  |.p (.int _ n)::r=>if 0<=n then some (n.toNat,r)else none
  |_=>none
 else some (dflt,vs)
def Zli (sz:Nat)(lo hi mx:Bool)(x:AV)(vs:List AV):Option AV:=
 match x with
 |.p (.sl sz' _ rows)=>
  (Zgd lo 0 vs).bind λ(l,vs)=>(Zgd hi rows.length vs).bind λ(h,vs)=>(Zgd mx h vs).bind λ(m,vs)=>
  if vs.isEmpty/\l<=h/\h<=rows.length/\m=h/\sz'=sz/\(mx=true->hi=true)then some (.p (.sl sz mx ((rows.take h).drop l)))else none
 |.osl sz' id ver off len=>
  (Zgd lo 0 vs).bind λ(l,vs)=>(Zgd hi len vs).bind λ(h,vs)=>
  if vs.isEmpty/\mx=false/\l<=h/\h<=len/\(l=0∨l<len)/\sz'=sz then some (.osl sz id ver (off+l) (h-l))else if vs.isEmpty/\mx=false/\l=len/\h=len/\sz'=sz then some (.p (.sl sz false []))else none
 |_=>none
def Za6 (v:VI)(xs:List AV):Option AV:=
 match v with
 |.mov=>match xs with
  |[x]=>some x
  |_=>none
 |.bin op=>match xs with
  |[.p (.int k a),.p (.int k' b)]=>if k=k' then(binI op k a b).map .p else none
  |_=>none
 |.sh op=>match xs with
  |[.p (.int k a),.p (.int _ b)]=>(shI op k a b).map .p
  |_=>none
 |.eqB neg=>match xs with
  |[.p (.bool a),.p (.bool b)]=>some (.p (.bool (if neg then a !=b else a==b)))
  |_=>none
 |.eqS neg ks=>match xs with
  |[.agg a,.agg b]=>(Zcw ks a b).map λe=>.p (.bool (if neg then !e else e))
  |_=>none
 |.not=>match xs with
  |[.p (.bool a)]=>some (.p (.bool !a))
  |_=>none
 |.neg=>match xs with
  |[.p (.int k a)]=>some (.p (.int k (k.wrap (0-a))))
  |_=>none
 |.conv k=>match xs with
  |[.p (.int _ a)]=>some (.p (.int k (k.wrap a)))
  |_=>none
 |.pick=>match xs with
  |[.p (.bool c),a,b]=>some (if c then a else b)
  |_=>none
 |.faddr off=>match xs with
  |[x]=>Zn5 off x
  |_=>none
 |.iaddr n sz=>match xs with
  |[x,.p (.int _ i)]=>if 0<=i/\i<n then Zn5 (i.toNat*sz) x else none
  |_=>none
 |.iaddrS sz=>match xs with
  |[.p (.sl sz' _ rows),.p (.int _ i)]=>if sz'=sz/\0<=i/\i<rows.length then some (.ppt sz rows i.toNat 0)else none
  |[.osl sz' id ver off len,.p (.int _ i)]=>if sz'=sz/\0<=i/\i<len then some (.optr sz id ver (off+i.toNat) 0)else none
  |[.csl id n,.p (.int _ i)]=>if sz=1/\0<=i/\i<n then some (.ptr id i.toNat)else none
  |_=>none
 |.idx n sz isAgg=>match xs with
  |[.agg cs,.p (.int _ i)]=>if 0<=i/\i<n then(sub (i.toNat*sz) sz cs).bind (mk isAgg)else none
  |_=>none
 |.fld off n isAgg=>match xs with
  |[.agg cs]=>(sub off n cs).bind (mk isAgg)
  |_=>none
 |.build zero parts=>(Zcx zero parts xs).map .agg
 |.len=>match xs with
  |[.p (.sl _ _ rows)]=>some (.p (.int .i64 rows.length))
  |[.osl _ _ _ _ len]=>some (.p (.int .i64 len))
  |[.csl _ n]=>some (.p (.int .i64 n))
  |_=>none
 |.lenA n=>some (.p (.int .i64 n))
 |.ext i=>match xs with
  |[.tup vs]=>vs[i]?
  |_=>none
 |.mkfn f nfirst=>if noLocL xs then some (.fn f (xs.take nfirst) (xs.drop nfirst))else none
 |.min=>minI xs
 |.max=>maxI xs
 |.slice sz lo hi mx=>match xs with
  |x::vs=>Zli sz lo hi mx x vs
  |_=>none
 |.nilChk=>match xs with
  |[.loc t o]=>some (.loc t o)
  |[.ptr i o]=>some (.ptr i o)
  |[.optr sz i v j o]=>some (.optr sz i v j o)
  |[.fn f a b]=>some (.fn f a b)
  |[.yl i]=>some (.yl i)
  |_=>none
 |.isNil neg=>match xs with
  |[.nl .nilSl]=>some (.p (.bool (!neg)))
  |[.p (.sl _ _ (_::_))]=>some (.p (.bool neg))
  |_=>none
inductive SpK where
 |mkMap
 |mapGet (kn:Nat) (ok:Bool) (zero:AV)
 |mapSet (kn:Nat)
 |litC
 |mkP (n:Nat) (zero:List PC) (bytes:Nat)
 |mkS (zero:List PC) (bytes:Nat)
 |pop (sz:Nat)
 |litO (sz:Nat)
 |appT (sz bytes:Nat)
 |shut
 |range
 |next
 |entry
inductive Ins where
 |val (d:Nat) (v:VI) (xs:List IX)
 |load (d:Nat) (x:IX) (n:Nat) (isAgg:Bool)
 |loadL (d:Nat) (x:IX) (n:Nat) (isAgg:Bool)
 |loadH (d:Nat) (x:IX) (n:Nat) (isAgg:Bool)
 |loadI (d:Nat) (x:IX) (n:Nat) (isAgg:Bool)
 |loadN (d:Nat) (x:IX) (n:Nat) (isAgg:Bool) (zs:List IX)
 |store (x y:IX) (n:Nat)
 |storeH (x y:IX) (n:Nat)
 |newL (d:Nat) (zero:List AV)
 |boxL (d:Nat) (x:IX)
 |newH (d:Nat) (zero:List AV)
 |boxH (d:Nat) (x:IX)
 |mkSl (d:Nat) (n c:IX) (zero:List PC) (bytes:Nat)
 |app (d:Nat) (s x:IX) (sz bytes:Nat)
 |appN (d:Nat) (s x:IX) (sz bytes:Nat)
 |litSl (d:Nat) (sz:Nat) (xs:List IX)
 |litP (d:Nat) (sz:Nat) (xs:List IX)
 |mkC (d:Nat) (m:Nat) (zero:List PC) (bytes:Nat)
 |call (d:Option Nat) (f:Nat) (xs:List IX)
 |callP (d:Nat) (f:Nat) (xs:List IX)
 |callQ (d:Nat) (f:Nat) (xs:List IX)
 |callV (d:Option Nat) (f:IX) (xs:List IX)
 |callY (d:Option Nat) (f:IX) (xs:List IX)
 |sp (d:Option Nat) (q:SpK) (xs:List IX)
structure IOp where
 g:Option (Nat×Bool)
 i:Ins
 pre:List Nat:=[]
 bn:Option Nat:=none
def adrI:Ins->Option IX
 |.load _ x _ _|.loadL _ x _ _|.store x _ _|.storeH x _ _=>some x
 |_=>none
def bnOK (o:IOp)(fr:List (Nat×AV)):Bool:=match o.bn with
 |none=>true
 |some b=>match adrI o.i with
  |some x=>(match ev fr x with
   |.loc t _=>t==b
   |_=>false)
  |none=>false
inductive IC where
 |skip
 |reg (ops:List IOp) (keep:List Nat)
 |regD (ops:List IOp) (keep:List Nat)
 |regF (fs:List Nat) (ops:List IOp) (keep:List Nat)
 |seq (a b:IC)
 |cond (x:IX) (a b:IC)
 |block (id:Nat) (a:IC)
 |loop (a:IC)
 |exit (id:Nat)
 |scope (a:IC)
 |label (l:Nat)
 |goto (l:Nat)
 |ret
 |kp (ks:List Nat) (a:IC)
 |pu (fs:List Nat) (a:IC)
 |rangeF (x:IX) (ps:List Nat) (assign body:IC)
 |box (a:IC)
 |die (t:TypeId)
def rd (bx:List (Nat×List AV))(H:List HO)(n:Nat):AV->Option (List AV)
 |.loc t off=>(bget bx t).bind (sub off n)
 |.ptr id off=>match H[id]? with
  |some (.cells cs)=>sub off n cs
  |_=>none
 |.optr sz id ver i off=>match H[id]? with
  |some (.arr sz' ver' _ rows)=>if sz'=sz/\ver'=ver then(rows[i]?).bind λr=>(sub off n r).map (·.map up)else none
  |_=>none
 |.ppt _ rows i off=>(rows[i]?).bind λr=>(sub off n r).map (·.map .p)
 |_=>none
structure Mem where
 bx:List (Nat×List AV)
 H:List HO
def wrt (bx:List (Nat×List AV))(H:List HO)(cs:List AV):AV->Option Mem
 |.loc t off=>(bget bx t).bind λb=>(ZbU off cs b).map λb'=>⟨bput bx t b',H⟩
 |.ptr id off=>match H[id]? with
  |some (.cells b)=>(ZbU off cs b).map λb'=>⟨bx,H.set id (.cells b')⟩
  |_=>none
 |.optr sz id ver i off=>match H[id]? with
  |some (.arr sz' ver' false rows)=>
   if sz'=sz/\ver'=ver then(rows[i]?).bind λr=>(unP cs).bind λps=>(ZbU off ps r).map λr'=>⟨bx,H.set id (.arr sz ver false (rows.set i r'))⟩
   else none
  |_=>none
 |_=>none
def Zgw (H:List HO)(sz:Nat):AV->Option (List (List PC))
 |.p (.sl sz' _ rows)=>if sz'=sz then some rows else none
 |.osl sz0 id ver off len=>match H[id]? with
  |some (.arr sz' ver' _ rows)=>if sz0=sz/\sz'=sz/\ver'=ver then sub off len rows else none
  |_=>none
 |_=>none
def Zna:AV->Bool
 |.p (.sl _ _ rows)=>Zr0 rows
 |_=>true
def appV (H:List HO)(sz bytes:Nat)(s:AV)(new:List (List PC)):Option (AV×List HO):=
 match s with
 |.p (.sl sz' full rows)=>
  if Zr0 rows=true/\sz'=sz/\full=true/\(rows.length+new.length)*bytes<=140737488355328/\rows.length+new.length<=140737488355328 then
   if new=[]then some (s,H)else some (.osl sz H.length 0 0 (rows.length+new.length),H++[.arr sz 0 false (rows++new)])
  else none
 |.osl sz0 id ver off len=>match H[id]? with
  |some (.arr sz' ver' frz rows)=>
   if sz0=sz/\sz'=sz/\ver'=ver/\off=0/\(len+new.length)*bytes<=140737488355328/\len+new.length<=140737488355328/\len=rows.length then
    some (.osl sz id (ver+1) 0 (len+new.length),H.set id (.arr sz (ver+1) frz (rows++new)))
   else none
  |_=>none
 |_=>none
def ZqP:AV->Bool
 |.loc .. =>true
 |_=>false
def putO (fr:List (Nat×AV)):Option Nat->AV->List (Nat×AV)
 |some d,v=>put fr d v
 |none,_=>fr
def dstI:Ins->Option Nat
 |.val d _ _|.load d _ _ _|.loadL d _ _ _|.loadH d _ _ _|.loadI d _ _ _|.loadN d _ _ _ _|.appN d _ _ _ _|.newL d _|.boxL d _|.newH d _|.boxH d _|.mkSl d _ _ _ _|.app d _ _ _ _|.litSl d _ _|.litP d _ _|.mkC d _ _ _|.callP d _ _|.callQ d _ _=>some d
 |.store .. |.storeH .. =>none
 |.call d _ _|.callV d _ _|.callY d _ _|.sp d _ _=>d
def ZtK (id:Nat):AV->Bool
 |.ptr id' _=>decide (id'≠id)
 |_=>false
def Za0 (i:Ins)(s:St):Option St:=
 match i with
 |.val d v xs=>(Za6 v (xs.map (ev s.fr))).map λr=>{s with fr:=put s.fr d r}
 |.load d x n isAgg=>(rd s.bx s.H n (ev s.fr x)).bind λcs=>if ZaL cs=true then(mk isAgg cs).map λr=>{s with fr:=put s.fr d r}else none
 |.loadL d x n isAgg=>match ev s.fr x with
  |.loc t off=>(rd s.bx [] n (.loc t off)).bind λcs=>if ZaL cs=true then(mk isAgg cs).map λr=>{s with fr:=put s.fr d r}else none
  |_=>none
 |.loadH d x n isAgg=>if ZqP (ev s.fr x)=true then none else(rd [] s.H n (ev s.fr x)).bind λcs=>if ZaL cs=true then(mk isAgg cs).map λr=>{s with fr:=put s.fr d r}else none
 |.loadI d x n isAgg=>match ev s.fr x with
  |.ppt sz rows i off=>(rd [] [] n (.ppt sz rows i off)).bind λcs=>if ZaL cs=true then(mk isAgg cs).map λr=>{s with fr:=put s.fr d r}else none
  |_=>none
 |.loadN d x n isAgg zs=>match ev s.fr x with
  |.ptr id off=>if(zs.map (ev s.fr)).all (ZtK id)=true then(rd [] s.H n (.ptr id off)).bind λcs=>if ZaL cs=true then(mk isAgg cs).map λr=>{s with fr:=put s.fr d r}else none else none
  |_=>none
 |.store x y n=>
  if(cellsOf (ev s.fr y)).length=n/\ZaL (cellsOf (ev s.fr y))=true then
   (wrt s.bx s.H (cellsOf (ev s.fr y)) (ev s.fr x)).map λm=>⟨s.fr,m.bx,m.H⟩
  else none
 |.storeH x y n=>
  if ZqP (ev s.fr x)=false/\(cellsOf (ev s.fr y)).length=n/\ZaL (cellsOf (ev s.fr y))=true then
   (wrt s.bx s.H (cellsOf (ev s.fr y)) (ev s.fr x)).map λm=>⟨s.fr,m.bx,m.H⟩
  else none
 |.newL d zero=>some ⟨put (Zf2 d s.fr) d (.loc d 0),bput s.bx d zero,s.H⟩
 |.boxL d x=>
  if ZaL (cellsOf (ev s.fr x))=true then some ⟨put (Zf2 d s.fr) d (.loc d 0),bput s.bx d (cellsOf (ev s.fr x)),s.H⟩else none
 |.newH d zero=>some ⟨put s.fr d (.ptr s.H.length 0),s.bx,s.H++[.cells zero]⟩
 |.boxH d x=>
  if ZaL (cellsOf (ev s.fr x))=true then some ⟨put s.fr d (.ptr s.H.length 0),s.bx,s.H++[.cells (cellsOf (ev s.fr x))]⟩else none
 |.mkSl d n c zero bytes=>match ev s.fr n,ev s.fr c with
  |.p (.int .i64 n),.p (.int .i64 c)=>
   if 0<=n/\n<=c/\c*bytes<=140737488355328/\c<=140737488355328 then
    some ⟨put s.fr d (.osl zero.length s.H.length 0 0 n.toNat),s.bx,s.H++[.arr zero.length 0 false (List.replicate n.toNat zero)]⟩
   else none
  |_,_=>none
 |.app d x y sz bytes=>
  if Zna (ev s.fr y)=true then(Zgw s.H sz (ev s.fr y)).bind λnew=>(appV s.H sz bytes (ev s.fr x) new).map λ(v,H)=>⟨put s.fr d v,s.bx,H⟩else none
 |.appN d x y sz bytes=>match ev s.fr x with
  |.p (.sl a true b)=>if Zna (ev s.fr y)=true then(Zgw s.H sz (ev s.fr y)).bind λnew=>(appV s.H sz bytes (.p (.sl a true b)) new).map λ(v,H)=>⟨put s.fr d v,s.bx,H⟩else none
  |_=>none
 |.litSl d sz xs=>(ZnK sz (xs.map (ev s.fr))).map λrows=>⟨put s.fr d (.osl sz s.H.length 0 0 rows.length),s.bx,s.H++[.arr sz 0 false rows]⟩
 |.litP d sz xs=>(ZnK sz (xs.map (ev s.fr))).map λrows=>⟨put s.fr d (.p (.sl sz true rows)),s.bx,s.H⟩
 |.mkC d m zero bytes=>if m*bytes<=140737488355328/\m<=140737488355328 then some ⟨put s.fr d (.p (.sl zero.length false (List.replicate m zero))),s.bx,s.H⟩else none
 |.call .. |.callP .. |.callQ .. |.callV .. |.callY .. |.sp .. =>none
def ZrU (H:List HO):AV->Option AV
 |.p x=>some (.p (weakP x))
 |.nl x=>some (.nl x)
 |.osl sz id ver off len=>match H[id]? with
  |some (.arr sz' ver' _ rows)=>if sz'=sz/\ver'=ver then(sub off len rows).map λr=>.p (.sl sz false r)else none
  |_=>none
 |_=>none
def Zoq (H:List HO):List AV->Option (List AV)
 |[]=>some []
 |c::cs=>(ZrU H c).bind λx=>(Zoq H cs).map (x:: ·)
def Zmz (H:List HO):AV->Option AV
 |.agg cs=>(Zoq H cs).map .agg
 |v=>ZrU H v
inductive RV where
 |tmp (t:Nat)
 |cell (t n:Nat) (isAgg:Bool)
def resV (s:St):RV->Option AV
 |.tmp t=>Zmz s.H (get s.fr t)
 |.cell t n isAgg=>((rd s.bx s.H n (get s.fr t)).bind (mk isAgg)).bind (Zmz s.H)
def resL (s:St):List RV->Option (List AV)
 |[]=>some []
 |r::rs=>(resV s r).bind λv=>(resL s rs).map (v:: ·)
def Zhy:List AV->Nat->List (Nat×AV)
 |[],_=>[]
 |v::vs,i=>(i,v)::Zhy vs (i+1)
def rawV (s:St):RV->Option AV
 |.tmp t=>some (get s.fr t)
 |.cell t n isAgg=>(rd s.bx s.H n (get s.fr t)).bind (mk isAgg)
def rawL (s:St):List RV->Option (List AV)
 |[]=>some []
 |r::rs=>(rawV s r).bind λv=>(rawL s rs).map (v:: ·)
def ZcP:List AV->AV
 |[v]=>v
 |vs=>.tup vs
structure IFn where
 nargs:Nat
 nt:Nat
 body:IC
 res:List RV
def frz1 (H:List HO):AV->Option (AV×List HO)
 |.p x=>some (.p (weakP x),H)
 |.nl x=>some (.nl x,H)
 |.ptr id off=>some (.ptr id off,H)
 |.fn f a b=>if noLocL a&&noLocL b then some (.fn f a b,H)else none
 |.yl id=>some (.yl id,H)
 |.map id=>some (.map id,H)
 |.osl sz id ver off len=>match H[id]? with
  |some (.arr sz' ver' _ rows)=>if sz'=sz/\ver'=ver then(sub off len rows).map λr=>(.p (.sl sz false r),H.set id (.arr sz ver true rows))else none
  |_=>none
 |_=>none
def frzC (H:List HO):List AV->Option (List AV×List HO)
 |[]=>some ([],H)
 |c::cs=>(frz1 H c).bind λ(x,H)=>(frzC H cs).map λ(xs,H)=>(x::xs,H)
def frzV (H:List HO):AV->Option (AV×List HO)
 |.agg cs=>(frzC H cs).map λ(cs,H)=>(.agg cs,H)
 |v=>frz1 H v
def frzL (H:List HO):List AV->Option (List AV×List HO)
 |[]=>some ([],H)
 |c::cs=>(frzV H c).bind λ(x,H)=>(frzL H cs).map λ(xs,H)=>(x::xs,H)
def FrzC (H:List HO):List AV->List AV->Prop
 |[],ys=>ys=[]
 |c::cs,ys=>∃x xs,ys=x::xs/\frz1 H c=some (x,H)/\FrzC H cs xs
def FrzQ (H:List HO)(v y:AV):Prop:=match v with
 |.agg cs=>∃xs,y=.agg xs/\FrzC H cs xs
 |v=>frz1 H v=some (y,H)
def FrzL (H:List HO):List AV->List AV->Prop
 |[],ys=>ys=[]
 |c::cs,ys=>∃x xs,ys=x::xs/\FrzQ H c x/\FrzL H cs xs
def ZpA (raw:Bool)(H:List HO)(c:AV):Option (AV×List HO):=if raw then(if ZaV c then some (c,H)else none)else frz1 H c
def ZmD:List Bool->List HO->List AV->Option (List AV×List HO)
 |_,H,[]=>some ([],H)
 |fl,H,c::cs=>(ZpA (fl.headD false) H c).bind λ(x,H)=>(ZmD fl.tail H cs).map λ(xs,H)=>(x::xs,H)
def ZqL (fl:List Bool)(H:List HO):AV->Option (AV×List HO)
 |.agg cs=>(ZmD fl H cs).map λ(cs,H)=>(.agg cs,H)
 |v=>ZpA (fl.headD false) H v
def Znn:List (List Bool)->List HO->List AV->Option (List AV×List HO)
 |_,H,[]=>some ([],H)
 |fl,H,c::cs=>(ZqL (fl.headD []) H c).bind λ(x,H)=>(Znn fl.tail H cs).map λ(xs,H)=>(x::xs,H)
def Pass (H:List HO)(xs xs':List AV)(H':List HO):Prop:=∃fl,Znn fl H xs=some (xs',H')
def ZkB:AV->Bool
 |.p _|.nl _=>true
 |_=>false
def ZkA:List AV->Bool
 |[]=>true
 |c::cs=>ZkB c&&ZkA cs
def ZkC:AV->Bool
 |.agg cs=>ZkA cs
 |v=>ZkB v
def Zir:List AV->Bool
 |[]=>true
 |c::cs=>ZkC c&&Zir cs
def Zip:AV->Bool
 |.tup vs=>Zir vs
 |v=>ZkC v
end Go.Eng

namespace Go.Eng
open Go
mutual
def PR (ok:Addr->Prop) (w:World):PC->Value->Prop
 |.int k n,v=>v=.int k n
 |.bool b,v=>v=.bool b
 |.sl sz full rows,v=>∃A cap,v=.slice A rows.length cap/\rows.length<=cap/\(full=true->cap=rows.length)/\(rows≠[]->∃a,A=some a/\Zld ok w sz rows a)
 |.ow _ _ _ len,v=>∃A cap,v=.slice A len cap
def Zld (ok:Addr->Prop) (w:World) (sz:Nat):List (List PC)->Addr->Prop
 |[],_=>True
 |r::rs,a=>r.length=sz/\RowR ok w r a/\Zld ok w sz rs (a.add sz)
def RowR (ok:Addr->Prop) (w:World):List PC->Addr->Prop
 |[],_=>True
 |x::xs,a=>(∃u,w.cell? a=some u/\ok a/\PR ok w x u)/\RowR ok w xs (a.add 1)
end
theorem Zfp (a:Addr)(i j:Nat):(a.add i).add j=a.add (i+j):=by
 unfold Addr.add;by_cases hi:i=0<;>by_cases hj:j=0<;>simp[hi,hj,Nat.add_assoc]
theorem add_zero (a:Addr):a.add 0=a:=rfl
theorem Zgz (b o n:Nat):(⟨b,o,none⟩:Addr).add n=⟨b,o+n,none⟩:=by
 unfold Addr.add;split<;>simp_all
theorem ZjJ {ok:Addr->Prop}{w:World}:∀(xs:List PC) (a:Addr),
  RowR ok w xs a↔∀j x,xs[j]?=some x->∃u,w.cell? (a.add j)=some u/\ok (a.add j)/\PR ok w x u
 |[],a=>by simp[RowR]
 |x::xs,a=>by
  rw[RowR,ZjJ xs (a.add 1)];constructor
  ·rintro⟨h0,h1⟩ j y hj;cases j with
   |zero=>simp at hj;subst hj;exact h0
   |succ j=>
    have:=h1 j y (by simpa using hj)
    rwa [Zfp,Nat.add_comm]at this
  intro h;refine⟨h 0 x rfl,λj y hj=>?_⟩;have:=h (j+1) y (by simpa using hj)
  rwa [Zfp,Nat.add_comm]
theorem Zgf {ok:Addr->Prop}{w:World}{sz:Nat}:∀(rows:List (List PC)) (a:Addr),
  Zld ok w sz rows a↔∀i r,rows[i]?=some r->r.length=sz/\RowR ok w r (a.add (i*sz))
 |[],a=>by simp[Zld]
 |r::rs,a=>by
  rw[Zld,Zgf rs (a.add sz)];constructor
  ·rintro⟨h0,h0',h1⟩ i y hi;cases i with
   |zero=>simp at hi;subst hi;simp only[Nat.zero_mul,add_zero];exact⟨h0,h0'⟩
   |succ i=>
    have:=h1 i y (by simpa using hi);rw[Zfp]at this
    rwa [show(i+1)*sz=sz+i*sz by rw[Z6];omega]
  intro h;have h0:=h 0 r rfl;simp only[Nat.zero_mul,add_zero]at h0;refine⟨h0.1,h0.2,λi y hi=>?_⟩;have:=h (i+1) y (by simpa using hi);rw[Zfp]
  rwa [show(i+1)*sz=sz+i*sz by rw[Z6];omega]at this
def Stay (ok ok':Addr->Prop)(w w':World):Prop:=∀a u,ok a->w.cell? a=some u->w'.cell? a=some u/\ok' a
mutual
theorem PR.mono {ok ok':Addr->Prop} {w w':World} (h:Stay ok ok' w w'):∀(x:PC) (v:Value),PR ok w x v->PR ok' w' x v
 |.int k n,v,hv=>by simpa[PR]using hv
 |.bool b,v,hv=>by simpa[PR]using hv
 |.ow ..,v,hv=>by rw[PR]at hv⊢;exact hv
 |.sl sz full rows,v,hv=>by
  rw[PR]at hv⊢;obtain⟨A,cap,h1,h2,h3,h4⟩:=hv;exact⟨A,cap,h1,h2,h3,λhn=>let ⟨a,ha,hr⟩:=h4 hn;⟨a,ha,Zld.mono h sz rows a hr⟩⟩
theorem Zld.mono {ok ok':Addr->Prop} {w w':World} (h:Stay ok ok' w w') (sz:Nat):∀(rows:List (List PC)) (a:Addr),Zld ok w sz rows a->Zld ok' w' sz rows a
 |[],a,_=>by rw[Zld];trivial
 |r::rs,a,hr=>by
  rw[Zld]at hr⊢;exact⟨hr.1,RowR.mono h r a hr.2.1,Zld.mono h sz rs _ hr.2.2⟩
theorem RowR.mono {ok ok':Addr->Prop} {w w':World} (h:Stay ok ok' w w'):∀(xs:List PC) (a:Addr),RowR ok w xs a->RowR ok' w' xs a
 |[],a,_=>by rw[RowR];trivial
 |x::xs,a,hr=>by
  rw[RowR]at hr⊢;obtain⟨⟨u,hu,ho,hp⟩,hr⟩:=hr;have:=h a u ho hu;exact⟨⟨u,this.1,this.2,PR.mono h x u hp⟩,RowR.mono h xs _ hr⟩
end
structure Cx where
 ok:Addr->Prop
 w:World
 H:List HO
 ρ:List Nat
 β:Nat->Option Nat
def Cx.blk (c:Cx)(b:Nat)(vs:Array Value):Prop:=∃e,c.w.heap[b]?=some (.cells vs e (0,0))
def OslR (c:Cx)(sz id ver off len:Nat)(v:Value):Prop:=
 ∃ver0 frz rows b cap,c.H[id]?=some (.arr sz ver0 frz rows)/\ver<=ver0/\v=.slice (some ⟨b,off*sz,none⟩) len cap/\len<=cap/\(ver=ver0→
  ∃vs,c.ρ[id]?=some b/\off+len<=rows.length/\c.blk b vs/\(off+cap)*sz<=vs.size)
def Zyr (c:Cx)(sz id ver i off:Nat)(v:Value):Prop:=
 ∃ver0 frz rows b,c.H[id]?=some (.arr sz ver0 frz rows)/\ver<=ver0/\v=.pointer (some ⟨b,i*sz+off,none⟩)/\(ver=ver0->c.ρ[id]?=some b)
def PptR (c:Cx)(sz:Nat)(rows:List (List PC))(i off:Nat)(v:Value):Prop:=
 ∃a,v=.pointer (some (a.add (i*sz+off)))/\Zld c.ok c.w sz rows a
def YlR (c:Cx)(id:Nat)(v:Value):Prop:=
 ∃L fr st b,c.H[id]?=some (.lp L fr st)/\c.ρ[id]?=some b/\v=.func (.yield b) #[] #[]
def mapV (L:LC)(b:Nat):Value:=if L.n=0 then .map (some b)else .pointer (some ⟨b,0,none⟩)
def MapR (c:Cx)(id:Nat)(v:Value):Prop:=
 ∃L fr st b,c.H[id]?=some (.lp L fr st)/\L.mpk=true/\c.ρ[id]?=some b/\v=mapV L b
def CslR (c:Cx)(id n:Nat)(v:Value):Prop:=
 ∃cs b,c.H[id]?=some (.cells cs)/\c.ρ[id]?=some b/\v=.slice (some ⟨b,0,none⟩) n n
def PtrR (c:Cx)(id off:Nat)(v:Value):Prop:=
 ∃cs b,c.H[id]?=some (.cells cs)/\c.ρ[id]?=some b/\v=.pointer (some ⟨b,off,none⟩)
def LocR (c:Cx)(t off:Nat)(v:Value):Prop:=∃b,v=.pointer (some ⟨b,off,none⟩)/\∀b',c.β t=some b'->b=b'
mutual
def VR (c:Cx):AV->Value->Prop
 |.any,_=>True
 |.p x,v=>PR c.ok c.w x v
 |.nl x,v=>v=x.val
 |.agg cs,v=>∃vs:List Value,v=.agg vs.toArray/\VRL c cs vs
 |.tup cs,v=>∃vs:List Value,v=.tuple vs.toArray/\VRL c cs vs
 |.osl sz id ver off len,v=>OslR c sz id ver off len v
 |.optr sz id ver i off,v=>Zyr c sz id ver i off v
 |.ppt sz rows i off,v=>PptR c sz rows i off v
 |.ptr id off,v=>PtrR c id off v
 |.loc t off,v=>LocR c t off v
 |.fn f a b,v=>∃xs ys:List Value,v=.func (.func f) xs.toArray ys.toArray/\VRL c a xs/\VRL c b ys
 |.map id,v=>MapR c id v
 |.yl id,v=>YlR c id v
 |.csl id n,v=>CslR c id n v
def VRL (c:Cx):List AV->List Value->Prop
 |[],vs=>vs=[]
 |x::xs,vs=>∃u us,vs=u::us/\VR c x u/\VRL c xs us
end
theorem Zst {c:Cx}{x:PC}{v:Value}(h:VR c (up x) v):PR c.ok c.w x v:=by
 cases x with
 |ow sz id ver len=>
  rw[up,VR]at h;obtain⟨_,_,_,b,cap,_,_,e,_⟩:=h;rw[PR];exact⟨_,_,e⟩
 |int k m=>rw[show up (PC.int k m)=.p (.int k m)from rfl,VR]at h;exact h
 |bool b=>rw[show up (PC.bool b)=.p (.bool b)from rfl,VR]at h;exact h
 |sl sz f rows=>rw[show up (PC.sl sz f rows)=.p (.sl sz f rows)from rfl,VR]at h;exact h
theorem Zss {c:Cx}{x:PC}{v:Value}(hn:isOw x=false)(h:PR c.ok c.w x v):VR c (up x) v:=by
 cases x with
 |ow sz id ver len=>cases hn
 |int k m=>exact by show VR c (.p _) v;rw[VR];exact h
 |bool b=>exact by show VR c (.p _) v;rw[VR];exact h
 |sl sz f rows=>exact by show VR c (.p _) v;rw[VR];exact h
theorem ZgP (x:PC):ZaV (up x)=true:=by cases x<;>rfl
theorem ZL7 {x:PC}(h:isOw x=false):up x=.p x:=by cases x<;>first|rfl|cases h
theorem Zr1 {xs:List PC}(h:Znp xs=true){j:Nat}{x:PC}(hj:xs[j]?=some x):isOw x=false:=by
 induction xs generalizing j with
 |nil=>simp at hj
 |cons y ys ih=>
  simp only[Znp,Ze,Zh]at h;cases j with
  |zero=>simp at hj;subst hj;exact h.1
  |succ j=>exact ih h.2 (by simpa using hj)
theorem ZxX {rs:List (List PC)}(h:Zr0 rs=true){i:Nat}{r:List PC}(hi:rs[i]?=some r):Znp r=true:=by
 induction rs generalizing i with
 |nil=>simp at hi
 |cons y ys ih=>
  simp only[Zr0,Ze]at h;cases i with
  |zero=>simp at hi;subst hi;exact h.1
  |succ i=>exact ih h.2 (by simpa using hi)
theorem ZKu {xs:List PC}(h:Znp xs=true):xs.map up=xs.map .p:=by
 refine List.map_congr_left λx hx=>?_
 obtain⟨j,hj⟩:=List.getElem?_of_mem hx;exact ZL7 (Zr1 h hj)
theorem ZpK {α:Type}{enc:α->List PC}(h:∀a,Znp (enc a)=true)(l:List α):Zr0 (l.map enc)=true:=by
 induction l with
 |nil=>rfl
 |cons x xs ih=>rw[ZU,Zr0,h,ih];rfl
theorem VRL.length {c:Cx}:∀{cs:List AV} {vs:List Value},VRL c cs vs->vs.length=cs.length
 |[],vs,h=>by rw[VRL]at h;subst h;rfl
 |x::xs,vs,h=>by
  rw[VRL]at h;obtain⟨u,us,rfl,_,h⟩:=h;simp[VRL.length h]
theorem Zed {c:Cx}:∀{cs:List AV} {vs:List Value},
  VRL c cs vs↔vs.length=cs.length/\∀(j:Nat) (x:AV) (u:Value),cs[j]?=some x->vs[j]?=some u->VR c x u
 |[],vs=>by
  rw[VRL];constructor
  ·rintro rfl;simp
  rintro⟨h,_⟩;exact List.eq_nil_of_length_eq_zero (by simpa using h)
 |x::xs,vs=>by
  rw[VRL];constructor
  ·rintro⟨u,us,rfl,hu,h⟩;obtain⟨hl,hh⟩:=Zed.1 h;refine⟨by simp[hl],λj y u' hj hu'=>?_⟩;cases j with
   |zero=>simp at hj hu';subst hj hu';exact hu
   |succ j=>exact hh j y u' (by simpa using hj) (by simpa using hu')
  rintro⟨hl,hh⟩;cases vs with
  |nil=>simp at hl
  |cons u us=>exact⟨u,us,rfl,hh 0 x u rfl rfl,Zed.2 ⟨by simpa using hl,λj y u' hj hu'=>hh (j+1) y u' (by simpa using hj) (by simpa using hu')⟩⟩
theorem PR.weak {ok:Addr->Prop}{w:World}{x:PC}{v:Value}(h:PR ok w x v):PR ok w (weakP x) v:=by
 cases x with
 |sl sz full rows=>
  simp only[weakP];rw[PR]at h⊢;obtain⟨A,cap,h1,h2,_,h4⟩:=h;exact⟨A,cap,h1,h2,by simp,h4⟩
 |_=>exact h
theorem VR.weak1 {c:Cx}{x:AV}{v:Value}(h:VR c x v):VR c (weak1 x) v:=by
 cases x with
 |p x=>simp only[Eng.weak1];rw[VR]at h⊢;exact h.weak
 |_=>exact h
theorem VRL.weakL {c:Cx}:∀{xs:List AV} {vs:List Value},VRL c xs vs->VRL c (weakL xs) vs
 |[],vs,h=>h
 |x::xs,vs,h=>by
  rw[VRL]at h;obtain⟨u,us,rfl,h1,h2⟩:=h;simp only[Eng.weakL];rw[VRL];exact⟨u,us,rfl,h1.weak1,h2.weakL⟩
theorem VR.weakV {c:Cx}{x:AV}{v:Value}(h:VR c x v):VR c (weakV x) v:=by
 unfold Eng.weakV;split
 ·rw[VR]at h⊢;obtain⟨vs,e,h⟩:=h;exact⟨vs,e,h.weakL⟩
 exact h.weak1
theorem VRL.weakVs {c:Cx}:∀{xs:List AV} {vs:List Value},VRL c xs vs->VRL c (weakVs xs) vs
 |[],vs,h=>h
 |x::xs,vs,h=>by
  rw[VRL]at h;obtain⟨u,us,rfl,h1,h2⟩:=h;simp only[Eng.weakVs];rw[VRL];exact⟨u,us,rfl,h1.weakV,h2.weakVs⟩
structure Zbl (c c':Cx):Prop where
 stay:Stay c.ok c'.ok c.w c'.w
 arr:∀(id sz ver:Nat) frz rows,c.H[id]?=some (.arr sz ver frz rows)->∃ver' frz' rows',c'.H[id]?=some (.arr sz ver' frz' rows')/\ver<=ver'∧
  (ver'=ver->rows.length<=rows'.length/\c'.ρ[id]?=c.ρ[id]?∧∀b vs,c.ρ[id]?=some b->c.blk b vs->∃vs',c'.blk b vs'/\vs'.size=vs.size)
 cells:∀(id:Nat) cs,c.H[id]?=some (.cells cs)->(∃cs',c'.H[id]?=some (.cells cs'))/\c'.ρ[id]?=c.ρ[id]?
 lp:∀(id:Nat) L fr st,c.H[id]?=some (.lp L fr st)->(∃st',c'.H[id]?=some (.lp L fr st'))/\c'.ρ[id]?=c.ρ[id]?
theorem OslR.later {c c':Cx}(h:Zbl c c'){sz id ver off len:Nat}{v:Value}(hv:OslR c sz id ver off len v):OslR c' sz id ver off len v:=by
 obtain⟨ver0,frz,rows,b,cap,hH,hle,e,hcap,hh⟩:=hv;obtain⟨ver',frz',rows',hH',hle',hsame⟩:=h.arr id sz ver0 frz rows hH;refine⟨ver',frz',rows',b,cap,hH',by omega,e,hcap,λe=>?_⟩;have e1:ver=ver0:=by omega
 obtain⟨vs,h1,h3,h5,h6⟩:=hh e1;obtain⟨g1,g2,g3⟩:=hsame (by omega);obtain⟨vs',k1,k2⟩:=g3 b vs h1 h5;exact⟨vs',by rw[g2];exact h1,by omega,k1,by rw[k2];exact h6⟩
theorem Zyr.later {c c':Cx}(h:Zbl c c'){sz id ver i off:Nat}{v:Value}(hv:Zyr c sz id ver i off v):Zyr c' sz id ver i off v:=by
 obtain⟨ver0,frz,rows,b,hH,hle,e,hh⟩:=hv;obtain⟨ver',frz',rows',hH',hle',hsame⟩:=h.arr id sz ver0 frz rows hH;refine⟨ver',frz',rows',b,hH',by omega,e,λe=>?_⟩;obtain⟨_,g2,_⟩:=hsame (by omega);rw[g2];exact hh (by omega)
theorem PtrR.later {c c':Cx}(h:Zbl c c'){id off:Nat}{v:Value}(hv:PtrR c id off v):PtrR c' id off v:=by
 obtain⟨cs,b,h1,h2,h3⟩:=hv;obtain⟨⟨cs',g1⟩,g2⟩:=h.cells id cs h1;exact⟨cs',b,g1,by rw[g2];exact h2,h3⟩
theorem YlR.later {c c':Cx}(h:Zbl c c'){id:Nat}{v:Value}(hv:YlR c id v):YlR c' id v:=by
 obtain⟨L,fr,st,b,h1,h2,h3⟩:=hv;obtain⟨⟨st',g1⟩,g2⟩:=h.lp id L fr st h1;exact⟨L,fr,st',b,g1,by rw[g2];exact h2,h3⟩
theorem MapR.later {c c':Cx}(h:Zbl c c'){id:Nat}{v:Value}(hv:MapR c id v):MapR c' id v:=by
 obtain⟨L,fr,st,b,h1,h2,h3,h4⟩:=hv;obtain⟨⟨st',g1⟩,g2⟩:=h.lp id L fr st h1;exact⟨L,fr,st',b,g1,h2,by rw[g2];exact h3,h4⟩
theorem CslR.later {c c':Cx}(h:Zbl c c'){id n:Nat}{v:Value}(hv:CslR c id n v):CslR c' id n v:=by
 obtain⟨cs,b,h1,h2,h3⟩:=hv;obtain⟨⟨cs',g1⟩,g2⟩:=h.cells id cs h1;exact⟨cs',b,g1,by rw[g2];exact h2,h3⟩
mutual
theorem VR.later {c c':Cx} (h:Zbl c c'):∀(x:AV) (v:Value),ZaV x=true->VR c x v->VR c' x v
 |.any,v,_,hv=>by simp[VR]
 |.p x,v,_,hv=>by rw[VR]at hv⊢;exact PR.mono h.stay x v hv
 |.nl x,v,_,hv=>by rw[VR]at hv⊢;exact hv
 |.agg cs,v,hn,hv=>by
  rw[VR]at hv⊢;obtain⟨vs,e,hv⟩:=hv;exact⟨vs,e,VRL.later h cs vs (by simpa[ZaV]using hn) hv⟩
 |.tup cs,v,hn,hv=>by
  rw[VR]at hv⊢;obtain⟨vs,e,hv⟩:=hv;exact⟨vs,e,VRL.later h cs vs (by simpa[ZaV]using hn) hv⟩
 |.osl sz id ver off len,v,_,hv=>by rw[VR]at hv⊢;exact hv.later h
 |.optr sz id ver i off,v,_,hv=>by rw[VR]at hv⊢;exact hv.later h
 |.ppt sz rows i off,v,_,hv=>by
  rw[VR]at hv⊢;obtain⟨a,e,hr⟩:=hv;exact⟨a,e,Zld.mono h.stay sz rows a hr⟩
 |.ptr id off,v,_,hv=>by rw[VR]at hv⊢;exact hv.later h
 |.loc t off,v,hn,_=>by simp[ZaV]at hn
 |.fn f a b,v,hn,hv=>by
  rw[VR]at hv⊢;obtain⟨xs,ys,e,h1,h2⟩:=hv;simp only[ZaV,Ze]at hn;exact⟨xs,ys,e,VRL.later h a xs hn.1 h1,VRL.later h b ys hn.2 h2⟩
 |.map _,v,_,hv=>by rw[VR]at hv⊢;exact hv.later h
 |.yl id,v,_,hv=>by rw[VR]at hv⊢;exact hv.later h
 |.csl _ _,v,_,hv=>by rw[VR]at hv⊢;exact hv.later h
theorem VRL.later {c c':Cx} (h:Zbl c c'):∀(xs:List AV) (vs:List Value),noLocL xs=true->VRL c xs vs->VRL c' xs vs
 |[],vs,_,hv=>by rw[VRL]at hv⊢;exact hv
 |x::xs,vs,hn,hv=>by
  rw[VRL]at hv⊢;obtain⟨u,us,e,h1,h2⟩:=hv;simp only[noLocL,ZaV.noLocL,Ze]at hn;exact⟨u,us,e,VR.later h x u hn.1 h1,VRL.later h xs us hn.2 h2⟩
end
theorem Zkz {x:AV}(h:ZdG x=true):ZaV x=true:=by
 cases x<;>simp_all[ZdG,ZaV]
theorem ZaM:∀{xs:List AV},ZaL xs=true->noLocL xs=true
 |[],_=>rfl
 |x::xs,h=>by
  simp only[ZaL,Ze]at h;simp only[noLocL,ZaV.noLocL,Ze];exact⟨Zkz h.1,ZaM h.2⟩
theorem ZmF {c:Cx}{x:AV}{v:Value}(h:ZdG x=true)(hv:VR c x v):v.oneCell'=true:=by
 cases x with
 |p x=>
  rw[VR]at hv;cases x with
  |int k n=>rw[PR]at hv;subst hv;rfl
  |bool b=>rw[PR]at hv;subst hv;rfl
  |sl sz full rows=>rw[PR]at hv;obtain⟨A,cap,e,_⟩:=hv;subst e;rfl
  |ow sz id ver len=>rw[PR]at hv;obtain⟨A,cap,e⟩:=hv;subst e;rfl
 |nl x=>rw[VR]at hv;subst hv;cases x<;>simp_all[ZdG,NL.val,Value.oneCell']
 |osl sz id ver off len=>
  rw[VR]at hv;obtain⟨ver0,frz,rows,b,cap,_,_,e,_⟩:=hv;subst e;rfl
 |ptr id off=>rw[VR]at hv;obtain⟨cs,b,_,_,e⟩:=hv;subst e;rfl
 |fn f a b=>rw[VR]at hv;obtain⟨xs,ys,e,_⟩:=hv;subst e;rfl
 |map id=>rw[VR]at hv;obtain⟨L,fr,st,b,_,_,_,e⟩:=hv;subst e;unfold mapV;split<;>rfl
 |yl id=>rw[VR]at hv;obtain⟨L,fr,st,b,_,_,e⟩:=hv;subst e;rfl
 |csl id n=>rw[VR]at hv;obtain⟨cs,b,_,_,e⟩:=hv;subst e;rfl
 |_=>simp[ZdG]at h
theorem Zhx {c:Cx}{x:AV}{v:Value}(h:ZaL (cellsOf x)=true)(hv:VR c x v):VRL c (cellsOf x) v.cells.toList:=by
 cases x with
 |agg cs=>
  rw[VR]at hv;obtain⟨vs,rfl,hv⟩:=hv;simpa[cellsOf,Value.cells]using hv
 |tup cs=>simp[cellsOf,ZaL,ZdG]at h
 |_=>
  simp only[cellsOf,ZaL,Bool.and_true]at h⊢;have h1:=ZmF h hv;have e:v.cells=#[v]:=by cases v<;>simp_all[Value.cells,Value.oneCell']
  rw[e,VRL];exact⟨v,[],rfl,hv,by rw[VRL]⟩
theorem ZpG {xs:List AV}:ZaL xs=true↔∀x∈xs,ZdG x=true:=by
 induction xs with
 |nil=>simp[ZaL]
 |cons y ys ih=>simp[ZaL,ih]
theorem Zkv {c:Cx}{xs:List AV}{vs:List Value}(h:ZaL xs=true)(hv:VRL c xs vs):∀v∈vs,v.oneCell'=true:=by
 induction xs generalizing vs with
 |nil=>rw[VRL]at hv;subst hv;simp
 |cons x xs ih=>
  rw[VRL]at hv;obtain⟨u,us,rfl,h1,h2⟩:=hv;simp only[ZaL,Ze]at h;intro v hm;rcases List.mem_cons.1 hm with rfl|hm
  ·exact ZmF h.1 h1
  exact ih h.2 h2 v hm
end Go.Eng

namespace Go.Eng
open Go
structure K0 where
 ok0:Addr->Prop
 w0:World
 D:Nat->Prop
 ρ0:List Nat
 H0:List HO
 rd:Option Nat
 tl:List Deferred
 hw:World
 β0:Nat->Option Nat
structure G where
 ρ:List Nat
 β:Nat->Option Nat
def okOf (k:K0)(H:List HO)(g:G)(a:Addr):Prop:=
 (k.ok0 a∨k.w0.heap.size<=a.block∨k.D a.block)/\(∀t,g.β t≠some a.block)∧
 ∀(id:Nat),g.ρ[id]?=some a.block->∃sz ver rows,H[id]?=some (.arr sz ver true rows)/\a.off<rows.length*sz
def cx (k:K0)(g:G)(H:List HO)(w:World):Cx:=⟨okOf k H g,w,H,g.ρ,g.β⟩
def BoxR (c:Cx)(b:Nat)(cs:List AV):Prop:=ZaL cs=true/\∃vs,c.blk b vs/\VRL c cs vs.toList
def ArrR (c:Cx)(b sz:Nat)(rows:List (List PC)):Prop:=
 ∃vs,c.blk b vs/\rows.length*sz<=vs.size/\∀(i:Nat) r,rows[i]?=some r->r.length=sz/\∀(j:Nat) x,r[j]?=some x->∃u,vs[i*sz+j]?=some u/\VR c (up x) u
def StR:LS->Loop->Prop
 |.ready,r=>r.state=.ready/\r.pending=none
 |.busy,r=>r.state=.busy
 |.dead,_=>True
 |.done c,r=>r.state=.done/\r.pending=some c
 |.mp ..,_=>False
 |.mps ..,_=>False
 |.it ..,_=>False
 |.itd,_=>False
def keyV (kn:Nat)(ks:List Int):Value:=if kn=0 then .int .i64 (ks.headD 0)else .agg (ks.map (Value.int .i64)).toArray
def klen (kn:Nat):Nat:=if kn=0 then 1 else kn
def MpR (c:Cx)(b:Nat):LS->Prop
 |.mp ka es=>ZaL (es.map (·.2))=true/\(∀p∈es,p.1.length=klen ka)/\∃ents clock,c.w.heap[b]?=some (.map ents clock)/\MapKept.Stamped ents clock∧
   ents.toList.map (·.key)=es.map (λp=>keyV ka p.1)/\VRL c (es.map (·.2)) (ents.toList.map (·.val))
 |.mps ka es bs clock=>ZaL (es.map (·.2))=true/\(∀p∈es,p.1.length=klen ka)/\∃ents,c.w.heap[b]?=some (.map ents clock)/\MapKept.Stamped ents clock∧
   ents.toList.map (·.key)=es.map (λp=>keyV ka p.1)/\VRL c (es.map (·.2)) (ents.toList.map (·.val))/\ents.toList.map (·.born)=bs
 |.it m since seen last=>∃bm L fr st,c.H[m]?=some (.lp L fr st)/\c.ρ[m]?=some bm/\c.w.heap[b]?=some (.mapIter (some bm) since seen.toArray last)
 |.itd=>∃m x y z,c.w.heap[b]?=some (.mapIter m x y z)
 |_=>False
def LpR (c:Cx)(b:Nat)(L:LC)(fr:List (Nat×AV))(st:LS):Prop:=
 (∀t,ZaV (get fr t)=true)/\∃r:Loop,c.w.heap[b]?=some (.loop r)/\r.params.toList=L.ps/\L.ok r.assign r.body/\r.tmps.size=L.n∧
  (∀t,VR c (get fr t) (r.tmps.getD t undef))/\StR st r
def HoR (c:Cx)(b:Nat):HO->Prop
 |.lp L fr st=>(L.mpk=false/\LpR c b L fr st)∨(L.mpk=true/\MpR c b st)
 |.arr sz _ _ rows=>ArrR c b sz rows
 |.cells cs=>BoxR c b cs
def top:AV->Bool
 |.loc .. =>true
 |v=>ZaV v
structure Keep (D:Nat->Prop) (w w':World):Prop where
 os:w'.os=w.os
 tape:w'.tape=w.tape
 output:w'.output=w.output
 size:w.heap.size<=w'.heap.size
 block:∀k,k<w.heap.size->¬D k->w'.heap[k]?=w.heap[k]?
theorem Keep.refl (D:Nat->Prop)(w:World):Keep D w w:=⟨rfl,rfl,rfl,Nat.le_refl _,λ_ _ _=>rfl⟩
theorem Zbl.refl (c:Cx):Zbl c c:=
 {stay:=λ_ _ ho hc=>⟨hc,ho⟩
  arr:=λ_ _ ver frz rows e=>⟨ver,frz,rows,e,Nat.le_refl _,λ_=>⟨Nat.le_refl _,rfl,λ_ vs _ hb=>⟨vs,hb,rfl⟩⟩⟩
  cells:=λ_ cs e=>⟨⟨cs,e⟩,rfl⟩
  lp:=λ_ _ _ st e=>⟨⟨st,e⟩,rfl⟩}
theorem Zbl.trans {c c' c'':Cx}(h:Zbl c c')(h':Zbl c' c''):Zbl c c'':=
 {stay:=λa u ho hc=>let ⟨h1,h2⟩:=h.stay a u ho hc;h'.stay a u h2 h1
  arr:=λid sz ver frz rows e=>by
   obtain⟨v1,f1,r1,e1,l1,s1⟩:=h.arr id sz ver frz rows e;obtain⟨v2,f2,r2,e2,l2,s2⟩:=h'.arr id sz v1 f1 r1 e1;refine⟨v2,f2,r2,e2,by omega,λe=>?_⟩;obtain⟨a1,a2,a3⟩:=s1 (by omega);obtain⟨b1,b2,b3⟩:=s2 (by omega);refine⟨by omega,b2.trans a2,λb vs hb hblk=>?_⟩;obtain⟨vs1,c1,c2⟩:=a3 b vs hb hblk;obtain⟨vs2,d1,d2⟩:=b3 b vs1 (a2.trans hb) c1;exact⟨vs2,d1,d2.trans c2⟩
  cells:=λid cs e=>by
   obtain⟨⟨cs1,e1⟩,h1⟩:=h.cells id cs e;obtain⟨h2,h3⟩:=h'.cells id cs1 e1;exact⟨h2,h3.trans h1⟩
  lp:=λid L fr st e=>by
   obtain⟨⟨st1,e1⟩,h1⟩:=h.lp id L fr st e;obtain⟨h2,h3⟩:=h'.lp id L fr st1 e1;exact⟨h2,h3.trans h1⟩}
def noB:Nat->Option Nat:=λ_=>none
def ZqS (tl:List Deferred)(w0 w:World)(ds:List Deferred):Prop:=
 ∃ms ms2:List Nat,ds=ms.map (λD=>{target:=.collected D,args:=#[]})++(tl++ms2.map (λD=>{target:=.collected D,args:=#[]}))/\(ms++ms2).Nodup/\∀D∈ms++ms2,w0.heap.size<=D/\w.heap[D]?=some (.deferred (some []))
theorem ZqS.mono {tl:List Deferred}{w0 w w':World}{ds:List Deferred}(h:ZqS tl w0 w ds)(hw:∀D,w0.heap.size<=D->w.heap[D]?=some (.deferred (some []))->w'.heap[D]?=some (.deferred (some []))):ZqS tl w0 w' ds:=by
 obtain⟨ms,ms2,e,h1,h2⟩:=h;exact⟨ms,ms2,e,h1,λD hD=>⟨(h2 D hD).1,hw D (h2 D hD).1 (h2 D hD).2⟩⟩
structure Rel (k:K0) (n:Nat) (g:G) (s:St) (a:Act) (w:World):Prop where
 defers:ZqS k.tl k.w0 w a.defers
 rnd:∀l,k.rd=some l->∃r,w.heap[l]?=some (.loop r)
 tsz:a.tmps.size=n
 slots:∀t,VR (cx k g s.H w) (get s.fr t) (a.tmps.getD t undef)
 tops:∀t,top (get s.fr t)=true
 boxes:∀t cs,bget s.bx t=some cs->∃b,g.β t=some b/\BoxR (cx k g s.H w) b cs
 boxed:∀t b,g.β t=some b->(∃cs,bget s.bx t=some cs)/\k.w0.heap.size<=b
 heap:∀(id:Nat) o,s.H[id]?=some o->∃b,g.ρ[id]?=some b/\HoR (cx k g s.H w) b o
 len:g.ρ.length=s.H.length
 inj:∀(i j b:Nat),g.ρ[i]?=some b->g.ρ[j]?=some b->i=j
 binj:∀t u b,g.β t=some b->g.β u=some b->t=u
 apart:∀(t i b:Nat),g.β t=some b->g.ρ[i]?≠some b
 own:∀(i b:Nat),g.ρ[i]?=some b->k.w0.heap.size<=b∨k.D b
 keep:Keep k.D k.w0 w
 hist:Zbl (cx k ⟨k.ρ0,k.β0⟩ k.H0 k.hw) (cx k g s.H w)
theorem Zbr (fr:List (Nat×AV))(d t:Nat)(v:AV):get (put fr d v) t=if d=t then v else get fr t:=by
 induction fr with
 |nil=>simp[put,get]
 |cons p r ih=>
  obtain⟨u,x⟩:=p;simp only[put];by_cases h1:d<u
  ·simp only[h1,Zak,get]
  by_cases h2:d=u
  ·subst h2;simp only[Nat.lt_irrefl,Zah,Zak,get];by_cases h3:d=t<;>simp[h3]
  simp only[h1,h2,Zah,get,ih];by_cases h3:u=t
  ·subst h3;simp[h2]
  simp[h3]
theorem ZcJ (fr:List (Nat×List AV))(d t:Nat)(v:List AV):bget (bput fr d v) t=if d=t then some v else bget fr t:=by
 induction fr with
 |nil=>simp[bput,bget]
 |cons p r ih=>
  obtain⟨u,x⟩:=p;simp only[bput];by_cases h1:d<u
  ·simp only[h1,Zak,bget]
  by_cases h2:d=u
  ·subst h2;simp only[Nat.lt_irrefl,Zah,Zak,bget];by_cases h3:d=t<;>simp[h3]
  simp only[h1,h2,Zah,bget,ih];by_cases h3:u=t
  ·subst h3;simp[h2]
  simp[h3]
theorem Zd9 (d:Nat)(fr:List (Nat×AV))(t:Nat):
  get (Zf2 d fr) t=match get fr t with
   |.loc t' o=>if t'=d then .any else .loc t' o
   |v=>v:=by
 induction fr with
 |nil=>simp[Zf2,get]
 |cons p r ih=>
  obtain⟨u,v⟩:=p;by_cases h:u=t
  ·subst h;cases v<;>simp only[Zf2,get,Zak];split<;>simp[get]
  cases v<;>simp only[Zf2,get,h,Zah,ih];split<;>simp only[get,h,Zah,ih]
theorem ZpT (ks:List Nat)(fr:List (Nat×AV))(t:Nat):get (Znv ks fr) t=if ks.elem t then get fr t else .any:=by
 induction fr with
 |nil=>simp[Znv,get]
 |cons p r ih=>
  obtain⟨u,v⟩:=p;simp only[Znv];by_cases h:ks.elem u=true
  ·rw[Zaj h];simp only[get];by_cases e:u=t
   ·subst e;rw[Zaj rfl,Zaj h,Zaj rfl]
   rw[Zai e,ih,Zai e]
  rw[Zai h,ih];by_cases e:u=t
  ·subst e;rw[Zai h,Zai h]
  simp only[get,Zai e]
theorem Zro (ks:List Nat)(fr:List (Nat×List AV))(t:Nat):bget (Ztu ks fr) t=if ks.elem t then bget fr t else none:=by
 induction fr with
 |nil=>simp[Ztu,bget]
 |cons p r ih=>
  obtain⟨u,v⟩:=p;simp only[Ztu];by_cases h:ks.elem u=true
  ·rw[Zaj h];simp only[bget];by_cases e:u=t
   ·subst e;rw[Zaj rfl,Zaj h,Zaj rfl]
   rw[Zai e,ih,Zai e]
  rw[Zai h,ih];by_cases e:u=t
  ·subst e;rw[Zai h,Zai h]
  simp only[bget,Zai e]
theorem ZtQ {c c':Cx}(hβ:∀t b,c'.β t=some b->c.β t=some b){t o:Nat}{v:Value}(h:VR c (.loc t o) v):VR c' (.loc t o) v:=by
 rw[VR]at h⊢;obtain⟨b,e,hb⟩:=h;exact⟨b,e,λb' hb'=>hb b' (hβ t b' hb')⟩
theorem Zbz {c c':Cx}(h:Zbl c c')(hβ:∀t b,c'.β t=some b->c.β t=some b){x:AV}{v:Value}(ht:top x=true)(hv:VR c x v):VR c' x v:=by
 cases x with
 |loc t o=>exact ZtQ hβ hv
 |_=>exact VR.later h _ _ (by simpa[top]using ht) hv
theorem Zrn {c c':Cx}{b:Nat}(hb:∀o,c.w.heap[b]?=some o->c'.w.heap[b]?=some o){vs:Array Value}(h:c.blk b vs):c'.blk b vs:=
 let ⟨e,h⟩:=h;⟨e,hb _ h⟩
theorem BoxR.later {c c':Cx}(h:Zbl c c'){b:Nat}{cs:List AV}(hb:∀o,c.w.heap[b]?=some o->c'.w.heap[b]?=some o)(hv:BoxR c b cs):BoxR c' b cs:=by
 obtain⟨h1,vs,h2,h3⟩:=hv;exact⟨h1,vs,Zrn hb h2,VRL.later h cs _ (ZaM h1) h3⟩
theorem ArrR.later {c c':Cx}(h:Zbl c c'){b sz:Nat}{rows:List (List PC)}(hb:∀o,c.w.heap[b]?=some o->c'.w.heap[b]?=some o)(hv:ArrR c b sz rows):ArrR c' b sz rows:=by
 obtain⟨vs,h1,h2,h3⟩:=hv;refine⟨vs,Zrn hb h1,h2,λi r hi=>⟨(h3 i r hi).1,λj x hj=>?_⟩⟩;obtain⟨u,hu,hp⟩:=(h3 i r hi).2 j x hj;exact⟨u,hu,VR.later h _ u (ZgP x) hp⟩
theorem LpR.later {c c':Cx}(h:Zbl c c'){b:Nat}{L:LC}{fr:List (Nat×AV)}{st:LS}(hb:∀o,c.w.heap[b]?=some o->c'.w.heap[b]?=some o)(hv:LpR c b L fr st):LpR c' b L fr st:=by
 obtain⟨h0,r,h1,h2,h3,h5,h6,h7⟩:=hv;exact⟨h0,r,hb _ h1,h2,h3,h5,λt=>VR.later h _ _ (h0 t) (h6 t),h7⟩
theorem MpR.later {c c':Cx}(h:Zbl c c'){b:Nat}{st:LS}(hb:∀o,c.w.heap[b]?=some o->c'.w.heap[b]?=some o)(hv:MpR c b st):MpR c' b st:=by
 cases st with
 |mp ka es=>
  obtain⟨h0,hk,ents,clock,h1,h2,h3,h4⟩:=hv;exact⟨h0,hk,ents,clock,hb _ h1,h2,h3,VRL.later h _ _ (ZaM h0) h4⟩
 |mps ka es bs clock=>
  obtain⟨h0,hk,ents,h1,h2,h3,h4,h5⟩:=hv;exact⟨h0,hk,ents,hb _ h1,h2,h3,VRL.later h _ _ (ZaM h0) h4,h5⟩
 |it m since seen last=>
  obtain⟨bm,L,fr,st,h1,h2,h3⟩:=hv;obtain⟨⟨st',g1⟩,g2⟩:=h.lp m L fr st h1;exact⟨bm,L,fr,st',g1,by rw[g2];exact h2,hb _ h3⟩
 |itd=>obtain⟨m,x,y,z,h1⟩:=hv;exact⟨m,x,y,z,hb _ h1⟩
 |_=>exact hv
theorem HoR.later {c c':Cx}(h:Zbl c c'){b:Nat}{o:HO}(hb:∀o,c.w.heap[b]?=some o->c'.w.heap[b]?=some o)(hv:HoR c b o):HoR c' b o:=by
 cases o with
 |arr sz ver frz rows=>exact ArrR.later h hb hv
 |cells cs=>exact BoxR.later h hb hv
 |lp L fr st=>exact hv.imp (λ⟨e,hv⟩=>⟨e,LpR.later h hb hv⟩) (λ⟨e,hv⟩=>⟨e,MpR.later h hb hv⟩)
theorem HoR.obj {c:Cx}{b:Nat}{o:HO}(hv:HoR c b o):∃x,c.w.heap[b]?=some x:=by
 cases o with
 |arr sz ver frz rows=>obtain⟨vs,⟨e,hr⟩,_⟩:=hv;exact⟨_,hr⟩
 |cells cs=>obtain⟨_,vs,⟨e,hr⟩,_⟩:=hv;exact⟨_,hr⟩
 |lp L fr st=>
  rcases hv with⟨_,_,r,hr,_⟩|⟨_,hv⟩
  ·exact⟨_,hr⟩
  cases st with
  |mp ka es=>obtain⟨_,_,ents,clock,hr,_⟩:=hv;exact⟨_,hr⟩
  |mps ka es bs clock=>obtain⟨_,_,ents,hr,_⟩:=hv;exact⟨_,hr⟩
  |it m since seen last=>obtain⟨_,_,_,_,_,_,hr⟩:=hv;exact⟨_,hr⟩
  |itd=>obtain⟨_,_,_,_,hr⟩:=hv;exact⟨_,hr⟩
  |_=>exact hv.elim
theorem HoR.lt {c:Cx}{b:Nat}{o:HO}(hv:HoR c b o):b<c.w.heap.size:=let ⟨_,h⟩:=hv.obj;(Array.getElem?_eq_some_iff.1 h).1
theorem HoR.kind {c:Cx}{b:Nat}{o:HO}{x:Obj}(hv:HoR c b o)(hx:c.w.heap[b]?=some x):(∃vs e f,x=.cells vs e f)∨(∃r,x=.loop r/\∃L fr st,o=.lp L fr st/\L.mpk=false)∨(∃es n,x=.map es n)∨∃m a b c,x=.mapIter m a b c:=by
 cases o with
 |arr sz ver frz rows=>obtain⟨vs,⟨e,hr⟩,_⟩:=hv;rw[hr]at hx;exact .inl ⟨_,_,_,(Option.some.inj hx).symm⟩
 |cells cs=>obtain⟨_,vs,⟨e,hr⟩,_⟩:=hv;rw[hr]at hx;exact .inl ⟨_,_,_,(Option.some.inj hx).symm⟩
 |lp L fr st=>
  rcases hv with⟨hm,_,r,hr,_⟩|⟨_,hv⟩
  ·rw[hr]at hx;exact .inr (.inl ⟨_,(Option.some.inj hx).symm,L,fr,st,rfl,hm⟩)
  cases st with
  |mp ka es=>obtain⟨_,_,ents,clock,hr,_⟩:=hv;rw[hr]at hx;exact .inr (.inr (.inl ⟨_,_,(Option.some.inj hx).symm⟩))
  |mps ka es bs clock=>obtain⟨_,_,ents,hr,_⟩:=hv;rw[hr]at hx;exact .inr (.inr (.inl ⟨_,_,(Option.some.inj hx).symm⟩))
  |it m since seen last=>obtain⟨_,_,_,_,_,_,hr⟩:=hv;rw[hr]at hx;exact .inr (.inr (.inr ⟨_,_,_,_,(Option.some.inj hx).symm⟩))
  |itd=>obtain⟨_,_,_,_,hr⟩:=hv;rw[hr]at hx;exact .inr (.inr (.inr ⟨_,_,_,_,(Option.some.inj hx).symm⟩))
  |_=>exact hv.elim
theorem cx_β (k:K0)(g:G)(H:List HO)(w:World):(cx k g H w).β=g.β:=rfl
section
variable {k:K0} {n:Nat} {g:G} {s:St} {a:Act} {w:World}
theorem ZuD (a:Act)(d t:Nat)(v:Value)(h:d<a.tmps.size):(a.put (some d) v).tmps.getD t undef=if d=t then v else a.tmps.getD t undef:=by
 simp only[Act.put,Za];by_cases e:d=t
 ·subst e;simp[h]
 simp[e,Zc e]
theorem Rel.put (h:Rel k n g s a w){d:Nat}(hd:d<n){r:AV}{u:Value}(hr:VR (cx k g s.H w) r u)(ht:top r=true):
  Rel k n g {s with fr:=put s.fr d r} (a.put (some d) u) w:=
 {h with
  defers:=h.defers
  tsz:=by simp[Act.put,h.tsz]
  slots:=λt=>by
   rw[Zbr,ZuD a d t u (by rw[h.tsz];exact hd)];by_cases e:d=t
   ·simp only[e,Zak];exact hr
   simp only[e,Zah];exact h.slots t
  tops:=λt=>by
   rw[Zbr];by_cases e:d=t
   ·simp only[e,Zak];exact ht
   simp only[e,Zah];exact h.tops t}
theorem Rel.keepOnly (h:Rel k n g s a w)(ks:List Nat):∃g',Rel k n g' ⟨Znv ks s.fr,Ztu ks s.bx,s.H⟩ a w:=by
 let g':G:=⟨g.ρ,λt=>if ks.elem t then g.β t else none⟩
 have hβ:∀t b,g'.β t=some b->g.β t=some b:=λt b e=>by
  simp only[g']at e;split at e
  ·exact e
  cases e
 have hl:Zbl (cx k g s.H w) (cx k g' s.H w):=
  {stay:=λa u ho hc=>⟨hc,ho.1,λt e=>ho.2.1 t (hβ t _ e),ho.2.2⟩
   arr:=λid sz ver frz rows e=>⟨ver,frz,rows,e,Nat.le_refl _,λ_=>⟨Nat.le_refl _,rfl,λb vs _ hb=>⟨vs,hb,rfl⟩⟩⟩
   cells:=λid cs e=>⟨⟨cs,e⟩,rfl⟩
   lp:=λ_ _ _ st e=>⟨⟨st,e⟩,rfl⟩}
 refine⟨g',?_⟩;exact
  {defers:=h.defers
   rnd:=h.rnd
   tsz:=h.tsz
   slots:=λt=>by
    simp only[ZpT];split
    ·exact Zbz hl hβ (h.tops t) (h.slots t)
    simp[VR]
   tops:=λt=>by
    simp only[ZpT];split
    ·exact h.tops t
    rfl
   boxes:=λt cs e=>by
    simp only[Zro]at e;split at e
    ·rename_i hk;obtain⟨b,hb,hr⟩:=h.boxes t cs e;exact⟨b,by simp only[g',hk,Zak];exact hb,hr.later hl (λ_ hb=>hb)⟩
    cases e
   boxed:=λt b e=>by
    simp only[g']at e;split at e
    ·rename_i hk;obtain⟨⟨cs,hc⟩,hb⟩:=h.boxed t b e;exact⟨⟨cs,by simp only[Zro,hk,Zak];exact hc⟩,hb⟩
    cases e
   heap:=λid o e=>by
    obtain⟨b,hb,hr⟩:=h.heap id o e;exact⟨b,hb,hr.later hl (λ_ hb=>hb)⟩
   len:=h.len
   inj:=h.inj
   binj:=λt u b e1 e2=>h.binj t u b (hβ _ _ e1) (hβ _ _ e2)
   apart:=λt i b e=>h.apart t i b (hβ _ _ e)
   own:=h.own
   keep:=h.keep
   hist:=h.hist.trans hl}
end
end Go.Eng

namespace Go.Eng
open Go
theorem Zsl {w:World}{a:Addr}{u:Value}(h:w.cell? a=some u):a.block<w.heap.size:=by
 rcases Nat.lt_or_ge a.block w.heap.size with hlt|hge
 ·exact hlt
 simp[World.cell?,Array.getElem?_eq_none hge]at h
theorem ZmQ {c:Cx}{b:Nat}{vs:Array Value}(h:c.blk b vs)(i:Nat):c.w.cell? ⟨b,i,none⟩=vs[i]?:=by
 obtain⟨e,h⟩:=h;simp[World.cell?,h]
theorem ZyF {c:Cx}{b:Nat}{vs:Array Value}(h:c.blk b vs):b<c.w.heap.size:=by
 obtain⟨e,h⟩:=h;exact(Array.getElem?_eq_some_iff.1 h).1
structure Grow (w w':World):Prop where
 os:w'.os=w.os
 tape:w'.tape=w.tape
 output:w'.output=w.output
 size:w.heap.size<=w'.heap.size
 block:∀i,i<w.heap.size->w'.heap[i]?=w.heap[i]?
theorem Grow.alloc (w:World)(o:Obj):Grow w (w.alloc o):=
 ⟨rfl,rfl,rfl,by simp,λi hi=>RowKit.Below.heap_alloc w o i hi⟩
theorem Grow.cell {w w':World}(h:Grow w w'){a:Addr}{u:Value}(hc:w.cell? a=some u):w'.cell? a=some u:=by
 have:=Zsl hc;rw[World.cell?_of_block (h.block a.block this)];exact hc
theorem Grow.drew (w:World):Grow w w.drew:=⟨rfl,rfl,rfl,Nat.le_refl _,λ_ _=>rfl⟩
theorem Keep.grow {D:Nat->Prop}{w0 w w':World}(h:Keep D w0 w)(g:Grow w w'):Keep D w0 w':=
 ⟨g.os.trans h.os,g.tape.trans h.tape,g.output.trans h.output,Nat.le_trans h.size g.size,λi hi hD=>(g.block i (Nat.lt_of_lt_of_le hi h.size)).trans (h.block i hi hD)⟩
section
variable {k:K0} {n:Nat} {g:G} {s:St} {a:Act} {w:World}
theorem ZoG {H H':List HO}{g g':G}{w w':World}(h:Grow w w'){b:Nat}{vs:Array Value}(hb:(cx k g H w).blk b vs):(cx k g' H' w').blk b vs:=by
 have hlt:=ZyF hb;obtain⟨e,hb⟩:=hb;exact⟨e,(h.block b hlt).trans hb⟩
theorem ZeQ {w w':World}(h:Grow w w'){b:Nat}{o:Obj}(hb:w.heap[b]?=some o):w'.heap[b]?=some o:=
 (h.block b (Array.getElem?_eq_some_iff.1 hb).1).trans hb
theorem ZqS.grow {tl:List Deferred}{w0 w w':World}{ds:List Deferred}(h:ZqS tl w0 w ds)(hg:Grow w w'):ZqS tl w0 w' ds:=h.mono λ_ _=>ZeQ hg
theorem Rel.rndG (h:Rel k n g s a w){w':World}(hg:Grow w w'):∀l,k.rd=some l->∃r,w'.heap[l]?=some (.loop r):=λl hl=>
 let ⟨r,hr⟩:=h.rnd l hl;⟨r,ZeQ hg hr⟩
theorem Ze3 {w':World}(h:Grow w w')(H:List HO):Zbl (cx k g H w) (cx k g H w'):=
 {stay:=λa u ho hc=>⟨h.cell hc,ho⟩
  arr:=λid sz ver frz rows e=>⟨ver,frz,rows,e,Nat.le_refl _,λ_=>⟨Nat.le_refl _,rfl,λb vs _ hb=>⟨vs,ZoG h hb,rfl⟩⟩⟩
  cells:=λid cs e=>⟨⟨cs,e⟩,rfl⟩
  lp:=λ_ _ _ st e=>⟨⟨st,e⟩,rfl⟩}
theorem Rel.grow (h:Rel k n g s a w){w':World}(hg:Grow w w'):Rel k n g s a w':=
 have hl:=Ze3 (k:=k) (g:=g) hg s.H
 {h with
  defers:=h.defers.grow hg
  rnd:=h.rndG hg
  slots:=λt=>Zbz hl (λ_ _ e=>e) (h.tops t) (h.slots t)
  boxes:=λt cs e=>let ⟨b,hb,hr⟩:=h.boxes t cs e;⟨b,hb,hr.later hl λ_=>ZeQ hg⟩
  heap:=λid o e=>let ⟨b,hb,hr⟩:=h.heap id o e;⟨b,hb,hr.later hl λ_=>ZeQ hg⟩
  keep:=h.keep.grow hg
  hist:=h.hist.trans hl}
theorem β_lt (h:Rel k n g s a w){t b:Nat}(e:g.β t=some b):b<w.heap.size:=by
 obtain⟨⟨cs,hc⟩,_⟩:=h.boxed t b e;obtain⟨b',hb',_,vs,hr,_⟩:=h.boxes t cs hc;rw[e]at hb';cases hb';exact ZyF hr
theorem ρ_lt (h:Rel k n g s a w){id b:Nat}(e:g.ρ[id]?=some b):b<w.heap.size:=by
 have hlt:id<s.H.length:=by rw[←h.len];exact(List.getElem?_eq_some_iff.1 e).1
 obtain⟨b',hb',hr⟩:=h.heap id s.H[id] (ZF hlt);rw[e]at hb';cases hb';exact hr.lt
theorem Rel.newBox (h:Rel k n g s a w){d:Nat}(hd:d<n){cs:List AV}{vs:Array Value}(hok:ZaL cs=true)(hv:VRL (cx k g s.H w) cs vs.toList)(e:TypeId):
  ∃g',Rel k n g' ⟨Eng.put (Zf2 d s.fr) d (.loc d 0),bput s.bx d cs,s.H⟩ (a.put (some d) (.pointer (some ⟨w.heap.size,0,none⟩))) (w.alloc (.cells vs e)):=by
 let g':G:=⟨g.ρ,λt=>if d=t then some w.heap.size else g.β t⟩
 have hg:=Grow.alloc w (.cells vs e);have hβ:∀t b,t≠d->g'.β t=some b->g.β t=some b:=λt b hne e=>by
  simp only[g']at e;rw[Zai (Ne.symm hne)]at e;exact e
 have hl:Zbl (cx k g s.H w) (cx k g' s.H (w.alloc (.cells vs e))):=
  {stay:=λa u ho hc=>⟨hg.cell hc,ho.1,λt e'=>by
    have:=Zsl hc;simp only[g']at e';split at e'
    ·simp at e';exact Nat.ne_of_lt this e'.symm
    exact ho.2.1 t e',ho.2.2⟩
   arr:=λid sz ver frz rows e=>⟨ver,frz,rows,e,Nat.le_refl _,λ_=>⟨Nat.le_refl _,rfl,λb vs _ hb=>⟨vs,ZoG hg hb,rfl⟩⟩⟩
   cells:=λid cs e=>⟨⟨cs,e⟩,rfl⟩
   lp:=λ_ _ _ st e=>⟨⟨st,e⟩,rfl⟩}
 refine⟨g',?_⟩;exact
  {defers:=h.defers.grow hg
   rnd:=h.rndG hg
   tsz:=by simp[Act.put,h.tsz]
   slots:=λt=>by
    simp only[Zbr];rw[ZuD a d t _ (by rw[h.tsz];exact hd)];by_cases he:d=t
    ·subst he;simp only[Zak];rw[VR];refine⟨w.heap.size,rfl,λb' hb=>?_⟩;simp only[cx_β,g',Zak]at hb;cases hb;rfl
    simp only[he,Zah];have hs:=h.slots t;have ht:=h.tops t;rw[Zd9];generalize get s.fr t=x at hs ht;cases x with
    |loc t' o=>
     simp only;split
     ·simp[VR]
     rename_i hne;rw[VR]at hs⊢;obtain⟨b0,e0,hs⟩:=hs;exact⟨b0,e0,λb hb=>hs b (hβ t' b hne hb)⟩
    |_=>exact VR.later hl _ _ (by simpa[top]using ht) hs
   tops:=λt=>by
    simp only[Zbr,Zd9];split
    ·rfl
    have ht:=h.tops t;generalize get s.fr t=x at ht;cases x with
    |loc t' o=>simp only;split<;>rfl
    |_=>simpa using ht
   boxes:=λt cs' e'=>by
    simp only[ZcJ]at e';by_cases he:d=t
    ·subst he;simp only[Zak,Zab]at e';subst e';exact⟨w.heap.size,by simp[g'],hok,vs,⟨e,heap_alloc_new w _⟩,VRL.later hl cs _ (ZaM hok) hv⟩
    simp only[he,Zah]at e';obtain⟨b,hb,hr⟩:=h.boxes t cs' e';exact⟨b,by simp only[g',he,Zah];exact hb,hr.later hl λ_=>ZeQ hg⟩
   boxed:=λt b e'=>by
    by_cases he:d=t
    ·subst he;simp only[g',Zak,Zab]at e';subst e';exact⟨⟨cs,by simp[ZcJ]⟩,h.keep.size⟩
    obtain⟨⟨cs',hc⟩,hb⟩:=h.boxed t b (hβ t b (Ne.symm he) e');exact⟨⟨cs',by simp only[ZcJ,he,Zah];exact hc⟩,hb⟩
   heap:=λid o e'=>let ⟨b,hb,hr⟩:=h.heap id o e';⟨b,hb,hr.later hl λ_=>ZeQ hg⟩
   len:=h.len
   inj:=h.inj
   binj:=λt u b e1 e2=>by
    by_cases h1:d=t<;>by_cases h2:d=u
    ·omega
    ·subst h1;have:=β_lt h (hβ u b (Ne.symm h2) e2);simp only[g',Zak,Zab]at e1;omega
    ·subst h2;have:=β_lt h (hβ t b (Ne.symm h1) e1);simp only[g',Zak,Zab]at e2;omega
    exact h.binj t u b (hβ t b (Ne.symm h1) e1) (hβ u b (Ne.symm h2) e2)
   apart:=λt i b e1 e2=>by
    by_cases h1:d=t
    ·subst h1;have:=ρ_lt h e2;simp only[g',Zak,Zab]at e1;omega
    exact h.apart t i b (hβ t b (Ne.symm h1) e1) e2
   own:=h.own
   keep:=h.keep.grow hg
   hist:=h.hist.trans hl}
theorem ρ_new (h:Rel k n g s a w)(id b:Nat)(hb:(g.ρ++[w.heap.size])[id]?=some b):g.ρ[id]?=some b∨(b=w.heap.size/\id=s.H.length):=by
 rcases Nat.lt_or_ge id g.ρ.length with hlt|hge
 ·left;rwa [ZA hlt]at hb
 right;rw[ZB hge]at hb;have:id-g.ρ.length=0:=by
  rcases Nat.eq_zero_or_pos (id-g.ρ.length)with h0|h0
  ·exact h0
  rw[ZG (by simp;omega)]at hb;cases hb
 rw[this]at hb;simp at hb;exact⟨hb.symm,by rw[←h.len];omega⟩
theorem Rel.laterNewG (h:Rel k n g s a w){o:HO}(x:Obj):
  Zbl (cx k g s.H w) (cx k ⟨g.ρ++[w.heap.size],g.β⟩ (s.H++[o]) (w.alloc x)):=by
 have hg:=Grow.alloc w x;have hH:∀(id:Nat) y,s.H[id]?=some y->(s.H++[o])[id]?=some y:=λid y hx=>by
  rw[ZA (List.getElem?_eq_some_iff.1 hx).1];exact hx
 have hρ:∀(id:Nat),id<s.H.length->(g.ρ++[w.heap.size])[id]?=g.ρ[id]?:=λid hid=>by
  rw[ZA (by rw[h.len];exact hid)]
 exact
  {stay:=λa u hk hc=>⟨hg.cell hc,hk.1,hk.2.1,λid e'=>by
    rcases ρ_new h id _ e' with e'|⟨e',_⟩
    ·obtain⟨sz,ver,rows,h1,h2⟩:=hk.2.2 id e';exact⟨sz,ver,rows,hH _ _ h1,h2⟩
    have hlt:a.block<w.heap.size:=Zsl hc;omega⟩
   arr:=λid sz ver frz rows e'=>⟨ver,frz,rows,hH _ _ e',Nat.le_refl _,λ_=>⟨Nat.le_refl _,hρ id (List.getElem?_eq_some_iff.1 e').1,λb vs _ hb=>⟨vs,ZoG hg hb,rfl⟩⟩⟩
   cells:=λid cs e'=>⟨⟨cs,hH _ _ e'⟩,hρ id (List.getElem?_eq_some_iff.1 e').1⟩
   lp:=λid _ _ st e'=>⟨⟨st,hH _ _ e'⟩,hρ id (List.getElem?_eq_some_iff.1 e').1⟩}
theorem Rel.newObjG (h:Rel k n g s a w){o:HO}(x:Obj)
  (ho:HoR (cx k ⟨g.ρ++[w.heap.size],g.β⟩ (s.H++[o]) (w.alloc x)) w.heap.size o):
  Rel k n ⟨g.ρ++[w.heap.size],g.β⟩ ⟨s.fr,s.bx,s.H++[o]⟩ a (w.alloc x)/\Zbl (cx k g s.H w) (cx k ⟨g.ρ++[w.heap.size],g.β⟩ (s.H++[o]) (w.alloc x)):=by
 have hg:=Grow.alloc w x;have hρ:∀(id:Nat),id<s.H.length->(g.ρ++[w.heap.size])[id]?=g.ρ[id]?:=λid hid=>by
  rw[ZA (by rw[h.len];exact hid)]
 have hρ':=ρ_new h;have hl:=h.laterNewG (o:=o) x;refine⟨?_,hl⟩;exact
  {defers:=h.defers.grow hg
   rnd:=h.rndG hg
   tsz:=h.tsz
   slots:=λt=>Zbz hl (λ_ _ e=>e) (h.tops t) (h.slots t)
   tops:=h.tops
   boxes:=λt cs e=>let ⟨b,hb,hr⟩:=h.boxes t cs e;⟨b,hb,hr.later hl λ_=>ZeQ hg⟩
   boxed:=h.boxed
   heap:=λid y e'=>by
    rcases Nat.lt_or_ge id s.H.length with hlt|hge
    ·rw[ZA hlt]at e';obtain⟨b,hb,hr⟩:=h.heap id y e';exact⟨b,by show(g.ρ++[w.heap.size])[id]?=_;rw[hρ id hlt];exact hb,hr.later hl λ_=>ZeQ hg⟩
    rw[ZB hge]at e';have h0:id-s.H.length=0:=by
     rcases Nat.eq_zero_or_pos (id-s.H.length)with h0|h0
     ·exact h0
     rw[ZG (by simp;omega)]at e';cases e'
    rw[h0]at e';simp at e';subst e';refine⟨w.heap.size,?_,ho⟩;show(g.ρ++[w.heap.size])[id]?=_;rw[ZB (by rw[h.len];exact hge),h.len,h0];rfl
   len:=by simp[h.len]
   inj:=λi j b e1 e2=>by
    rcases hρ' i b e1 with e1|⟨e1,i1⟩<;>rcases hρ' j b e2 with e2|⟨e2,i2⟩
    ·exact h.inj i j b e1 e2
    ·have:=ρ_lt h e1;omega
    ·have:=ρ_lt h e2;omega
    omega
   binj:=h.binj
   apart:=λt i b e1 e2=>by
    rcases hρ' i b e2 with e2|⟨e2,_⟩
    ·exact h.apart t i b e1 e2
    have:=β_lt h e1;omega
   own:=λi b e1=>by
    rcases hρ' i b e1 with e1|⟨e1,_⟩
    ·exact h.own i b e1
    left;rw[e1];exact h.keep.size
   keep:=h.keep.grow hg
   hist:=h.hist.trans hl}
theorem Rel.laterNew (h:Rel k n g s a w){o:HO}{vs:Array Value}(e:TypeId):
  Zbl (cx k g s.H w) (cx k ⟨g.ρ++[w.heap.size],g.β⟩ (s.H++[o]) (w.alloc (.cells vs e))):=h.laterNewG _
theorem Rel.newObj (h:Rel k n g s a w){o:HO}{vs:Array Value}(e:TypeId)
  (ho:HoR (cx k ⟨g.ρ++[w.heap.size],g.β⟩ (s.H++[o]) (w.alloc (.cells vs e))) w.heap.size o):
  Rel k n ⟨g.ρ++[w.heap.size],g.β⟩ ⟨s.fr,s.bx,s.H++[o]⟩ a (w.alloc (.cells vs e))/\Zbl (cx k g s.H w) (cx k ⟨g.ρ++[w.heap.size],g.β⟩ (s.H++[o]) (w.alloc (.cells vs e))):=
 h.newObjG _ ho
structure Upd (w w':World) (b:Nat) (vs':Array Value):Prop where
 os:w'.os=w.os
 tape:w'.tape=w.tape
 output:w'.output=w.output
 size:w'.heap.size=w.heap.size
 here:∃e,w'.heap[b]?=some (.cells vs' e (0,0))
 block:∀i,i≠b->w'.heap[i]?=w.heap[i]?
theorem Upd.setRow {c:Cx}{b:Nat}{vs:Array Value}(h:c.blk b vs)(vs':Array Value):Upd c.w (c.w.setRow b vs') b vs':=by
 obtain⟨e,h⟩:=h;refine⟨rfl,rfl,rfl,by simp,⟨e,setRow_heap c.w b vs vs' e (0,0) h⟩,λi hi=>?_⟩;simp only[World.setRow,Array.getElem?_modify];rw[Zai (Ne.symm hi)]
theorem Keep.upd {D:Nat->Prop}{w0 w w':World}{b:Nat}{vs':Array Value}(h:Keep D w0 w)(u:Upd w w' b vs')(hb:w0.heap.size<=b∨D b):Keep D w0 w':=
 ⟨u.os.trans h.os,u.tape.trans h.tape,u.output.trans h.output,by rw[u.size];exact h.size,λi hi hD=>by
  rw[u.block i (λe=>by subst e;rcases hb with hb|hb;omega;exact hD hb)];exact h.block i hi hD⟩
theorem Zut {H H':List HO}{g g':G}{w w':World}{b':Nat}{vs':Array Value}(h:Upd w w' b' vs'){b:Nat}{vs:Array Value}(hne:b≠b')(hb:(cx k g H w).blk b vs):(cx k g' H' w').blk b vs:=by
 obtain⟨e,hb⟩:=hb;exact⟨e,(h.block b hne).trans hb⟩
theorem Zsk {w w':World}{b:Nat}{vs':Array Value}(h:Upd w w' b vs'){a:Addr}(hne:a.block≠b):w'.cell? a=w.cell? a:=
 World.cell?_of_block (h.block a.block hne)
theorem Zky {w w':World}{b':Nat}{vs':Array Value}(h:Upd w w' b' vs'){b:Nat}(hne:b≠b'){o:Obj}(hb:w.heap[b]?=some o):w'.heap[b]?=some o:=
 (h.block b hne).trans hb
theorem ZqS.upd {H:List HO}{tl:List Deferred}{w0 w w':World}{ds:List Deferred}(h:ZqS tl w0 w ds){b:Nat}{vs vs':Array Value}(hv:(cx k g H w).blk b vs)(u:Upd w w' b vs'):ZqS tl w0 w' ds:=
 h.mono λD _ hD=>Zky u (λe=>by obtain⟨e',hv⟩:=hv;subst e;rw[show w.heap[D]?=_ from hv]at hD;cases hD) hD
theorem Rel.rndU (h:Rel k n g s a w){H:List HO}{w':World}{b:Nat}{vs vs':Array Value}(hv:(cx k g H w).blk b vs)(u:Upd w w' b vs'):∀l,k.rd=some l->∃r,w'.heap[l]?=some (.loop r):=λl hl=>
 let ⟨r,hr⟩:=h.rnd l hl;⟨r,Zky u (λe=>by obtain⟨e',hv⟩:=hv;subst e;rw[show w.heap[l]?=_ from hv]at hr;cases hr) hr⟩
theorem Rel.setBox (h:Rel k n g s a w){t b:Nat}(hβ:g.β t=some b){vs vs':Array Value}(hv:(cx k g s.H w).blk b vs)(hsz:vs'.size=vs.size){w':World}(u:Upd w w' b vs'){cs':List AV}
  (hok:ZaL cs'=true) (hr:VRL (cx k g s.H w) cs' vs'.toList):
  Rel k n g ⟨s.fr,bput s.bx t cs',s.H⟩ a w':=by
 have hl:Zbl (cx k g s.H w) (cx k g s.H w'):=
  {stay:=λa x ho hc=>⟨(Zsk u (λe=>ho.2.1 t (by rw[e];exact hβ))).trans hc,ho⟩
   arr:=λid sz ver frz rows e=>⟨ver,frz,rows,e,Nat.le_refl _,λ_=>⟨Nat.le_refl _,rfl,λb' vs1 hb' hb1=>by
    exact⟨vs1,Zut u (λe=>h.apart t id b hβ (by rw[←e];exact hb')) hb1,rfl⟩⟩⟩
   cells:=λid cs e=>⟨⟨cs,e⟩,rfl⟩
   lp:=λ_ _ _ st e=>⟨⟨st,e⟩,rfl⟩}
 exact
  {h with
   defers:=h.defers.upd hv u
   rnd:=h.rndU hv u
   slots:=λt=>Zbz hl (λ_ _ e=>e) (h.tops t) (h.slots t)
   boxes:=λt' cs e=>by
    simp only[ZcJ]at e;by_cases he:t=t'
    ·subst he;simp only[Zak,Zab]at e;subst e;exact⟨b,hβ,hok,vs',u.here,VRL.later hl cs' _ (ZaM hok) hr⟩
    simp only[he,Zah]at e;obtain⟨b',hb',hr'⟩:=h.boxes t' cs e;exact⟨b',hb',hr'.later hl λ_=>Zky u (λe=>he (h.binj t t' b hβ (by rw[←e];exact hb')))⟩
   boxed:=λt' b' e=>by
    obtain⟨⟨cs,hc⟩,hb⟩:=h.boxed t' b' e;refine⟨?_,hb⟩;by_cases he:t=t'
    ·exact⟨cs',by simp[ZcJ,he]⟩
    exact⟨cs,by simp only[ZcJ,he,Zah];exact hc⟩
   heap:=λid o e=>by
    obtain⟨b',hb',hr'⟩:=h.heap id o e;exact⟨b',hb',hr'.later hl λ_=>Zky u (λe=>h.apart t id b hβ (by rw[←e];exact hb'))⟩
   keep:=h.keep.upd u (.inl (h.boxed t b hβ).2)
   hist:=h.hist.trans hl}
theorem Rel.setObj (h:Rel k n g s a w){id b:Nat}(hρ:g.ρ[id]?=some b){o o':HO}(hH:s.H[id]?=some o)
  (hkind:(∃cs cs',o=.cells cs/\o'=.cells cs')∨∃sz ver rows rows',o=.arr sz ver false rows/\o'=.arr sz ver false rows'/\rows.length<=rows'.length)
  {vs vs':Array Value} (hv:(cx k g s.H w).blk b vs) (hsz:vs'.size=vs.size) {w':World} (u:Upd w w' b vs')
  (hr:Zbl (cx k g s.H w) (cx k g (s.H.set id o') w')->HoR (cx k g (s.H.set id o') w') b o'):
  Rel k n g ⟨s.fr,s.bx,s.H.set id o'⟩ a w':=by
 have hid:id<s.H.length:=(List.getElem?_eq_some_iff.1 hH).1;have hget:∀(j:Nat),(s.H.set id o')[j]?=if id=j then some o' else s.H[j]?:=λj=>by
  rw[ZJ];by_cases e:id=j
  ·subst e;simp[hid]
  simp[e]
 have hnf:∀(sz ver:Nat) rows,o≠.arr sz ver true rows:=by
  rintro sz ver rows rfl;rcases hkind with⟨cs,cs',e,_⟩|⟨sz',ver',r1,r2,e,_⟩<;>cases e
 have hl:Zbl (cx k g s.H w) (cx k g (s.H.set id o') w'):=
  {stay:=λa x ho hc=>by
    have hne:a.block≠b:=λe=>by
     obtain⟨sz,ver,rows,h1,_⟩:=ho.2.2 id (by rw[e];exact hρ);rw[hH]at h1;cases h1;exact hnf _ _ _ rfl
    refine⟨(Zsk u hne).trans hc,ho.1,ho.2.1,λj hj=>?_⟩;obtain⟨sz,ver,rows,h1,h2⟩:=ho.2.2 j hj;refine⟨sz,ver,rows,?_,h2⟩;show(s.H.set id o')[j]?=_;rw[hget,Zai (λe=>by subst e;rw[hH]at h1;cases h1;exact hnf _ _ _ rfl)];exact h1
   arr:=λj sz ver frz rows e=>by
    by_cases he:id=j
    ·subst he;have e':s.H[id]?=some (.arr sz ver frz rows):=e;rw[hH]at e';cases e';rcases hkind with⟨cs,cs',e,_⟩|⟨sz',ver',r1,r2,e,e2,hle⟩
     ·cases e
     cases e;refine⟨ver,false,r2,?_,Nat.le_refl _,λ_=>⟨hle,rfl,λb' vs1 hb' hb1=>?_⟩⟩
     ·show(s.H.set id o')[id]?=_;rw[hget,Zaj rfl,e2]
     have eb:b'=b:=by
      have:g.ρ[id]?=some b':=hb';rw[hρ]at this;cases this;rfl
     subst eb;have:vs1=vs:=by
      obtain⟨e1,h1⟩:=hb1;obtain⟨e2,h2⟩:=hv;have:=h1.symm.trans h2;simp at this;exact this.1
     subst this;exact⟨vs',u.here,hsz⟩
    refine⟨ver,frz,rows,?_,Nat.le_refl _,λ_=>⟨Nat.le_refl _,rfl,λb' vs1 hb' hb1=>⟨vs1,?_,rfl⟩⟩⟩
    ·show(s.H.set id o')[j]?=_;rw[hget,Zai he];exact e
    exact Zut u (λe=>he (h.inj id j b hρ (by rw[←e];exact hb'))) hb1
   cells:=λj cs e=>by
    refine⟨?_,rfl⟩;by_cases he:id=j
    ·subst he;have e':s.H[id]?=some (.cells cs):=e;rw[hH]at e';cases e';rcases hkind with⟨cs1,cs',e,e2⟩|⟨sz',ver',r1,r2,e,_⟩
     ·exact⟨cs',by show(s.H.set id o')[id]?=_;rw[hget,Zaj rfl,e2]⟩
     cases e
    exact⟨cs,by show(s.H.set id o')[j]?=_;rw[hget,Zai he];exact e⟩
   lp:=λj L fr st e=>by
    refine⟨⟨st,?_⟩,rfl⟩;show(s.H.set id o')[j]?=_;rw[hget,Zai (λhe=>by
     subst he;have e':s.H[id]?=some (.lp L fr st):=e;rw[hH]at e';cases e';rcases hkind with⟨cs,cs',e,_⟩|⟨sz',ver',r1,r2,e,_⟩<;>cases e)]
    exact e}
 exact
  {h with
   defers:=h.defers.upd hv u
   rnd:=h.rndU hv u
   slots:=λt=>Zbz hl (λ_ _ e=>e) (h.tops t) (h.slots t)
   boxes:=λt cs e=>by
    obtain⟨b',hb',hr'⟩:=h.boxes t cs e;exact⟨b',hb',hr'.later hl λ_=>Zky u (λe=>h.apart t id b' hb' (by rw[e];exact hρ))⟩
   heap:=λj x e=>by
    simp only[hget]at e;by_cases he:id=j
    ·subst he;simp only[Zak,Zab]at e;subst e;exact⟨b,hρ,hr hl⟩
    simp only[he,Zah]at e;obtain⟨b',hb',hr'⟩:=h.heap j x e;exact⟨b',hb',hr'.later hl λ_=>Zky u (λe=>he (h.inj id j b hρ (by rw[←e];exact hb')))⟩
   len:=by simp[h.len]
   keep:=h.keep.upd u (h.own id b hρ)
   hist:=h.hist.trans hl}
theorem Rel.freeze (h:Rel k n g s a w){id sz ver:Nat}{frz:Bool}{rows:List (List PC)}(hH:s.H[id]?=some (.arr sz ver frz rows)):
  Rel k n g ⟨s.fr,s.bx,s.H.set id (.arr sz ver true rows)⟩ a w/\Zbl (cx k g s.H w) (cx k g (s.H.set id (.arr sz ver true rows)) w):=by
 have hid:id<s.H.length:=(List.getElem?_eq_some_iff.1 hH).1;have hget:∀(j:Nat),(s.H.set id (.arr sz ver true rows))[j]?=if id=j then some (.arr sz ver true rows)else s.H[j]?:=λj=>by
  rw[ZJ];by_cases e:id=j
  ·subst e;simp[hid]
  simp[e]
 have hl:Zbl (cx k g s.H w) (cx k g (s.H.set id (.arr sz ver true rows)) w):=
  {stay:=λa x ho hc=>by
    refine⟨hc,ho.1,ho.2.1,λj hj=>?_⟩;obtain⟨sz1,ver1,rows1,h1,h2⟩:=ho.2.2 j hj;by_cases he:id=j
    ·subst he;rw[hH]at h1;cases h1;exact⟨sz,ver,rows,by rw[hget,Zaj rfl],h2⟩
    exact⟨sz1,ver1,rows1,by rw[hget,Zai he];exact h1,h2⟩
   arr:=λj sz1 ver1 frz1 rows1 e=>by
    by_cases he:id=j
    ·subst he;have e':s.H[id]?=some (.arr sz1 ver1 frz1 rows1):=e;rw[hH]at e';cases e';exact⟨ver,true,rows,by show(s.H.set _ _)[_]?=_;rw[hget,Zaj rfl],Nat.le_refl _,λ_=>⟨Nat.le_refl _,rfl,λb vs _ hb=>⟨vs,hb,rfl⟩⟩⟩
    exact⟨ver1,frz1,rows1,by show(s.H.set _ _)[_]?=_;rw[hget,Zai he];exact e,Nat.le_refl _,λ_=>⟨Nat.le_refl _,rfl,λb vs _ hb=>⟨vs,hb,rfl⟩⟩⟩
   cells:=λj cs e=>by
    refine⟨⟨cs,?_⟩,rfl⟩;show(s.H.set _ _)[_]?=_;rw[hget,Zai (λhe=>by subst he;have e':s.H[id]?=some (.cells cs):=e;rw[hH]at e';cases e')];exact e
   lp:=λj L fr st e=>by
    refine⟨⟨st,?_⟩,rfl⟩;show(s.H.set _ _)[_]?=_;rw[hget,Zai (λhe=>by subst he;have e':s.H[id]?=some (.lp L fr st):=e;rw[hH]at e';cases e')];exact e}
 refine⟨?_,hl⟩;exact
  {h with
   slots:=λt=>Zbz hl (λ_ _ e=>e) (h.tops t) (h.slots t)
   boxes:=λt cs e=>let ⟨b,hb,hr⟩:=h.boxes t cs e;⟨b,hb,hr.later hl λ_ hb=>hb⟩
   heap:=λj x e=>by
    simp only[hget]at e;by_cases he:id=j
    ·subst he;simp only[Zak,Zab]at e;subst e;obtain⟨b,hb,hr⟩:=h.heap id _ hH;exact⟨b,hb,ArrR.later hl (λ_ hb=>hb) hr⟩
    simp only[he,Zah]at e;obtain⟨b,hb,hr⟩:=h.heap j x e;exact⟨b,hb,hr.later hl λ_ hb=>hb⟩
   len:=by simp[h.len]
   hist:=h.hist.trans hl}
end
end Go.Eng

namespace Go.Eng
open Go
section
variable {k:K0} {n:Nat} {g:G} {s:St} {a:Act} {w:World}
theorem Zgb {H:List HO}{id:Nat}{o:HO}(o':HO)(hH:H[id]?=some o)(j:Nat):(H.set id o')[j]?=if id=j then some o' else H[j]?:=by
 have hid:id<H.length:=(List.getElem?_eq_some_iff.1 hH).1;rw[ZJ];by_cases e:id=j
 ·subst e;simp[hid]
 simp[e]
theorem Rel.appendIn (h:Rel k n g s a w){id b sz ver:Nat}{frz:Bool}{rows new:List (List PC)}(hρ:g.ρ[id]?=some b)(hH:s.H[id]?=some (.arr sz ver frz rows))
  {vs vs':Array Value} (hv:(cx k g s.H w).blk b vs) (hsz:vs'.size=vs.size) {w':World} (u:Upd w w' b vs')
  (hold:∀j,j<rows.length*sz->vs'[j]?=vs[j]?)
  (hr:Zbl (cx k g s.H w) (cx k g (s.H.set id (.arr sz (ver+1) frz (rows++new))) w')->ArrR (cx k g (s.H.set id (.arr sz (ver+1) frz (rows++new))) w') b sz (rows++new)):
  Rel k n g ⟨s.fr,s.bx,s.H.set id (.arr sz (ver+1) frz (rows++new))⟩ a w':=by
 have hget:=Zgb (.arr sz (ver+1) frz (rows++new)) hH;generalize ho':HO.arr sz (ver+1) frz (rows++new)=o' at*;have hl:Zbl (cx k g s.H w) (cx k g (s.H.set id o') w'):=
  {stay:=λa x ho hc=>by
    refine⟨?_,ho.1,ho.2.1,λj hj=>?_⟩
    ·by_cases hne:a.block=b
     ·obtain⟨sz1,ver1,rows1,h1,h2⟩:=ho.2.2 id (by rw[hne];exact hρ);rw[hH]at h1;cases h1;obtain⟨e1,hv1⟩:=hv;obtain⟨e2,hv2⟩:=u.here;have hc':w.cell? a=some x:=hc;show w'.cell? a=some x;have hv1':w.heap[b]?=some (.cells vs e1 (0,0)):=hv1;unfold World.cell? at hc'⊢;rw[hne,hv1']at hc';rw[hne,hv2];simp only at hc'⊢;split at hc'
      ·cases hc'
      rename_i hs;rw[Zai hs,hold _ h2];exact hc'
     exact(Zsk u hne).trans hc
    obtain⟨sz1,ver1,rows1,h1,h2⟩:=ho.2.2 j hj;by_cases he:id=j
    ·subst he;rw[hH]at h1;cases h1;refine⟨sz,ver+1,rows++new,?_,?_⟩
     ·rw[hget,Zaj rfl,←ho']
     simp only[ZM,Z6];omega
    exact⟨sz1,ver1,rows1,by rw[hget,Zai he];exact h1,h2⟩
   arr:=λj sz1 ver1 frz1 rows1 e=>by
    by_cases he:id=j
    ·subst he;have e':s.H[id]?=some (.arr sz1 ver1 frz1 rows1):=e;rw[hH]at e';cases e';refine⟨ver+1,frz,rows++new,?_,by omega,λe=>by omega⟩;show(s.H.set id o')[id]?=_;rw[hget,Zaj rfl,ho']
    refine⟨ver1,frz1,rows1,?_,Nat.le_refl _,λ_=>⟨Nat.le_refl _,rfl,λb' vs1 hb' hb1=>⟨vs1,?_,rfl⟩⟩⟩
    ·show(s.H.set id o')[j]?=_;rw[hget,Zai he];exact e
    exact Zut u (λe=>he (h.inj id j b hρ (by rw[←e];exact hb'))) hb1
   cells:=λj cs e=>by
    refine⟨⟨cs,?_⟩,rfl⟩;show(s.H.set id o')[j]?=_;rw[hget,Zai (λhe=>by subst he;have e':s.H[id]?=some (.cells cs):=e;rw[hH]at e';cases e')];exact e
   lp:=λj L fr st e=>by
    refine⟨⟨st,?_⟩,rfl⟩;show(s.H.set id o')[j]?=_;rw[hget,Zai (λhe=>by subst he;have e':s.H[id]?=some (.lp L fr st):=e;rw[hH]at e';cases e')];exact e}
 exact
  {h with
   defers:=h.defers.upd hv u
   rnd:=h.rndU hv u
   slots:=λt=>Zbz hl (λ_ _ e=>e) (h.tops t) (h.slots t)
   boxes:=λt cs e=>by
    obtain⟨b',hb',hr'⟩:=h.boxes t cs e;exact⟨b',hb',hr'.later hl λ_=>Zky u (λe=>h.apart t id b' hb' (by rw[e];exact hρ))⟩
   heap:=λj x e=>by
    simp only[hget]at e;by_cases he:id=j
    ·subst he;simp only[Zak,Zab]at e;subst e;refine⟨b,hρ,?_⟩;rw[←ho']at hr hl⊢;exact hr hl
    simp only[he,Zah]at e;obtain⟨b',hb',hr'⟩:=h.heap j x e;exact⟨b',hb',hr'.later hl λ_=>Zky u (λe=>he (h.inj id j b hρ (by rw[←e];exact hb')))⟩
   len:=by simp[h.len]
   keep:=h.keep.upd u (h.own id b hρ)
   hist:=h.hist.trans hl}
theorem Rel.appendNew (h:Rel k n g s a w){id b sz ver:Nat}{frz:Bool}{rows new:List (List PC)}(hρ:g.ρ[id]?=some b)(hH:s.H[id]?=some (.arr sz ver frz rows))
  {vs:Array Value} (e:TypeId)
  (hr:Zbl (cx k g s.H w) (cx k ⟨g.ρ.set id w.heap.size,g.β⟩ (s.H.set id (.arr sz (ver+1) frz (rows++new))) (w.alloc (.cells vs e)))→
   ArrR (cx k ⟨g.ρ.set id w.heap.size,g.β⟩ (s.H.set id (.arr sz (ver+1) frz (rows++new))) (w.alloc (.cells vs e))) w.heap.size sz (rows++new)):
  Rel k n ⟨g.ρ.set id w.heap.size,g.β⟩ ⟨s.fr,s.bx,s.H.set id (.arr sz (ver+1) frz (rows++new))⟩ a (w.alloc (.cells vs e)):=by
 have hget:=Zgb (.arr sz (ver+1) frz (rows++new)) hH;have hg:=Grow.alloc w (.cells vs e);generalize hg':(⟨g.ρ.set id w.heap.size,g.β⟩:G)=g' at*;generalize ho':HO.arr sz (ver+1) frz (rows++new)=o' at*;generalize hw':w.alloc (.cells vs e)=w' at*;have hid:id<g.ρ.length:=(List.getElem?_eq_some_iff.1 hρ).1;have hβ:g'.β=g.β:=by rw[←hg']
 have hρ':∀(j:Nat),g'.ρ[j]?=if id=j then some w.heap.size else g.ρ[j]?:=λj=>by
  rw[←hg'];show(g.ρ.set id w.heap.size)[j]?=_;rw[ZJ];by_cases e:id=j
  ·subst e;simp[hid]
  simp[e]
 have hl:Zbl (cx k g s.H w) (cx k g' (s.H.set id o') w'):=
  {stay:=λa x ho hc=>by
    refine⟨hg.cell hc,ho.1,λt=>by rw[hβ];exact ho.2.1 t,λj hj=>?_⟩;rw[hρ']at hj;split at hj
    ·have hlt:a.block<w.heap.size:=Zsl hc;simp at hj;omega
    rename_i he;obtain⟨sz1,ver1,rows1,h1,h2⟩:=ho.2.2 j hj;exact⟨sz1,ver1,rows1,by rw[hget,Zai he];exact h1,h2⟩
   arr:=λj sz1 ver1 frz1 rows1 e=>by
    by_cases he:id=j
    ·subst he;have e':s.H[id]?=some (.arr sz1 ver1 frz1 rows1):=e;rw[hH]at e';cases e';refine⟨ver+1,frz,rows++new,?_,by omega,λe=>by omega⟩;show(s.H.set id o')[id]?=_;rw[hget,Zaj rfl,ho']
    refine⟨ver1,frz1,rows1,?_,Nat.le_refl _,λ_=>⟨Nat.le_refl _,?_,λb' vs1 hb' hb1=>⟨vs1,ZoG hg hb1,rfl⟩⟩⟩
    ·show(s.H.set id o')[j]?=_;rw[hget,Zai he];exact e
    show g'.ρ[j]?=g.ρ[j]?;rw[hρ',Zai he]
   cells:=λj cs e=>by
    have hne:id≠j:=λhe=>by subst he;have e':s.H[id]?=some (.cells cs):=e;rw[hH]at e';cases e'
    refine⟨⟨cs,?_⟩,?_⟩
    ·show(s.H.set id o')[j]?=_;rw[hget,Zai hne];exact e
    show g'.ρ[j]?=g.ρ[j]?;rw[hρ',Zai hne]
   lp:=λj L fr st e=>by
    have hne:id≠j:=λhe=>by subst he;have e':s.H[id]?=some (.lp L fr st):=e;rw[hH]at e';cases e'
    refine⟨⟨st,?_⟩,?_⟩
    ·show(s.H.set id o')[j]?=_;rw[hget,Zai hne];exact e
    show g'.ρ[j]?=g.ρ[j]?;rw[hρ',Zai hne]}
 exact
  {defers:=h.defers.grow hg
   rnd:=h.rndG hg
   tsz:=h.tsz
   slots:=λt=>Zbz hl (λ_ _ e=>by rw[cx_β,hβ]at e;exact e) (h.tops t) (h.slots t)
   tops:=h.tops
   boxes:=λt cs e=>by
    obtain⟨b',hb',hr'⟩:=h.boxes t cs e;exact⟨b',by rw[hβ];exact hb',hr'.later hl λ_=>ZeQ hg⟩
   boxed:=λt b e=>h.boxed t b (by rw[←hβ];exact e)
   heap:=λj x e=>by
    simp only[hget]at e;by_cases he:id=j
    ·subst he;simp only[Zak,Zab]at e;subst e;refine⟨w.heap.size,by rw[hρ',Zaj rfl],?_⟩;rw[←ho']at hr hl⊢;exact hr hl
    simp only[he,Zah]at e;obtain⟨b',hb',hr'⟩:=h.heap j x e;exact⟨b',by rw[hρ',Zai he];exact hb',hr'.later hl λ_=>ZeQ hg⟩
   len:=by rw[←hg'];simp[h.len]
   inj:=λi j b' e1 e2=>by
    rw[hρ']at e1 e2;by_cases h1:id=i<;>by_cases h2:id=j
    ·omega
    ·rw[Zaj h1]at e1;rw[Zai h2]at e2;have:=ρ_lt h e2;simp at e1;omega
    ·rw[Zai h1]at e1;rw[Zaj h2]at e2;have:=ρ_lt h e1;simp at e2;omega
    rw[Zai h1]at e1;rw[Zai h2]at e2;exact h.inj i j b' e1 e2
   binj:=λt u b' e1 e2=>by rw[hβ]at e1 e2;exact h.binj t u b' e1 e2
   apart:=λt i b' e1 e2=>by
    rw[hβ]at e1;rw[hρ']at e2;split at e2
    ·have:=β_lt h e1;simp at e2;omega
    exact h.apart t i b' e1 e2
   own:=λi b' e1=>by
    rw[hρ']at e1;split at e1
    ·left;have:=h.keep.size;simp at e1;omega
    exact h.own i b' e1
   keep:=h.keep.grow hg
   hist:=h.hist.trans hl}
end
end Go.Eng

namespace Go.Eng
open Go
def ZnB:Value->AV->Bool
 |.int k n,.p (.int k' n')=>decide (k=k')&&decide (n=n')
 |.bool b,.p (.bool b')=>b==b'
 |.slice none 0 0,.p (.sl _ _ [])=>true
 |.slice none 0 0,.nl .nilSl=>true
 |.nilFunc,.nl .nilFunc=>true
 |.nilIface,.nl .nilIface=>true
 |.pointer none,.nl .nilPtr=>true
 |.map none,.nl .nilMap=>true
 |_,_=>false
def ZgU:List Value->List AV->Bool
 |[],[]=>true
 |v::vs,a::as=>ZnB v a&&ZgU vs as
 |_,_=>false
def ZeK:Operand->IX->Bool
 |.tmp t,.t u=>decide (t=u)
 |.const v,.k a=>ZnB v a
 |.func f,.k (.fn f' [] [])=>decide (f=f')
 |_,_=>false
def Za7:List Operand->List IX->Bool
 |[],[]=>true
 |x::xs,y::ys=>ZeK x y&&Za7 xs ys
 |_,_=>false
def Zdh (P:Program)(t:TypeId)(n:Nat):Bool:=match P.info? t with
 |some i=>decide (i.size=n)
 |none=>false
def Zsq (P:Program)(t:TypeId)(b:Bool):Bool:=match P.underlying t with
 |some (.struct _)=>b
 |some (.array ..)=>b
 |some _=>!b
 |none=>false
def Zfk (P:Program)(t:TypeId):List (Nat×Operand)->List (Nat×Nat)->Bool
 |[],[]=>true
 |(i,_)::r,(off,n)::r'=>(match P.underlying t with
   |some (.struct fs)=>(match fs[i]? with
    |some f=>decide (f.offset=off)&&Zdh P f.type n
    |none=>false)
   |some (.array _ e)=>Zdh P e n&&decide (off=i*n)
   |_=>false)&&Zfk P t r r'
 |_,_=>false
def Zj2 (P:Program)(t:TypeId)(z:List AV):Bool:=match P.info? t with
 |some i=>(match i.zero with
  |some v=>ZgU v.cells.toList z
  |none=>false)
 |none=>false
def ZjG (P:Program)(t:TypeId):Bool:=match P.underlying t with
 |some (.struct fs)=>fs.all λf=>(P.info? f.type).isSome
 |some (.array _ e)=>(P.info? e).isSome
 |_=>false
def Zox (lo hi mx:Option Operand):List Operand:=lo.toList++hi.toList++mx.toList
def ZdR (P:Program):Nat->List Field->List Bool->Bool
 |_,[],[]=>true
 | off,f::fs,k::ks => !(f.name == "_")&&decide (f.offset=off)&&(match P.underlying f.type,k with
  |some (.int _),true=>true
  |some .bool,false=>true
  |_,_=>false)&&ZdR P (off+1) fs ks
 |_,_,_=>false
def eqOK (P:Program)(t:TypeId)(ks:List Bool):Bool:=(match P.underlying t with
 |some (.struct fs)=>ZdR P 0 fs.toList ks
 |_=>false)&&!P.stoodInHeld t&&!P.eqGuardType P.depth t
def chkV (P:Program)(n:Nat)(o:Oper)(d:Nat)(v:VI)(xs:List IX):Bool:=
 decide (o.dst=some d)&&decide (d<n)&&match v with
 |.mov=>(match o.op with
  |.move x=>Za7 [x] xs
  |.assign x=>Za7 [x] xs
  |_=>false)
 |.bin op=>(match o.op with
  |.binOp op' _ x y _=>decide (op=op')&&Za7 [x,y] xs
  |_=>false)
 |.sh op=>(match o.op with
  |.binOp op' _ x y _=>decide (op=op')&&Za7 [x,y] xs
  |_=>false)
 |.eqB neg=>(match o.op with
  |.binOp op t x y _=>decide (op=if neg then .neq else .eql)&&(match P.underlying t with|some .bool=>true|_=>false)&&Za7 [x,y] xs
  |_=>false)
 |.eqS neg ks=>(match o.op with
  |.binOp op t x y _=>decide (op=if neg then .neq else .eql)&&eqOK P t ks&&Za7 [x,y] xs
  |_=>false)
 |.not=>(match o.op with
  |.unOp .not _ x=>Za7 [x] xs
  |_=>false)
 |.neg=>(match o.op with
  |.unOp .neg _ x=>Za7 [x] xs
  |_=>false)
 |.conv k=>(match o.op with
  |.convert src dst x=>(P.underlying src).isSome&&(match P.underlying dst with|some (.int k')=>decide (k=k')|_=>false)&&Za7 [x] xs
  |_=>false)
 |.pick=>(match o.op with
  |.pick c a b=>Za7 [c,a,b] xs
  |_=>false)
 |.faddr off=>(match o.op with
  |.fieldAddr s x f=>(match P.underlying s with
   |some (.struct fs)=>(match fs[f]? with
    |some fl=>decide (fl.offset=off)&&(match P.info? fl.type with|some i=>decide (i.size≠0)|none=>false)
    |none=>false)
   |_=>false)&&Za7 [x] xs
  |_=>false)
 |.iaddr m sz=>(match o.op with
  |.indexAddr t x i=>(match P.underlying t with
   |some (.array m' e)=>decide (m=m')&&Zdh P e sz
   |_=>false)&&Za7 [x,i] xs
  |_=>false)
 |.iaddrS sz=>(match o.op with
  |.indexAddr t x i=>(match P.underlying t with
   |some (.slice e)=>Zdh P e sz
   |_=>false)&&Za7 [x,i] xs
  |_=>false)
 |.idx m sz isAgg=>(match o.op with
  |.index t x i=>(match P.underlying t with
   |some (.array m' e)=>decide (m=m')&&Zdh P e sz&&Zsq P e isAgg
   |_=>false)&&Za7 [x,i] xs
  |_=>false)
 |.fld off m isAgg=>(match o.op with
  |.field t x f=>(match P.underlying t with
   |some (.struct fs)=>(match fs[f]? with
    |some fl=>decide (fl.offset=off)&&Zdh P fl.type m&&Zsq P fl.type isAgg
    |none=>false)
   |_=>false)&&Za7 [x] xs
  |_=>false)
 |.build zero parts=>(match o.op with
  |.build t ps=>Zj2 P t zero&&Zfk P t ps.toList parts&&ZjG P t&&Za7 (ps.toList.map (·.2)) xs
  |_=>false)
 |.len=>(match o.op with
  |.call {callee:=.builtin .len,args:=args,argTypes:=ts}=>(match ts.toList with
   |[t]=>(match P.underlying t with|some (.slice _)=>true|_=>false)
   |_=>false)&&Za7 args.toList xs&&decide (xs.length=1)
  |_=>false)
 |.lenA m=>(match o.op with
  |.call {callee:=.builtin .len,args:=args,argTypes:=ts}=>(match ts.toList with
   |[t]=>(match P.underlying t with|some (.array m' _)=>decide (m=m')|_=>false)
   |_=>false)&&Za7 args.toList xs&&decide (xs.length=1)
  |_=>false)
 |.ext i=>(match o.op with
  |.extract x i'=>decide (i=i')&&Za7 [x] xs
  |_=>false)
 |.mkfn f nf=>(match o.op with
  |.makeFunc (.func f') first cap=>decide (f=f')&&decide (first.size=nf)&&Za7 (first.toList++cap.toList) xs
  |_=>false)
 |.min=>(match o.op with
  |.call {callee:=.builtin .min,args:=args,argTypes:=_}=>Za7 args.toList xs
  |_=>false)
 |.max=>(match o.op with
  |.call {callee:=.builtin .max,args:=args,argTypes:=_}=>Za7 args.toList xs
  |_=>false)
 |.slice sz lo hi mx=>(match o.op with
  |.slice t x l h m=>(match P.underlying t with
   |some (.slice e)=>Zdh P e sz
   |_=>false)&&decide (l.isSome=lo)&&decide (h.isSome=hi)&&decide (m.isSome=mx)&&Za7 (x::Zox l h m) xs
  |_=>false)
 |.nilChk=>(match o.op with
  |.nilCheck x=>Za7 [x] xs
  |_=>false)
 |.isNil neg=>(match o.op with
  |.binOp op t x (.const (.slice none _ _)) _=>decide (op=if neg then .neq else .eql)&&(match P.underlying t with|some (.slice _)=>true|_=>false)&&Za7 [x] xs
  |_=>false)
theorem Zk4 {c:Cx}{v:Value}{a:AV}(h:ZnB v a=true):VR c a v/\ZdG a=true:=by
 unfold ZnB at h;split at h
 ·simp only[Ze,Zag]at h;obtain⟨rfl,rfl⟩:=h;exact⟨by rw[VR,PR],rfl⟩
 ·simp only[beq_iff_eq]at h;subst h;exact⟨by rw[VR,PR],rfl⟩
 ·exact⟨by rw[VR,PR];exact⟨none,0,rfl,by simp,by simp,by simp⟩,rfl⟩
 ·exact⟨by rw[VR];rfl,rfl⟩
 ·exact⟨by rw[VR];rfl,rfl⟩
 ·exact⟨by rw[VR];rfl,rfl⟩
 ·exact⟨by rw[VR];rfl,rfl⟩
 ·exact⟨by rw[VR];rfl,rfl⟩
 cases h
theorem Zgc {c:Cx}:∀{vs:List Value} {as:List AV},ZgU vs as=true->VRL c as vs/\ZaL as=true
 |[],[],_=>⟨by rw[VRL],rfl⟩
 |v::vs,a::as,h=>by
  simp only[ZgU,Ze]at h;obtain⟨h1,h2⟩:=Zk4 (c:=c) h.1;obtain⟨h3,h4⟩:=Zgc (c:=c) h.2;exact⟨by rw[VRL];exact⟨v,vs,rfl,h1,h3⟩,by simp[ZaL,h2,h4]⟩
 |[],_::_,h=>by simp[ZgU]at h
 |_::_,[],h=>by simp[ZgU]at h
theorem ZmM:∀{vs:List Value} {ps:List PC},ZgU vs (ps.map .p)=true->Znp ps=true
 |_,[],_=>rfl
 |[],_::_,h=>by simp[ZgU]at h
 |v::vs,p::ps,h=>by
  simp only[ZU,ZgU,Ze]at h;rw[Znp,ZmM h.2];cases p with
  |ow sz id ver len=>have:=h.1;unfold ZnB at this;split at this<;>simp_all
  |_=>rfl
theorem Zca {k:K0}{n:Nat}{g:G}{s:St}{a:Act}{w:World}(h:Rel k n g s a w){X:Operand}{x:IX}(hm:ZeK X x=true):
  VR (cx k g s.H w) (ev s.fr x) (a.eval X):=by
 unfold ZeK at hm;split at hm
 ·simp only[Zag]at hm;subst hm;exact h.slots _
 ·exact(Zk4 hm).1
 ·simp only[Zag]at hm;subst hm;show VR _ (AV.fn _ [] []) _;rw[VR];exact⟨[],[],rfl,by rw[VRL],by rw[VRL]⟩
 cases hm
theorem Zns {k:K0}{n:Nat}{g:G}{s:St}{a:Act}{w:World}(h:Rel k n g s a w){X:Operand}{x:IX}(hm:ZeK X x=true):top (ev s.fr x)=true:=by
 unfold ZeK at hm;split at hm
 ·exact h.tops _
 ·have:=Zkz (Zk4 (c:=cx k g s.H w) hm).2;rename_i v a';show top a'=true;cases a'<;>first|rfl|simpa[top]using this
 ·rfl
 cases hm
theorem ZaU {k:K0}{n:Nat}{g:G}{s:St}{a:Act}{w:World}(h:Rel k n g s a w):∀{Xs:List Operand} {xs:List IX},Za7 Xs xs=true→
  VRL (cx k g s.H w) (xs.map (ev s.fr)) (Xs.map a.eval)
 |[],[],_=>by simp[VRL]
 |X::Xs,x::xs,hm=>by
  simp only[Za7,Ze]at hm;simp only[ZU];rw[VRL];exact⟨_,_,rfl,Zca h hm.1,ZaU h hm.2⟩
 |[],_::_,h=>by simp[Za7]at h
 |_::_,[],h=>by simp[Za7]at h
theorem Zb6 {k:K0}{n:Nat}{g:G}{s:St}{a:Act}{w:World}(h:Rel k n g s a w):∀{Xs:List Operand} {xs:List IX},Za7 Xs xs=true→
  ∀v∈xs.map (ev s.fr),top v=true
 |[],[],_=>by simp
 |X::Xs,x::xs,hm=>by
  simp only[Za7,Ze]at hm;intro v hv;simp only[ZU,List.mem_cons]at hv;rcases hv with rfl|hv
  ·exact Zns h hm.1
  exact Zb6 h hm.2 v hv
 |[],_::_,h=>by simp[Za7]at h
 |_::_,[],h=>by simp[Za7]at h
theorem Zfq {c:Cx}{x:AV}{vs:List Value}(h:VRL c [x] vs):∃v,vs=[v]/\VR c x v:=by
 rw[VRL]at h;obtain⟨u,us,rfl,h1,h2⟩:=h;rw[VRL]at h2;subst h2;exact⟨u,rfl,h1⟩
theorem Zgt {c:Cx}{x y:AV}{vs:List Value}(h:VRL c [x,y] vs):∃v u,vs=[v,u]/\VR c x v/\VR c y u:=by
 rw[VRL]at h;obtain⟨u,us,rfl,h1,h2⟩:=h;obtain⟨v,rfl,h3⟩:=Zfq h2;exact⟨u,v,rfl,h1,h3⟩
theorem ZmU {c:Cx}{x y z:AV}{vs:List Value}(h:VRL c [x,y,z] vs):∃v u t,vs=[v,u,t]/\VR c x v/\VR c y u/\VR c z t:=by
 rw[VRL]at h;obtain⟨u,us,rfl,h1,h2⟩:=h;obtain⟨v,t,rfl,h3,h4⟩:=Zgt h2;exact⟨u,v,t,rfl,h1,h3,h4⟩
theorem ZcM {c:Cx}{k:IntKind}{n:Int}{v:Value}(h:VR c (.p (.int k n)) v):v=.int k n:=by rw[VR,PR]at h;exact h
theorem ZnE {c:Cx}{b:Bool}{v:Value}(h:VR c (.p (.bool b)) v):v=.bool b:=by rw[VR,PR]at h;exact h
theorem Zec {c:Cx}(k:IntKind)(n:Int):VR c (.p (.int k n)) (.int k n):=by rw[VR,PR]
theorem Zes {c:Cx}(b:Bool):VR c (.p (.bool b)) (.bool b):=by rw[VR,PR]
theorem ZxQ {P:Program}{w:World}{op:BinOp}{k:IntKind}{a b:Int}{r:PC}{t:TypeId}(h:binI op k a b=some r):
  ∃u,(binOp op t (.int k a) (.int k b)).run P w=.ok u w/\∀c:Cx,VR c (.p r) u:=by
 unfold binI at h;split at h<;>(try split at h)<;>first
  |cases h;done
  |(simp only[Zab]at h;subst h;simp_all[binOp,Op.intArith,Op.intDiv,Op.intBits,Op.intCmp,VR,PR])
theorem Zy5 {P:Program}{w:World}{op:BinOp}{k k':IntKind}{a b:Int}{r:PC}{t:TypeId}(h:shI op k a b=some r):
  ∃u,(binOp op t (.int k a) (.int k' b)).run P w=.ok u w/\∀c:Cx,VR c (.p r) u:=by
 unfold shI at h;split at h
 ·cases h
 rename_i hb;split at h<;>first
  |cases h;done
  |(simp only[Zab]at h;subst h;simp only[binOp,Op.shift,hb,Zah,Sem.run_pure];exact⟨_,rfl,λc=>by rw[VR,PR]⟩)
theorem ZtN {c:Cx}{o:Nat}{x r:AV}{v:Value}(h:Zn5 o x=some r)(hv:VR c x v):∃a,v=.pointer (some a)/\VR c r (.pointer (some (a.add o))):=by
 unfold Zn5 at h;split at h<;>first|(cases h;done)|(simp only[Zab]at h;subst h)
 ·rw[VR]at hv;obtain⟨b,rfl,hb⟩:=hv;exact⟨_,rfl,by rw[VR];exact⟨b,by rw[Zgz],hb⟩⟩
 ·rw[VR]at hv;obtain⟨cs,b,h1,h2,rfl⟩:=hv;exact⟨_,rfl,by rw[VR];exact⟨cs,b,h1,h2,by rw[Zgz]⟩⟩
 ·rw[VR]at hv;obtain⟨ver0,frz,rows,b,h1,h2,rfl,h3⟩:=hv;exact⟨_,rfl,by rw[VR];exact⟨ver0,frz,rows,b,h1,h2,by rw[Zgz,Nat.add_assoc],h3⟩⟩
 rw[VR]at hv;obtain⟨a,rfl,h1⟩:=hv;exact⟨_,rfl,by rw[VR];exact⟨a,by rw[Zfp,Nat.add_assoc],h1⟩⟩
theorem Zk7 {o:Nat}{x r:AV}(h:Zn5 o x=some r):top r=true:=by
 unfold Zn5 at h;split at h<;>first|(cases h;done)|(simp only[Zab]at h;subst h;rfl)
theorem ZnF {c:Cx}{cs:List AV}{vs:List Value}(h:VRL c cs vs)(off m:Nat):VRL c ((cs.drop off).take m) ((vs.drop off).take m):=by
 have hl:=h.length;rw[Zed]at h⊢;refine⟨by simp[hl],λj x u hj hu=>?_⟩;rw[ZL]at hj hu;split at hj
 ·rename_i hlt;rw[Zaj hlt]at hu;rw[ZE]at hj hu;exact h.2 _ x u hj hu
 cases hj
theorem ZiL {c:Cx}{xs ys:List AV}{us vs:List Value}(h:VRL c xs us)(h':VRL c ys vs):VRL c (xs++ys) (us++vs):=by
 have hl:=h.length;have hl':=h'.length;rw[Zed]at h h'⊢;refine⟨by simp[hl,hl'],λj x u hj hu=>?_⟩;by_cases hlt:j<xs.length
 ·rw[ZA hlt]at hj;rw[ZA (by omega)]at hu;exact h.2 j x u hj hu
 rw[ZB (by omega)]at hj;rw[ZB (by omega),hl]at hu;exact h'.2 _ x u hj hu
theorem Zvd {c:Cx}{cs:List AV}{vs:List Value}(h:VRL c cs vs)(m:Nat):VRL c (cs.take m) (vs.take m):=by
 simpa using ZnF h 0 m
theorem Zve {c:Cx}{cs:List AV}{vs:List Value}(h:VRL c cs vs)(m:Nat):VRL c (cs.drop m) (vs.drop m):=by
 have:=ZnF h m (cs.length-m);rw[Z4 (by simp)]at this
 rwa [Z4 (by simp[h.length])]at this
theorem ZnG {c:Cx}{cs l l':List AV}{us vs:List Value}{off:Nat}(hs:ZbU off cs l=some l')(h:VRL c cs us)(h':VRL c l vs):
  VRL c l' (vs.take off++us++vs.drop (off+us.length)):=by
 unfold ZbU at hs;split at hs
 ·simp only[Zab]at hs;subst hs;rw[h.length];exact ZiL (ZiL (Zvd h' off) h) (Zve h' _)
 cases hs
theorem ZqM {xs ys:List AV}:ZaL (xs++ys)=(ZaL xs&&ZaL ys):=by
 induction xs with
 |nil=>simp[ZaL]
 |cons x xs ih=>simp[ZaL,ih,Bool.and_assoc]
theorem Ztg {xs:List AV}(h:ZaL xs=true)(m:Nat):ZaL (xs.take m)=true:=by
 rw[ZpG]at h⊢;exact λx hx=>h x (List.mem_of_mem_take hx)
theorem Zth {xs:List AV}(h:ZaL xs=true)(m:Nat):ZaL (xs.drop m)=true:=by
 rw[ZpG]at h⊢;exact λx hx=>h x (List.mem_of_mem_drop hx)
theorem ZeJ {cs l l':List AV}{off:Nat}(hs:ZbU off cs l=some l')(h:ZaL cs=true)(h':ZaL l=true):ZaL l'=true:=by
 unfold ZbU at hs;split at hs
 ·simp only[Zab]at hs;subst hs;simp[ZqM,Ztg h',Zth h',h]
 cases hs
theorem Zx4 {c:Cx}{isAgg:Bool}{cs:List AV}{vs:List Value}{r:AV}(h:mk isAgg cs=some r)(hv:VRL c cs vs):
  VR c r (if isAgg then .agg vs.toArray else vs.getD 0 undef):=by
 unfold mk at h;split at h
 ·rename_i hb;simp only[Zab]at h;subst h;rw[Zaj hb,VR];exact⟨vs,rfl,hv⟩
 rename_i hb;rw[Zai hb];split at h
 ·simp only[Zab]at h;subst h;obtain⟨v,rfl,h⟩:=Zfq hv;exact h
 cases h
theorem ZlF {isAgg:Bool}{cs:List AV}{r:AV}(h:mk isAgg cs=some r)(hn:noLocL cs=true):ZaV r=true:=by
 unfold mk at h;split at h
 ·simp only[Zab]at h;subst h;simpa[ZaV]using hn
 split at h
 ·simp only[Zab]at h;subst h;simpa[ZaV.noLocL]using hn
 cases h
theorem ZbV {xs:List AV}:noLocL xs=true↔∀x∈xs,ZaV x=true:=by
 induction xs with
 |nil=>simp[ZaV.noLocL]
 |cons y ys ih=>simp[ZaV.noLocL,ih]
theorem ZgY {xs r:List AV}{off m:Nat}(h:noLocL xs=true)(hs:sub off m xs=some r):noLocL r=true:=by
 unfold sub at hs;split at hs
 ·simp only[Zab]at hs;subst hs;rw[ZbV]at h⊢;exact λx hx=>h x (List.mem_of_mem_drop (List.mem_of_mem_take hx))
 cases hs
theorem ZaP {x:AV}(h:ZaV x=true):top x=true:=by
 cases x<;>first|rfl|simpa[top]using h
theorem Zc5 {P:Program}{w:World}{t:TypeId}{n:Nat}(h:Zdh P t n=true):(sizeOf t).run P w=.ok n w:=by
 unfold Zdh at h;split at h
 ·rename_i i hi;simp only[Zag]at h;simp[sizeOf,typeInfo,hi,h]
 cases h
theorem ZsP {P:Program}{w:World}{t:TypeId}{b:Bool}(h:Zsq P t b=true):(isAgg t).run P w=.ok b w:=by
 unfold Zsq at h;split at h
 ·rename_i hu;simp[isAgg,run_underlying hu,h]
 ·rename_i hu;simp[isAgg,run_underlying hu,h]
 ·rename_i d h1 h2 hu;simp only[Zh]at h;subst h;unfold isAgg;simp only[Sem.run_bind,run_underlying hu,Result.andThen_ok];rfl
 cases h
theorem ZuI {P:Program}{w:World}{t:TypeId}{off m:Nat}{isA:Bool}{cs:List Value}(h1:Zdh P t m=true)(h2:Zsq P t isA=true)(hle:off+m<=cs.length)(hm:isA=false->m=1):
  (part t cs.toArray off).run P w=.ok (if isA then .agg ((cs.drop off).take m).toArray else((cs.drop off).take m).getD 0 undef) w:=by
 unfold part;simp only[Sem.run_bind,ZsP h2,Result.andThen_ok];cases isA with
 |true=>
  simp only[Zak,Sem.run_bind,Zc5 h1,Result.andThen_ok,Sem.run_pure]
  congr 2
  apply Array.ext';simp[List.extract_eq_take_drop]
 |false=>
  have hm:=hm rfl;subst hm;have hlt:off<cs.length:=by omega
  simp[hlt,List.getD,ZL,ZE]
end Go.Eng

namespace Go.Eng
open Go
theorem ZpW (off:Nat):∀(vs:List Value) (i:Nat) (cells:Array Value),off+i+vs.length<=cells.size→
  ((vs.zipIdx i).foldl (λcs (p:Value×Nat)=>cs.setIfInBounds (off+p.2) p.1) cells).toList=cells.toList.take (off+i)++vs++cells.toList.drop (off+i+vs.length)
 |[],i,cells,_=>by simp
 |v::vs,i,cells,h=>by
  simp only[List.zipIdx_cons,Zy];rw[ZpW off vs (i+1) _ (by simp at h⊢;omega)];have e:=list_seg_step cells.toList (off+i) v vs (by simp at h⊢;omega);simpa[Array.toList_setIfInBounds,Nat.add_assoc]using e
theorem ZrG {c:Cx}{place:Nat->Option (Nat×Nat)}:∀(ps:List (Nat×Operand)) (parts:List (Nat×Nat)) (xs:List AV) (us:List Value) (cells:Array Value) (cs out:List AV),
  VRL c xs us->VRL c cs cells.toList->ZaL cs=true->Zcx cs parts xs=some out->(∀(i:Nat) (p:Nat×Operand),ps[i]?=some p->place p.1=parts[i]?)->ps.length=us.length→
  ∃arr,Instr.fill place cells ((ps.map (·.1)).zip us)=some arr/\VRL c out arr.toList/\ZaL out=true
 |[],parts,xs,us,cells,cs,out,hx,hc,hok,hf,hp,hl=>by
  cases us with
  |cons=>simp at hl
  |nil=>
   have hx0:xs=[]:=by have:=hx.length;simp at this;exact List.eq_nil_of_length_eq_zero this.symm
   subst hx0;cases parts with
   |nil=>simp only[Zcx,Zab]at hf;subst hf;exact⟨cells,rfl,hc,hok⟩
   |cons=>simp[Zcx]at hf
 |p::ps,parts,xs,us,cells,cs,out,hx,hc,hok,hf,hp,hl=>by
  cases us with
  |nil=>simp at hl
  |cons u us=>
   cases xs with
   |nil=>have:=hx.length;simp at this
   |cons x xs=>
    rw[VRL]at hx;obtain⟨u',us',e,hx1,hx2⟩:=hx;cases e;cases parts with
    |nil=>simp[Zcx]at hf
    |cons q parts=>
     obtain⟨off,m⟩:=q;simp only[Zcx]at hf;split at hf
     ·rename_i hcond;cases hs:ZbU off (cellsOf x) cs with
      |none=>simp[hs]at hf
      |some cs'=>
       simp only[hs,Z8]at hf;have hpl:=hp 0 p rfl;simp at hpl;have hcu:=Zhx hcond.2 hx1;have hlen:=hcu.length;simp only[Zd]at hlen;have hcl:=hc.length;simp only[Zd]at hcl;have hle:off+(cellsOf x).length<=cs.length:=by
        unfold ZbU at hs;split at hs
        ·assumption
        cases hs
       have hfold:=ZpW off u.cells.toList 0 cells (by simp;omega);have hfold':(u.cells.zipIdx.foldl (λcs (p:Value×Nat)=>cs.setIfInBounds (off+p.2) p.1) cells).toList=cells.toList.take off++u.cells.toList++cells.toList.drop (off+u.cells.toList.length):=by
        rw[←Array.foldl_toList,Array.toList_zipIdx];simpa using hfold
       have hv':=ZnG hs hcu hc;rw[←hfold']at hv';obtain⟨arr,ha,hb,hd⟩:=ZrG ps parts xs us _ cs' out hx2 hv' (ZeJ hs hcond.2 hok) hf (λi q hq=>by simpa using hp (i+1) q (by simpa using hq)) (by simpa using hl);refine⟨arr,?_,hb,hd⟩;simp only[ZU,List.zip_cons_cons,Instr.fill,hpl];rw[Zai (by simp;omega)];exact ha
     cases hf
theorem Zuh {P:Program}{w:World}(fs:Array Field)(h:(fs.all λf=>(P.info? f.type).isSome)=true):
  (fs.mapM (m:=Sem) λf=>do pure (f.offset,←sizeOf f.type)).run P w=.ok (fs.map λf=>(f.offset,P.cellsOf f.type)) w:=by
 rw[←Array.toArray_toList (xs:=fs)]at h⊢;simp only[List.all_toArray,Zr]at h;rw[List.mapM_toArray];have key:∀l:List Field,(∀f∈l,(P.info? f.type).isSome=true)->(l.mapM (m:=Sem) λf=>do pure (f.offset,←sizeOf f.type)).run P w=.ok (l.map λf=>(f.offset,P.cellsOf f.type)) w:=by
  intro l;induction l with
  |nil=>intro _;rfl
  |cons f l ih=>
   intro h;have h1:=h f (by simp);obtain⟨i,hi⟩:=Option.isSome_iff_exists.1 h1;have h2:(sizeOf f.type).run P w=.ok (P.cellsOf f.type) w:=by simp[sizeOf,typeInfo,hi,Program.cellsOf]
   rw[List.mapM_cons];simp only[Sem.run_bind,h2,Result.andThen_ok,Sem.run_pure,ih (λx hx=>h x (by simp[hx]))];rfl
 rw[Sem.run_map,key _ h];simp only[Result.andThen_ok]
 congr 1
 apply Array.ext';simp
theorem Zn3 {P:Program}{t:TypeId}{n:Nat}(h:Zdh P t n=true):P.cellsOf t=n:=by
 unfold Zdh at h;split at h
 ·rename_i i hi;simp only[Zag]at h;simp[Program.cellsOf,hi,h]
 cases h
theorem ZnU {P:Program}{t:TypeId}{fs:Array Field}(ht:P.underlying t=some (.struct fs)):∀{ps:List (Nat×Operand)} {parts:List (Nat×Nat)},Zfk P t ps parts=true→
  ∀(i:Nat) (p:Nat×Operand),ps[i]?=some p->(fs.map λf=>(f.offset,P.cellsOf f.type))[p.1]?=parts[i]?
 |[],[],_,i,p,hp=>by simp at hp
 |(j,X)::ps,(off,m)::parts,h,i,p,hp=>by
  simp only[Zfk,ht,Ze]at h;cases i with
  |zero=>
   simp at hp;subst hp;simp only[ZD];have h1:=h.1;split at h1
   ·rename_i f hf;simp only[Ze,Zag]at h1;simp[hf,h1.1,Zn3 h1.2]
   cases h1
  |succ i=>simpa using ZnU ht h.2 i p (by simpa using hp)
 |[],_::_,h,_,_,_=>by simp[Zfk]at h
 |_::_,[],h,_,_,_=>by simp[Zfk]at h
theorem ZnV {P:Program}{t:TypeId}{m0:Nat}{e:TypeId}(ht:P.underlying t=some (.array m0 e)):∀{ps:List (Nat×Operand)} {parts:List (Nat×Nat)},Zfk P t ps parts=true→
  ∀(i:Nat) (p:Nat×Operand),ps[i]?=some p->some (p.1*P.cellsOf e,P.cellsOf e)=parts[i]?
 |[],[],_,i,p,hp=>by simp at hp
 |(j,X)::ps,(off,m)::parts,h,i,p,hp=>by
  simp only[Zfk,ht,Ze,Zag]at h;cases i with
  |zero=>
   simp at hp;subst hp;simp only[ZD];rw[Zn3 h.1.1,h.1.2]
  |succ i=>simpa using ZnV ht h.2 i p (by simpa using hp)
 |[],_::_,h,_,_,_=>by simp[Zfk]at h
 |_::_,[],h,_,_,_=>by simp[Zfk]at h
theorem ZmW {P:Program}{t:TypeId}{z:List AV}(h:Zj2 P t z=true)(c:Cx)(w:World):∃v,(zeroValue t).run P w=.ok v w/\VRL c z v.cells.toList/\ZaL z=true:=by
 unfold Zj2 at h;split at h
 ·rename_i i hi;split at h
  ·rename_i v hz;refine⟨v,by simp[zeroValue,typeInfo,hi,hz],Zgc h⟩
  cases h
 cases h
theorem ZsR {P:Program}{c:Cx}{w:World}{t:TypeId}{ps:Array (Nat×Operand)}{zero:List AV}{parts:List (Nat×Nat)}{xs out:List AV}{ρ:Operand->Value}
  (h1:Zj2 P t zero=true) (h2:Zfk P t ps.toList parts=true) (h3:ZjG P t=true) (hx:VRL c xs (ps.toList.map λp=>ρ p.2)) (hf:Zcx zero parts xs=some out):
  ∃u,(Instr.build t (ps.map λ(i,x)=>(i,ρ x))).run P w=.ok u w/\VR c (.agg out) u/\ZaL out=true:=by
 obtain⟨z,hz1,hz2,hz3⟩:=ZmW h1 c w;have elist:(ps.map λ(p:Nat×Operand)=>(p.1,ρ p.2)).toList=(ps.toList.map (·.1)).zip (ps.toList.map λp=>ρ p.2):=by
  rw[Array.toList_map,List.zip_map']
 unfold ZjG at h3;split at h3
 ·rename_i fs hu;obtain⟨arr,ha,hb,hd⟩:=ZrG (c:=c) (place:=((fs.map λf=>(f.offset,P.cellsOf f.type))[·]?)) ps.toList parts xs _ z.cells zero out hx hz2 hz3 hf (ZnU hu h2) (by simp);refine⟨.agg arr,?_,by rw[VR];exact⟨arr.toList,by simp,hb⟩,hd⟩;unfold Instr.build;simp only[Sem.run_bind,hz1,Result.andThen_ok,run_underlying hu,Zuh fs h3];rw[show(ps.map λ(x:Nat×Operand)=>match x with|(i,x)=>(i,ρ x))=ps.map λ(p:Nat×Operand)=>(p.1,ρ p.2)from rfl,elist,ha];rfl
 ·rename_i m0 e hu;obtain⟨arr,ha,hb,hd⟩:=ZrG (c:=c) (place:=λi=>some (i*P.cellsOf e,P.cellsOf e)) ps.toList parts xs _ z.cells zero out hx hz2 hz3 hf (ZnV hu h2) (by simp);refine⟨.agg arr,?_,by rw[VR];exact⟨arr.toList,by simp,hb⟩,hd⟩;obtain⟨i,hi⟩:=Option.isSome_iff_exists.1 h3;have hs:(sizeOf e).run P w=.ok (P.cellsOf e) w:=by simp[sizeOf,typeInfo,hi,Program.cellsOf]
  unfold Instr.build;simp only[Sem.run_bind,hz1,Result.andThen_ok,run_underlying hu,hs];rw[show(ps.map λ(x:Nat×Operand)=>match x with|(i,x)=>(i,ρ x))=ps.map λ(p:Nat×Operand)=>(p.1,ρ p.2)from rfl,elist,ha];rfl
 cases h3
theorem Zcl {P:Program}{w:World}{k:IntKind}{i:Int}{y:Nat}{code:BoundsCode}(h0:0<=i)(h1:i.toNat<=y):(Instr.sliceBound (.int k i) y code).run P w=.ok i.toNat w:=by
 unfold Instr.sliceBound;have:i<=y:=by omega
 simp[asIntOf,h0,this]
theorem Zk5 {c:Cx}{given:Bool}{dflt:Nat}{vs vs':List AV}{m:Nat}{us:List Value}(h:Zgd given dflt vs=some (m,vs'))(hv:VRL c vs us):
  (given=true/\∃k i us',us=.int k i::us'/\0<=i/\m=i.toNat/\VRL c vs' us')∨(given=false/\m=dflt/\vs'=vs):=by
 unfold Zgd at h;split at h
 ·rename_i hg;split at h
  ·rename_i k i r;split at h
   ·rename_i h0;simp only[Zab,Zac]at h;obtain⟨rfl,rfl⟩:=h;rw[VRL]at hv;obtain⟨u,us',rfl,h1,h2⟩:=hv;rw[ZcM h1];exact .inl ⟨hg,k,i,us',rfl,h0,rfl,h2⟩
   cases h
  cases h
 rename_i hg;simp only[Zab,Zac]at h;exact .inr ⟨by simpa using hg,h.1.symm,h.2.symm⟩
theorem Zg6 {P:Program}{w:World}{len cap:Nat}{lo hi mx:Option Value}{l h m:Nat}(hle:len<=cap)
  (hl:(lo=none/\l=0)∨∃k i,lo=some (.int k i)/\0<=i/\l=i.toNat)
  (hh:(hi=none/\h=len)∨∃k i,hi=some (.int k i)/\0<=i/\h=i.toNat)
  (hm:(mx=none/\m=cap)∨∃k i,mx=some (.int k i)/\0<=i/\m=i.toNat) (hmh:mx.isSome->hi.isSome)
  (h1:l<=h) (h2:h<=m) (h3:m<=cap):(Instr.sliceBounds true len cap lo hi mx).run P w=.ok (l,h,m) w:=by
 unfold Instr.sliceBounds;rcases hm with⟨rfl,rfl⟩|⟨km,im,rfl,him,rfl⟩
 ·rcases hh with⟨rfl,rfl⟩|⟨kh,ih,rfl,hih,rfl⟩
  ·rcases hl with⟨rfl,rfl⟩|⟨kl,il,rfl,hil,rfl⟩
   ·simp
   simp[Zcl hil h1]
  rcases hl with⟨rfl,rfl⟩|⟨kl,il,rfl,hil,rfl⟩
  ·simp[Zcl hih h2]
  simp[Zcl hih h2,Zcl hil h1]
 rcases hh with⟨rfl,rfl⟩|⟨kh,ih,rfl,hih,rfl⟩
 ·simp at hmh
 rcases hl with⟨rfl,rfl⟩|⟨kl,il,rfl,hil,rfl⟩
 ·simp[Zcl him h3,Zcl hih h2]
 simp[Zcl him h3,Zcl hih h2,Zcl hil h1]
theorem Zxo {ok:Addr->Prop}{w:World}{sz:Nat}{rows:List (List PC)}{a:Addr}(h:Zld ok w sz rows a)(l m:Nat):Zld ok w sz ((rows.take m).drop l) (a.add (l*sz)):=by
 rw[Zgf]at h⊢;intro i r hi;rw[ZE,ZL]at hi;split at hi
 ·obtain⟨h1,h2⟩:=h (l+i) r hi;refine⟨h1,?_⟩;rw[Zfp,←Z6];exact h2
 cases hi
end Go.Eng

namespace Go.Eng
open Go
theorem Zi2 {P:Program}{w:World}{t e ty:TypeId}(ht:P.underlying t=some (.slice e))(A:Option Addr)(m cap:Nat):
  (Builtin.len_ #[t] ty #[.slice A m cap]).run P w=.ok (.int .i64 m) w:=by
 simp[Builtin.len_,run_underlying ht,goInt]
theorem ZrF {P:Program}{w:World}{t e ty:TypeId}{m:Nat}(ht:P.underlying t=some (.array m e))(x:Value):
  (Builtin.len_ #[t] ty #[x]).run P w=.ok (.int .i64 m) w:=by
 unfold Builtin.len_;simp[run_underlying ht,goInt]
theorem Zn9 {P:Program}{w:World}{t:TypeId}(ht:P.underlying t=some .bool)(d:Nat)(x y:Bool):(Op.equalIn (d+1) t (.bool x) (.bool y)).run P w=.ok (x==y) w:=by
 simp[Op.equalIn,run_underlying ht]
theorem Zll {P:Program}{w:World}{t:TypeId}(ht:P.underlying t=some .bool)(x y:Bool):(Op.equal t (.bool x) (.bool y)).run P w=.ok (x==y) w:=by
 unfold Op.equal Op.maxDepth;exact Zn9 ht 9999 x y
theorem Zo4 {P:Program}{w:World}{t el:TypeId}(hu:P.underlying t=some (.slice el))(d:Nat)(A:Option Addr)(l1 c1 l0 c0:Nat):
  (Op.equalIn (d+1) t (.slice A l1 c1) (.slice none l0 c0)).run P w=.ok A.isNone w:=by
 cases A<;>simp[Op.equalIn,run_underlying hu]
theorem ZoJ {c:Cx}{x:AV}{xs:List AV}{vs:List Value}(h:VRL c (x::xs) vs):∃u us,vs=u::us/\VR c x u/\VRL c xs us:=by
 rw[VRL]at h;exact h
theorem ZjH {P:Program}{w:World}{c:Cx}{d:Nat}{xs ys:Array Value}:∀{fs:List Field} {ks:List Bool} {off:Nat} {as bs:List AV} {vs us:List Value} {e:Bool},
  ZdR P off fs ks=true->Zcw ks as bs=some e->VRL c as vs->VRL c bs us->xs.toList.drop off=vs->ys.toList.drop off=us->(Op.eqFields (d+1) xs ys fs).run P w=.ok e w
 |[],[],off,as,bs,vs,us,e,_,he,_,_,_,_=>by
  cases as<;>cases bs<;>simp[Zcw]at he;subst he;rfl
 |f::fs,k::ks,off,as,bs,vs,us,e,hf,he,ha,hb,hx,hy=>by
  simp only[ZdR,Ze,Zh,Zag,beq_eq_false_iff_ne]at hf;obtain⟨⟨⟨hn,ho⟩,hk⟩,hf⟩:=hf;cases as with
  |nil=>cases k<;>simp[Zcw]at he
  |cons a as=>
   cases bs with
   |nil=>
    exfalso;cases k<;>cases a<;>simp[Zcw]at he
   |cons b bs=>
    obtain⟨u,us',rfl,hu,ha'⟩:=ZoJ ha;obtain⟨v,vs',rfl,hv,hb'⟩:=ZoJ hb;have hxo:xs[f.offset]?=some u:=by
     have:=congrArg (·[0]?) hx;simpa[ho]using this
    have hyo:ys[f.offset]?=some v:=by
     have:=congrArg (·[0]?) hy;simpa[ho]using this
    have hx':xs.toList.drop (off+1)=us':=by
     have:=congrArg List.tail hx;simpa using this
    have hy':ys.toList.drop (off+1)=vs':=by
     have:=congrArg List.tail hy;simpa using this
    cases k with
    |true=>
     cases hty:P.underlying f.type with
     |none=>simp[hty]at hk
     |some T=>
      cases T<;>simp[hty]at hk;rename_i kk;have hpl:P.plainKey f.type=true:=by simp[Program.plainKey,hty]
      have h1:=run_part_plain (P:=P) w hpl hxo;have h2:=run_part_plain (P:=P) w hpl hyo;cases a<;>try (simp[Zcw]at he;done)
      rename_i pa;cases pa<;>try (simp[Zcw]at he;done)
      rename_i ka na;cases b<;>try (simp[Zcw]at he;done)
      rename_i pb;cases pb<;>try (simp[Zcw]at he;done)
      rename_i kb nb;simp only[Zcw]at he;split at he
      ·rename_i hkk;subst hkk;cases hr:Zcw ks as bs with
       |none=>simp[hr]at he
       |some e'=>
        simp only[hr,Zaa,Zab]at he;have ih:=ZjH (P:=P) (w:=w) (d:=d) hf hr ha' hb' hx' hy';rw[VR,PR]at hu hv;subst hu hv;have h3:(Op.equalIn (d+1) f.type (.int ka na) (.int ka nb)).run P w=.ok (na==nb) w:=by simp[Op.equalIn,run_underlying hty]
        simp only[Op.eqFields,hn,ne_eq,not_false_eq_true,Zak,Sem.run_bind,h1,h2,h3,Result.andThen_ok];subst he;by_cases hnn:na=nb
        ·simp[hnn,ih]
        have:(na==nb)=false:=by simpa using hnn
        simp[this]
      cases he
    |false=>
     cases hty:P.underlying f.type with
     |none=>simp[hty]at hk
     |some T=>
      cases T<;>simp[hty]at hk;have hpl:P.plainKey f.type=true:=by simp[Program.plainKey,hty]
      have h1:=run_part_plain (P:=P) w hpl hxo;have h2:=run_part_plain (P:=P) w hpl hyo;cases a<;>try (simp[Zcw]at he;done)
      rename_i pa;cases pa<;>try (simp[Zcw]at he;done)
      rename_i na;cases b<;>try (simp[Zcw]at he;done)
      rename_i pb;cases pb<;>try (simp[Zcw]at he;done)
      rename_i nb;simp only[Zcw]at he;cases hr:Zcw ks as bs with
      |none=>simp[hr]at he
      |some e'=>
       simp only[hr,Zaa,Zab]at he;have ih:=ZjH (P:=P) (w:=w) (d:=d) hf hr ha' hb' hx' hy';rw[VR,PR]at hu hv;subst hu hv;have h3:(Op.equalIn (d+1) f.type (.bool na) (.bool nb)).run P w=.ok (na==nb) w:=by simp[Op.equalIn,run_underlying hty]
       simp only[Op.eqFields,hn,ne_eq,not_false_eq_true,Zak,Sem.run_bind,h1,h2,h3,Result.andThen_ok];subst he;by_cases hnn:na=nb
       ·simp[hnn,ih]
       have:(na==nb)=false:=by simpa using hnn
       simp[this]
 |[],_::_,_,_,_,_,_,_,hf,_,_,_,_,_=>by simp[ZdR]at hf
 |_::_,[],_,_,_,_,_,_,hf,_,_,_,_,_=>by simp[ZdR]at hf
theorem Zlk {P:Program}{w:World}{c:Cx}{t:TypeId}{ks:List Bool}{as bs:List AV}{vs us:List Value}{e:Bool}(h:eqOK P t ks=true)(he:Zcw ks as bs=some e)(ha:VRL c as vs)(hb:VRL c bs us):
  (Op.equal t (.agg vs.toArray) (.agg us.toArray)).run P w=.ok e w:=by
 simp only[eqOK,Ze,Zh]at h;obtain⟨⟨h1,h2⟩,_⟩:=h;split at h1
 ·rename_i fs hu;have hfo:P.fieldsOf t=fs:=by simp[Program.fieldsOf,hu]
  unfold Op.equal Op.maxDepth;rw[run_equalIn_struct w 9999 t vs.toArray us.toArray (by rw[hfo];exact hu) h2,hfo];exact ZjH (d:=9998) h1 he ha hb (by simp) (by simp)
 cases h1
theorem Zg1 {α:Type}{a:Array α}{l:List α}(h:a.toList=l):a=l.toArray:=by subst h;simp
section
variable {P:Program} {k:K0} {n:Nat} {g:G} {s:St} {a:Act} {w:World} {ts:Array TypeId} {ty:TypeId}
theorem Zqa {c:Cx}{vs vs1 vs2:List AV}{lo hi:Bool}{d1 d2 l h:Nat}(h1:Zgd lo d1 vs=some (l,vs1))(h2:Zgd hi d2 vs1=some (h,vs2))
  {L Hi M:Option Operand} {f:Operand->Value} (hL:L.isSome=lo) (hHi:Hi.isSome=hi) (hxs:VRL c vs ((Zox L Hi M).map f)):
  ((L.map f=none/\l=d1)∨∃k i,L.map f=some (.int k i)/\0<=i/\l=i.toNat)∧
  ((Hi.map f=none/\h=d2)∨∃k i,Hi.map f=some (.int k i)/\0<=i/\h=i.toNat)∧
  VRL c vs2 (M.toList.map f):=by
 subst hL hHi;unfold Zox at hxs;rw[ZT,ZT]at hxs;rcases Zk5 h1 hxs with⟨e1,k1,i1,us1,ha,hb,hc,hd⟩|⟨e1,rfl,rfl⟩
 ·cases L with
  |none=>simp at e1
  |some L=>
   simp only[Option.toList_some,ZU,ZV,Zu,ZY,Zt]at ha;obtain⟨ha,rfl⟩:=ha;rcases Zk5 h2 hd with⟨e2,k2,i2,us2,ha2,hb2,hc2,hd2⟩|⟨e2,rfl,rfl⟩
   ·cases Hi with
    |none=>simp at e2
    |some Hi=>
     simp only[Option.toList_some,ZU,ZV,Zu,ZY,Zt]at ha2;obtain⟨ha2,rfl⟩:=ha2;exact⟨.inr ⟨k1,i1,by simp[ha],hb,hc⟩,.inr ⟨k2,i2,by simp[ha2],hb2,hc2⟩,hd2⟩
   cases Hi with
   |some Hi=>simp at e2
   |none=>exact⟨.inr ⟨k1,i1,by simp[ha],hb,hc⟩,.inl ⟨rfl,rfl⟩,by simpa using hd⟩
 cases L with
 |some L=>simp at e1
 |none=>
  simp only[Option.toList_none,ZV,ZY]at hxs;rcases Zk5 h2 hxs with⟨e2,k2,i2,us2,ha2,hb2,hc2,hd2⟩|⟨e2,rfl,rfl⟩
  ·cases Hi with
   |none=>simp at e2
   |some Hi=>
    simp only[Option.toList_some,ZU,ZV,Zu,ZY,Zt]at ha2;obtain⟨ha2,rfl⟩:=ha2;exact⟨.inl ⟨rfl,rfl⟩,.inr ⟨k2,i2,by simp[ha2],hb2,hc2⟩,hd2⟩
  cases Hi with
  |some Hi=>simp at e2
  |none=>exact⟨.inl ⟨rfl,rfl⟩,.inl ⟨rfl,rfl⟩,by simpa using hxs⟩
theorem ZsL {x r:AV}{vs:List AV}{sz:Nat}{lo hi mx:Bool}{c:Cx}(hv:Zli sz lo hi mx x vs=some r){X:Operand}{L Hi M:Option Operand}{t e:TypeId}{f:Operand->Value}(ht:P.underlying t=some (.slice e))(he:Zdh P e sz=true)
  (hL:L.isSome=lo) (hHi:Hi.isSome=hi) (hM:M.isSome=mx) (hx:VR c x (f X)) (hxs:VRL c vs ((Zox L Hi M).map f)):
  ∃u,(Instr.sliceAt t (f X) (L.map f) (Hi.map f) (M.map f)).run P w=.ok u w/\VR c r u/\ZaV r=true:=by
 have hs:(sizeOf e).run P w=.ok sz w:=Zc5 he;unfold Zli at hv;split at hv
 ·rename_i sz' full rows;rw[VR,PR]at hx;obtain⟨A,cap,hX,hcap,hfull,hrows⟩:=hx;cases hb1:Zgd lo 0 vs with
  |none=>simp[hb1]at hv
  |some p1=>
   obtain⟨l,vs1⟩:=p1;simp only[hb1,Z8]at hv;cases hb2:Zgd hi rows.length vs1 with
   |none=>simp[hb2]at hv
   |some p2=>
    obtain⟨h,vs2⟩:=p2;simp only[hb2,Z8]at hv;cases hb3:Zgd mx h vs2 with
    |none=>simp[hb3]at hv
    |some p3=>
     obtain⟨m,vs3⟩:=p3;simp only[hb3,Z8]at hv;split at hv
     ·rename_i hcond;obtain⟨hc1,hc2,hc3,hc4,hc5,hc6⟩:=hcond;subst hc4 hc5;simp only[Zab]at hv;subst hv;obtain⟨b1,b2,b3⟩:=Zqa hb1 hb2 hL hHi hxs;have hM':∃mm,((M.map f=none/\mm=cap)∨∃k i,M.map f=some (.int k i)/\0<=i/\mm=i.toNat)/\m<=mm/\mm<=cap/\(mx=true->mm=m):=by
       rcases Zk5 hb3 b3 with⟨e3,k3,i3,us3,ha3,hb3',hc3',_⟩|⟨e3,_,_⟩
       ·cases M with
        |none=>simp at hM;rw[e3]at hM;cases hM
        |some M=>
         simp only[Option.toList_some,ZU,ZV,Zt]at ha3;exact⟨m,.inr ⟨k3,i3,by simp[ha3.1],hb3',hc3'⟩,Nat.le_refl _,by omega,λ_=>rfl⟩
       cases M with
       |some M=>simp at hM;rw[e3]at hM;cases hM
       |none=>exact⟨cap,.inl ⟨rfl,rfl⟩,by omega,Nat.le_refl _,λe=>by rw[e3]at e;cases e⟩
      obtain⟨mm,m1,m2,m3,m4⟩:=hM';have hsb:=Zg6 (P:=P) (w:=w) (len:=rows.length) (cap:=cap) hcap b1 b2 m1 (by rw[Option.isSome_map,Option.isSome_map,hM,hHi];exact hc6) hc2 m2 m3;refine⟨.slice (if mm=l then A else A.map (·.add (l*sz'))) (m-l) (mm-l),?_,?_,rfl⟩
      ·unfold Instr.sliceAt;simp only[Sem.run_bind,run_underlying ht,Result.andThen_ok];unfold Instr.slice;simp only[Sem.run_bind,run_underlying ht,Result.andThen_ok,hX,hsb,hs,Sem.run_pure]
      rw[VR,PR];refine⟨if mm=l then A else A.map (·.add (l*sz')),mm-l,?_,?_,?_,?_⟩
      ·simp only[List.length_drop,ZS,Nat.min_eq_left hc3]
      ·simp only[List.length_drop,ZS,Nat.min_eq_left hc3];omega
      ·intro e;simp only[List.length_drop,ZS,Nat.min_eq_left hc3];rw[m4 e]
      intro hne;have hlm:l<m:=by
       rcases Nat.lt_or_ge l m with h|h
       ·exact h
       exact absurd (List.drop_eq_nil_of_le (by simp;omega)) hne
      obtain⟨a0,rfl,hr⟩:=hrows (by intro e0;subst e0;simp at hc3;omega);rw[Zai (by omega)];exact⟨_,rfl,Zxo hr l m⟩
     cases hv
 ·rename_i sz' id ver off len;rw[VR]at hx;obtain⟨ver0,frz,rows,b,cap,hH,hle,hX,hcap,hcur⟩:=hx;cases hb1:Zgd lo 0 vs with
  |none=>simp[hb1]at hv
  |some p1=>
   obtain⟨l,vs1⟩:=p1;simp only[hb1,Z8]at hv;cases hb2:Zgd hi len vs1 with
   |none=>simp[hb2]at hv
   |some p2=>
    obtain⟨h,vs2⟩:=p2;simp only[hb2,Z8]at hv;split at hv
    ·rename_i hcond;obtain⟨hc1,hc2,hc3,hc4,hc5,hc6⟩:=hcond;subst hc6;simp only[Zab]at hv;subst hv;obtain⟨b1,b2,b3⟩:=Zqa hb1 hb2 hL hHi hxs;have hMn:M=none:=by
      cases M with
      |none=>rfl
      |some M=>simp at hM;rw[hc2]at hM;cases hM
     subst hMn;have hsb:=Zg6 (P:=P) (w:=w) (len:=len) (cap:=cap) (mx:=none) (m:=cap) hcap b1 b2 (.inl ⟨rfl,rfl⟩) (by simp) hc3 (Nat.le_trans hc4 hcap) (Nat.le_refl _);refine⟨.slice (if cap=l then some ⟨b,off*sz',none⟩else(some (⟨b,off*sz',none⟩:Addr)).map (·.add (l*sz'))) (h-l) (cap-l),?_,?_,rfl⟩
     ·unfold Instr.sliceAt;simp only[Sem.run_bind,run_underlying ht,Result.andThen_ok];unfold Instr.slice;simp only[Sem.run_bind,run_underlying ht,Result.andThen_ok,hX,Option.map_none,hsb,hs,Sem.run_pure]
     rw[VR];clear b1 b2 b3 hsb hb1 hb2 hxs;refine⟨ver0,frz,rows,b,cap-l,hH,hle,?_,by omega,?_⟩
     ·congr 1
      by_cases e:cap=l
      ·have:l=0:=by omega
       subst this;simp[e]
      rw[Zai e];simp only[Zaa,Zgz,Z6]
     intro e;obtain⟨vs',h1,h2,h3,h4⟩:=hcur e;refine⟨vs',h1,by omega,h3,?_⟩
     rwa [show off+l+(cap-l)=off+cap by omega]
    split at hv
    ·rename_i hcond;obtain⟨hc1,hc2,rfl,rfl,hc6⟩:=hcond;subst hc6;simp only[Zab]at hv;subst hv;obtain⟨b1,b2,b3⟩:=Zqa hb1 hb2 hL hHi hxs;have hMn:M=none:=by
      cases M with
      |none=>rfl
      |some M=>simp at hM;rw[hc2]at hM;cases hM
     subst hMn;have hsb:=Zg6 (P:=P) (w:=w) (len:=h) (cap:=cap) (mx:=none) (m:=cap) hcap b1 b2 (.inl ⟨rfl,rfl⟩) (by simp) (Nat.le_refl _) hcap (Nat.le_refl _);refine⟨.slice (if cap=h then some ⟨b,off*sz',none⟩else(some (⟨b,off*sz',none⟩:Addr)).map (·.add (h*sz'))) (h-h) (cap-h),?_,?_,rfl⟩
     ·unfold Instr.sliceAt;simp only[Sem.run_bind,run_underlying ht,Result.andThen_ok];unfold Instr.slice;simp only[Sem.run_bind,run_underlying ht,Result.andThen_ok,hX,Option.map_none,hsb,hs,Sem.run_pure]
     rw[VR,PR];exact⟨_,cap-h,(by rw[Nat.sub_self];rfl),Nat.zero_le _,(λe=>by cases e),(λe=>absurd rfl e)⟩
    cases hv
 cases hv
theorem ZvK {c:Cx}{xs:List AV}{us:List Value}{r:AV}(h:minI xs=some r)(hx:VRL c xs us):∃u,(Builtin.min_ ts ty us.toArray).run P w=.ok u w/\VR c r u/\ZaV r=true:=by
 unfold minI at h;split at h
 ·simp only[Zab]at h;subst h;obtain⟨v,u,rfl,h1,h2⟩:=Zgt hx;rw[ZcM h1,ZcM h2];exact⟨_,by simp[Builtin.min_,Builtin.min2],Zec _ _,rfl⟩
 ·simp only[Zab]at h;subst h;obtain⟨v,u,t,rfl,h1,h2,h3⟩:=ZmU hx;rw[ZcM h1,ZcM h2,ZcM h3];exact⟨_,by simp[Builtin.min_,Builtin.min2],Zec _ _,rfl⟩
 cases h
theorem ZvN {c:Cx}{xs:List AV}{us:List Value}{r:AV}(h:maxI xs=some r)(hx:VRL c xs us):∃u,(Builtin.max_ ts ty us.toArray).run P w=.ok u w/\VR c r u/\ZaV r=true:=by
 unfold maxI at h;split at h
 ·simp only[Zab]at h;subst h;obtain⟨v,u,rfl,h1,h2⟩:=Zgt hx;rw[ZcM h1,ZcM h2];exact⟨_,by simp[Builtin.max_,Builtin.max2],Zec _ _,rfl⟩
 ·simp only[Zab]at h;subst h;obtain⟨v,u,t,rfl,h1,h2,h3⟩:=ZmU hx;rw[ZcM h1,ZcM h2,ZcM h3];exact⟨_,by simp[Builtin.max_,Builtin.max2],Zec _ _,rfl⟩
 cases h
theorem ZiT {α:Type}{off m:Nat}{l r:List α}(h:sub off m l=some r):off+m<=l.length/\r=(l.drop off).take m:=by
 unfold sub at h;split at h
 ·simp only[Zab]at h;exact⟨by assumption,h.symm⟩
 cases h
theorem ZuP {isA:Bool}{cs:List AV}{r:AV}(h:mk isA cs=some r)(he:isA=false):cs.length=1:=by
 subst he;simp only[mk,Zg,Zah]at h;split at h
 ·rfl
 cases h
set_option maxHeartbeats 1000000 in
theorem Zz2 (h:Rel k n g s a w){o:Oper}{d:Nat}{v:VI}{xs:List IX}(hc:chkV P n o d v xs=true){r:AV}(hv:Za6 v (xs.map (ev s.fr))=some r):
  ∃u,(execOp a.eval o).run P w=.ok (.value u) w/\VR (cx k g s.H w) r u/\top r=true:=by
 simp only[chkV,Ze]at hc;obtain⟨_,hc⟩:=hc;cases v with
 |mov=>
  simp only at hc;split at hc
  ·rename_i x hop;have hm:=ZaU h hc;have ht:=Zb6 h hc;simp only[Za6]at hv;split at hv
   ·rename_i y hy;simp only[Zab]at hv;subst hv;rw[hy]at hm ht;obtain⟨u,e,hu⟩:=Zfq hm;simp only[ZU,ZV,Zt,Zad]at e;exact⟨u,by simp[execOp,hop,e],hu,ht _ (by simp)⟩
   cases hv
  ·rename_i x hop;have hm:=ZaU h hc;have ht:=Zb6 h hc;simp only[Za6]at hv;split at hv
   ·rename_i y hy;simp only[Zab]at hv;subst hv;rw[hy]at hm ht;obtain⟨u,e,hu⟩:=Zfq hm;simp only[ZU,ZV,Zt,Zad]at e;exact⟨u,by simp[execOp,hop,e],hu,ht _ (by simp)⟩
   cases hv
  cases hc
 |bin op=>
  simp only at hc;split at hc
  ·rename_i op' t x y yt hop;simp only[Ze,Zag]at hc;obtain⟨rfl,hc⟩:=hc;have hm:=ZaU h hc;simp only[Za6]at hv;split at hv
   ·rename_i k1 a1 k2 b1 hy;split at hv
    ·rename_i hk;subst hk;rw[hy]at hm;obtain⟨u1,u2,e,h1,h2⟩:=Zgt hm;simp only[ZU,ZV,Zt,Zad]at e;have e1:=ZcM h1;have e2:=ZcM h2;cases hb:binI op k1 a1 b1 with
     |none=>simp[hb]at hv
     |some pc=>
      simp only[hb,Zaa,Zab]at hv;subst hv;obtain⟨u,hu1,hu2⟩:=ZxQ (P:=P) (w:=w) (t:=t) hb;refine⟨u,?_,hu2 _,rfl⟩;have hg:(eqGuard op t x y (.int k1 a1) (.int k1 b1)).run P w=.ok () w:=by unfold eqGuard;split<;>rfl
      simp[execOp,hop,e.1,e.2,e1,e2,hg,hu1]
    cases hv
   cases hv
  cases hc
 |sh op=>
  simp only at hc;split at hc
  ·rename_i op' t x y yt hop;simp only[Ze,Zag]at hc;obtain⟨rfl,hc⟩:=hc;have hm:=ZaU h hc;simp only[Za6]at hv;split at hv
   ·rename_i k1 a1 k2 b1 hy;rw[hy]at hm;obtain⟨u1,u2,e,h1,h2⟩:=Zgt hm;simp only[ZU,ZV,Zt,Zad]at e;have e1:=ZcM h1;have e2:=ZcM h2;cases hb:shI op k1 a1 b1 with
    |none=>simp[hb]at hv
    |some pc=>
     simp only[hb,Zaa,Zab]at hv;subst hv;obtain⟨u,hu1,hu2⟩:=Zy5 (P:=P) (w:=w) (t:=t) (k':=k2) hb;refine⟨u,?_,hu2 _,rfl⟩;have hg:(eqGuard op t x y (.int k1 a1) (.int k2 b1)).run P w=.ok () w:=by unfold eqGuard;split<;>rfl
     simp[execOp,hop,e.1,e.2,e1,e2,hg,hu1]
   cases hv
  cases hc
 |eqB neg=>
  simp only at hc;split at hc
  ·rename_i op t x y yt hop;simp only[Ze,Zag]at hc;obtain⟨⟨hop',hty⟩,hc⟩:=hc;have hm:=ZaU h hc;simp only[Za6]at hv;split at hv
   ·rename_i a1 b1 hy;simp only[Zab]at hv;subst hv;rw[hy]at hm;obtain⟨u1,u2,e,h1,h2⟩:=Zgt hm;simp only[ZU,ZV,Zt,Zad]at e;have e1:=ZnE h1;have e2:=ZnE h2;have hty':P.underlying t=some .bool:=by
     split at hty
     ·assumption
     cases hty
    have hg:(eqGuard op t x y (.bool a1) (.bool b1)).run P w=.ok () w:=by unfold eqGuard;split<;>rfl
    cases neg with
    |true=>
     simp only[Zak]at hop';subst hop';refine⟨_,?_,Zes _,rfl⟩;simp[execOp,hop,e.1,e.2,e1,e2,hg,binOp,Zll hty'];cases a1<;>cases b1<;>rfl
    |false=>
     simp only[Zg,Zah]at hop';subst hop';refine⟨_,?_,Zes _,rfl⟩;simp[execOp,hop,e.1,e.2,e1,e2,hg,binOp,Zll hty']
   cases hv
  cases hc
 |eqS neg ks=>
  simp only at hc;split at hc
  ·rename_i op t x y ty' hop;simp only[Ze,Zag]at hc;obtain⟨⟨hop',heq⟩,hm⟩:=hc;have hm:=ZaU h hm;simp only[Za6]at hv;split at hv
   ·rename_i ca cb hxs;cases he:Zcw ks ca cb with
    |none=>simp[he]at hv
    |some e=>
     simp only[he,Zaa,Zab]at hv;subst hv;rw[hxs]at hm;simp only[ZU,ZV]at hm;obtain⟨u1,us1,e1,v1,hm⟩:=ZoJ hm;obtain⟨u2,us2,e2,v2,hm⟩:=ZoJ hm;simp only[Zt]at e1;obtain⟨rfl,e1⟩:=e1;rw[←e1]at e2;simp only[Zt]at e2;obtain⟨rfl,e2⟩:=e2;rw[VR]at v1 v2;obtain⟨vs,ev,v1⟩:=v1;obtain⟨us,eu,v2⟩:=v2;have hrun:=Zlk (w:=w) heq he v1 v2;have hgt:P.eqGuardType P.depth t=false:=by
      simp only[eqOK,Ze,Zh]at heq;exact heq.2
     have hg:(eqGuard op t x y (.agg vs.toArray) (.agg us.toArray)).run P w=.ok () w:=by
      unfold eqGuard;split<;>simp[run_program,hgt]
     cases neg with
     |true=>
      simp only[Zak]at hop';subst hop';refine⟨_,?_,Zes _,rfl⟩;simp[execOp,hop,ev,eu,hg,binOp,hrun]
     |false=>
      simp only[Zg,Zah]at hop';subst hop';refine⟨_,?_,Zes _,rfl⟩;simp[execOp,hop,ev,eu,hg,binOp,hrun]
   cases hv
  cases hc
 |not=>
  simp only at hc;split at hc
  ·rename_i t x hop;have hm:=ZaU h hc;simp only[Za6]at hv;split at hv
   ·rename_i b hy;simp only[Zab]at hv;subst hv;rw[hy]at hm;obtain⟨u,e,hu⟩:=Zfq hm;simp only[ZU,ZV,Zt,Zad]at e;have e1:=ZnE hu;exact⟨_,by simp[execOp,hop,e,e1,Op.unary],Zes _,rfl⟩
   cases hv
  cases hc
 |neg=>
  simp only at hc;split at hc
  ·rename_i t x hop;have hm:=ZaU h hc;simp only[Za6]at hv;split at hv
   ·rename_i k1 b hy;simp only[Zab]at hv;subst hv;rw[hy]at hm;obtain⟨u,e,hu⟩:=Zfq hm;simp only[ZU,ZV,Zt,Zad]at e;have e1:=ZcM hu;exact⟨_,by simp only[execOp,hop,e,e1,Op.unary,Op.intArith,Sem.run_bind,Sem.run_pure,Result.andThen_ok],Zec _ _,rfl⟩
   cases hv
  cases hc
 |conv k1=>
  simp only at hc;split at hc
  ·rename_i src dst x hop;simp only[Ze]at hc;obtain⟨⟨hsrc,hdst⟩,hc⟩:=hc;have hm:=ZaU h hc;simp only[Za6]at hv;split at hv
   ·rename_i k2 b hy;simp only[Zab]at hv;subst hv;rw[hy]at hm;obtain⟨u,e,hu⟩:=Zfq hm;simp only[ZU,ZV,Zt,Zad]at e;have e1:=ZcM hu;obtain⟨ds,hds⟩:=Option.isSome_iff_exists.1 hsrc;have hdst':P.underlying dst=some (.int k1):=by
     split at hdst
     ·simp only[Zag]at hdst;subst hdst;assumption
     cases hdst
    exact⟨_,by simp[execOp,hop,e,e1,convert,run_underlying hds,run_underlying hdst',Conv.intToInt],Zec _ _,rfl⟩
   cases hv
  cases hc
 |pick=>
  simp only at hc;split at hc
  ·rename_i c1 x y hop;have hm:=ZaU h hc;have ht:=Zb6 h hc;simp only[Za6]at hv;split at hv
   ·rename_i b a1 b1 hy;simp only[Zab]at hv;subst hv;rw[hy]at hm ht;obtain⟨u1,u2,u3,e,h1,h2,h3⟩:=ZmU hm;simp only[ZU,ZV,Zt,Zad]at e;have e1:=ZnE h1;refine⟨if b then u2 else u3,?_,?_,?_⟩
    ·simp[execOp,hop,e.1,e.2.1,e.2.2,e1,asBool]
    ·cases b<;>simp[h2,h3]
    cases b<;>exact ht _ (by simp)
   cases hv
  cases hc
 |faddr off=>
  simp only at hc;split at hc
  ·rename_i st x f hop;simp only[Ze]at hc;obtain⟨hf,hc⟩:=hc;have hm:=ZaU h hc;simp only[Za6]at hv;split at hv
   ·rename_i y hy;rw[hy]at hm;obtain⟨u,e,hu⟩:=Zfq hm;simp only[ZU,ZV,Zt,Zad]at e;obtain⟨a0,rfl,hr⟩:=ZtN hv hu;split at hf
    ·rename_i fs hst;split at hf
     ·rename_i fl hfl;simp only[Ze,Zag]at hf;obtain⟨rfl,hsz⟩:=hf;split at hsz
      ·rename_i i hi;simp only[Zag]at hsz;exact⟨_,by simp[execOp,hop,e,Instr.fieldAt,run_underlying hst,hfl,Instr.sureAddr,fieldPlace,sizeOf,typeInfo,hi,hsz],hr,Zk7 hv⟩
      cases hsz
     cases hf
    cases hf
   cases hv
  cases hc
 |iaddr m sz=>
  simp only at hc;split at hc
  ·rename_i t x i hop;simp only[Ze]at hc;obtain⟨hty,hc⟩:=hc;have hm:=ZaU h hc;simp only[Za6]at hv;split at hv
   ·rename_i y k1 i1 hy;split at hv
    ·rename_i hi;rw[hy]at hm;obtain⟨u1,u2,e,h1,h2⟩:=Zgt hm;simp only[ZU,ZV,Zt,Zad]at e;obtain⟨a0,rfl,hr⟩:=ZtN hv h1;have e2:=ZcM h2;split at hty
     ·rename_i m' el hu;simp only[Ze,Zag]at hty;obtain⟨rfl,hsz⟩:=hty;exact⟨_,by simp[execOp,hop,e.1,e.2,e2,Instr.indexAt,asIntOf,run_underlying hu,Instr.sureAddr,hi,Zc5 hsz],hr,Zk7 hv⟩
     cases hty
    cases hv
   cases hv
  cases hc
 |iaddrS sz=>
  simp only at hc;split at hc
  ·rename_i t x i hop;simp only[Ze]at hc;obtain⟨hty,hc⟩:=hc;have hm:=ZaU h hc;split at hty
   ·rename_i el hu;simp only[Za6]at hv;split at hv
    ·rename_i sz' full rows k1 i1 hy;split at hv
     ·rename_i hi;simp only[Zab]at hv;subst hv;obtain⟨rfl,hi0,hi1⟩:=hi;rw[hy]at hm;obtain⟨u1,u2,e,h1,h2⟩:=Zgt hm;simp only[ZU,ZV,Zt,Zad]at e;have e2:=ZcM h2;rw[VR,PR]at h1;obtain⟨A,cap,rfl,_,_,hA⟩:=h1;obtain⟨a0,rfl,hr⟩:=hA (by intro e;subst e;simp at hi1;omega);refine⟨_,by simp[execOp,hop,e.1,e.2,e2,Instr.indexAt,asIntOf,run_underlying hu,hi0,hi1,Zc5 hty];rfl,?_,rfl⟩;rw[VR];exact⟨a0,rfl,hr⟩
     cases hv
    ·rename_i sz' id ver off len k1 i1 hy;split at hv
     ·rename_i hi;simp only[Zab]at hv;subst hv;obtain⟨rfl,hi0,hi1⟩:=hi;rw[hy]at hm;obtain⟨u1,u2,e,h1,h2⟩:=Zgt hm;simp only[ZU,ZV,Zt,Zad]at e;have e2:=ZcM h2;rw[VR]at h1;obtain⟨ver0,frz,rows,b,cap,hH,hle,rfl,hcap,hcur⟩:=h1;refine⟨_,by simp[execOp,hop,e.1,e.2,e2,Instr.indexAt,asIntOf,run_underlying hu,hi0,hi1,Zc5 hty];rfl,?_,rfl⟩;rw[VR];refine⟨ver0,frz,rows,b,hH,hle,by rw[Zgz,Z6];rfl,λe=>?_⟩;obtain⟨_,hb,_⟩:=hcur e;exact hb
     cases hv
    ·rename_i id m k1 i1 hy;split at hv
     ·rename_i hi;simp only[Zab]at hv;subst hv;obtain⟨rfl,hi0,hi1⟩:=hi;rw[hy]at hm;obtain⟨u1,u2,e,h1,h2⟩:=Zgt hm;simp only[ZU,ZV,Zt,Zad]at e;have e2:=ZcM h2;rw[VR]at h1;obtain⟨cs,b,hH,hb,rfl⟩:=h1;refine⟨_,by simp[execOp,hop,e.1,e.2,e2,Instr.indexAt,asIntOf,run_underlying hu,hi0,hi1,Zc5 hty];rfl,?_,rfl⟩;rw[VR];exact⟨cs,b,hH,hb,by rw[Zgz];simp⟩
     cases hv
    cases hv
   cases hty
  cases hc
 |idx m sz isA=>
  simp only at hc;split at hc
  ·rename_i t x i hop;simp only[Ze]at hc;obtain⟨hty,hc⟩:=hc;have hm:=ZaU h hc;have ht:=Zb6 h hc;simp only[Za6]at hv;split at hv
   ·rename_i cs k1 i1 hy;split at hv
    ·rename_i hi;rw[hy]at hm ht;obtain⟨u1,u2,e,h1,h2⟩:=Zgt hm;simp only[ZU,ZV,Zt,Zad]at e;have e2:=ZcM h2;rw[VR]at h1;obtain⟨vs,rfl,h1⟩:=h1;split at hty
     ·rename_i m' el hu;simp only[Ze,Zag]at hty;obtain⟨⟨rfl,hsz⟩,hag⟩:=hty;cases hs:sub (i1.toNat*sz) sz cs with
      |none=>simp[hs]at hv
      |some cs'=>
       simp only[hs,Z8]at hv;obtain⟨hle,rfl⟩:=ZiT hs;have hone:isA=false->sz=1:=λe=>by
        have:=ZuP hv e;simp at this;omega
       have hp:=ZuI (P:=P) (w:=w) (cs:=vs) (off:=i1.toNat*sz) hsz hag (by rw[h1.length];exact hle) hone;refine⟨_,by simp only[execOp,hop,e.1,e.2,e2,Instr.index,asIntOf,Sem.run_bind,Sem.run_pure,Result.andThen_ok,run_underlying hu,hi,and_self,Zak,Zc5 hsz,hp],Zx4 hv (ZnF h1 _ _),?_⟩;have htop:=ht (.agg cs) (by simp);exact ZaP (ZlF hv (ZgY (by simpa[top,ZaV]using htop) hs))
     cases hty
    cases hv
   cases hv
  cases hc
 |fld off m isA=>
  simp only at hc;split at hc
  ·rename_i t x f hop;simp only[Ze]at hc;obtain⟨hty,hc⟩:=hc;have hm:=ZaU h hc;have ht:=Zb6 h hc;simp only[Za6]at hv;split at hv
   ·rename_i cs hy;rw[hy]at hm ht;obtain⟨u1,e,h1⟩:=Zfq hm;simp only[ZU,ZV,Zt,Zad]at e;rw[VR]at h1;obtain⟨vs,rfl,h1⟩:=h1;split at hty
    ·rename_i fs hu;split at hty
     ·rename_i fl hfl;simp only[Ze,Zag]at hty;obtain⟨⟨rfl,hsz⟩,hag⟩:=hty;cases hs:sub fl.offset m cs with
      |none=>simp[hs]at hv
      |some cs'=>
       simp only[hs,Z8]at hv;obtain⟨hle,rfl⟩:=ZiT hs;have hone:isA=false->m=1:=λe=>by
        have:=ZuP hv e;simp at this;omega
       have hp:=ZuI (P:=P) (w:=w) (cs:=vs) (off:=fl.offset) hsz hag (by rw[h1.length];exact hle) hone;refine⟨_,by simp only[execOp,hop,e,Instr.field,asAgg,Sem.run_bind,Sem.run_pure,Result.andThen_ok,run_underlying hu,hfl,hp],Zx4 hv (ZnF h1 _ _),?_⟩;have htop:=ht (.agg cs) (by simp);exact ZaP (ZlF hv (ZgY (by simpa[top,ZaV]using htop) hs))
     cases hty
    cases hty
   cases hv
  cases hc
 |build zero parts=>
  simp only at hc;split at hc
  ·rename_i t ps hop;simp only[Ze]at hc;obtain⟨⟨⟨h1,h2⟩,h3⟩,hc⟩:=hc;have hm:=ZaU h hc;simp only[Za6]at hv;cases hf:Zcx zero parts (xs.map (ev s.fr))with
   |none=>simp[hf]at hv
   |some out=>
    simp only[hf,Zaa,Zab]at hv;subst hv;obtain⟨u,hu1,hu2,hu3⟩:=ZsR (P:=P) (w:=w) (ρ:=a.eval) h1 h2 h3 (by simpa[List.map_map,Function.comp_def]using hm) hf;refine⟨u,?_,hu2,by simpa[top,ZaV]using ZaM hu3⟩;simp only[execOp,hop,Sem.run_bind];rw[hu1];rfl
  cases hc
 |len=>
  simp only at hc;split at hc
  ·rename_i args ts hop;simp only[Ze,Zag]at hc;obtain⟨⟨hty,hc⟩,hlen⟩:=hc;have hm:=ZaU h hc;split at hty
   ·rename_i t hts;have hts':ts=#[t]:=Zg1 hts;subst hts';split at hty
    ·rename_i el hu;simp only[Za6]at hv;have key:∀y,xs.map (ev s.fr)=[y]->∃X,args=#[X]/\VR (cx k g s.H w) y (a.eval X):=by
      intro y hy;rw[hy]at hm;obtain⟨u1,e,h1⟩:=Zfq hm;cases hl:args.toList with
      |nil=>rw[hl]at e;simp at e
      |cons X l=>
       rw[hl]at e;simp only[ZU,Zt,List.map_eq_nil_iff]at e;obtain⟨e1,rfl⟩:=e;exact⟨X,Zg1 hl,by rw[e1];exact h1⟩
     split at hv
     ·rename_i sz full rows hy;simp only[Zab]at hv;subst hv;obtain⟨X,rfl,h1⟩:=key _ hy;rw[VR,PR]at h1;obtain⟨A,cap,e1,_⟩:=h1;exact⟨_,by simp[execOp,hop,resolve,invoke,builtin,e1,Zi2 hu],Zec _ _,rfl⟩
     ·rename_i sz id ver off ln hy;simp only[Zab]at hv;subst hv;obtain⟨X,rfl,h1⟩:=key _ hy;rw[VR]at h1;obtain⟨ver0,frz,rows,b,cap,hH,hle,e1,_⟩:=h1;exact⟨_,by simp[execOp,hop,resolve,invoke,builtin,e1,Zi2 hu],Zec _ _,rfl⟩
     ·rename_i id m hy;simp only[Zab]at hv;subst hv;obtain⟨X,rfl,h1⟩:=key _ hy;rw[VR]at h1;obtain⟨cs,b,hH,hb,e1⟩:=h1;exact⟨_,by simp[execOp,hop,resolve,invoke,builtin,e1,Zi2 hu],Zec _ _,rfl⟩
     cases hv
    cases hty
   cases hty
  cases hc
 |lenA m=>
  simp only at hc;split at hc
  ·rename_i args ts hop;simp only[Ze,Zag]at hc;obtain⟨⟨hty,hc⟩,hlen⟩:=hc;have hm:=(ZaU h hc).length;simp only[ZO]at hm;split at hty
   ·rename_i t hts;have hts':ts=#[t]:=Zg1 hts;subst hts';split at hty
    ·rename_i m' el hu;simp only[Zag]at hty;subst hty;simp only[Za6,Zab]at hv;subst hv;obtain⟨X,hX⟩:∃X,args=#[X]:=by
      cases hl:args.toList with
      |nil=>rw[hl]at hm;simp at hm;omega
      |cons X l=>
       cases l with
       |nil=>exact⟨X,Zg1 hl⟩
       |cons=>rw[hl]at hm;simp at hm;omega
     subst hX;exact⟨_,by simp[execOp,hop,resolve,invoke,builtin,ZrF hu],Zec _ _,rfl⟩
    cases hty
   cases hty
  cases hc
 |ext i=>
  simp only at hc;split at hc
  ·rename_i x i' hop;simp only[Ze,Zag]at hc;obtain⟨rfl,hc⟩:=hc;have hm:=ZaU h hc;have ht:=Zb6 h hc;simp only[Za6]at hv;split at hv
   ·rename_i cs hy;rw[hy]at hm ht;obtain⟨u1,e,h1⟩:=Zfq hm;simp only[ZU,ZV,Zt,Zad]at e;rw[VR]at h1;obtain⟨vs,rfl,h1⟩:=h1;have hlt:i<vs.length:=by rw[h1.length];exact(List.getElem?_eq_some_iff.1 hv).1
    rw[Zed]at h1;refine⟨vs[i],by simp[execOp,hop,e,Instr.extract,hlt],h1.2 i r _ hv (ZF hlt),?_⟩;have htop:=ht (.tup cs) (by simp);have:noLocL cs=true:=by simpa[top,ZaV]using htop
    exact ZaP (ZbV.1 this r (List.mem_of_getElem? hv))
   cases hv
  cases hc
 |mkfn f nf=>
  simp only at hc;split at hc
  ·rename_i f' first cap hop
   simp only[Ze,Zag]at hc;obtain⟨⟨rfl,hnf⟩,hc⟩:=hc;have hm:=ZaU h hc;simp only[Za6]at hv;split at hv
   ·rename_i hn;simp only[Zab]at hv;subst hv;refine⟨_,by simp[execOp,hop,Instr.makeFunc];rfl,?_,?_⟩
    ·rw[VR];have h1:=Zvd hm nf;have h2:=Zve hm nf;refine⟨first.toList.map a.eval,cap.toList.map a.eval,?_,?_,?_⟩
     ·congr 1
      ·apply Array.ext';simp
      apply Array.ext';simp
     ·rw[ZT,List.take_left' (by simp[hnf])]at h1;exact h1
     rw[ZT,List.drop_left' (by simp[hnf])]at h2;exact h2
    simp only[top,ZaV,Ze];rw[ZbV]at hn;exact⟨ZbV.2 λx hx=>hn x (List.mem_of_mem_take hx),ZbV.2 λx hx=>hn x (List.mem_of_mem_drop hx)⟩
   cases hv
  cases hc
 |min=>
  simp only at hc;split at hc
  ·rename_i args ts hop;have hm:=ZaU h hc;obtain⟨u,hu1,hu2,hu3⟩:=ZvK (P:=P) (w:=w) (ts:=ts) (ty:=o.type) hv hm;refine⟨u,?_,hu2,ZaP hu3⟩;simp only[execOp,hop,resolve,invoke,builtin,Sem.run_bind,Sem.run_pure,Result.andThen_ok];rw[show args.map a.eval=(args.toList.map a.eval).toArray by apply Array.ext';simp,hu1];rfl
  cases hc
 |max=>
  simp only at hc;split at hc
  ·rename_i args ts hop;have hm:=ZaU h hc;obtain⟨u,hu1,hu2,hu3⟩:=ZvN (P:=P) (w:=w) (ts:=ts) (ty:=o.type) hv hm;refine⟨u,?_,hu2,ZaP hu3⟩;simp only[execOp,hop,resolve,invoke,builtin,Sem.run_bind,Sem.run_pure,Result.andThen_ok];rw[show args.map a.eval=(args.toList.map a.eval).toArray by apply Array.ext';simp,hu1];rfl
  cases hc
 |slice sz lo hi mx=>
  simp only at hc;split at hc
  ·rename_i t x l h' m hop;simp only[Ze,Zag]at hc;obtain⟨⟨⟨⟨hty,hl⟩,hh⟩,hmx⟩,hc⟩:=hc;have hm:=ZaU h hc;simp only[Za6]at hv;split at hv
   ·rename_i y vs hy;rw[hy]at hm;simp only[ZU]at hm;rw[VRL]at hm;obtain⟨u,us,e,h1,h2⟩:=hm;simp only[Zt]at e;obtain⟨rfl,rfl⟩:=e;split at hty
    ·rename_i el hu;obtain⟨r',hr1,hr2,hr3⟩:=ZsL (P:=P) (w:=w) hv hu hty hl hh hmx h1 h2;refine⟨r',?_,hr2,ZaP hr3⟩;simp only[execOp,hop,Sem.run_bind];rw[hr1];rfl
    cases hty
   cases hv
  cases hc
 |nilChk=>
  simp only at hc;split at hc
  ·rename_i x hop;have hm:=ZaU h hc;have ht:=Zb6 h hc;simp only[Za6]at hv;have key:∀y,xs.map (ev s.fr)=[y]->VR (cx k g s.H w) y (a.eval x)/\top y=true:=by
    intro y hy;rw[hy]at hm ht;obtain⟨u1,e,h1⟩:=Zfq hm;simp only[ZU,ZV,Zt,Zad]at e;exact⟨by rw[e];exact h1,ht y (by simp)⟩
   split at hv
   all_goals try (cases hv;done)
   all_goals
    rename_i hy;simp only[Zab]at hv;subst hv;obtain⟨h1,h2⟩:=key _ hy;refine⟨_,?_,h1,h2⟩;rw[VR]at h1
   ·obtain⟨b,e,_⟩:=h1;simp[execOp,hop,e]
   ·obtain⟨cs,b,_,_,e⟩:=h1;simp[execOp,hop,e]
   ·obtain⟨ver0,frz,rows,b,_,_,e,_⟩:=h1;simp[execOp,hop,e]
   ·obtain⟨xs',ys',e,_,_⟩:=h1;simp[execOp,hop,e]
   obtain⟨L,fr,st,b,_,_,e⟩:=h1;simp[execOp,hop,e]
  cases hc
 |isNil neg=>
  simp only at hc;split at hc
  ·rename_i op t x l0 c0 yt hop;simp only[Ze,Zag]at hc;obtain⟨⟨hop',hty⟩,hc⟩:=hc;have hm:=ZaU h hc;have hty':∃el,P.underlying t=some (.slice el):=by
    split at hty
    ·rename_i el hu;exact⟨el,hu⟩
    cases hty
   obtain⟨el,hu⟩:=hty';have key:∀y,xs.map (ev s.fr)=[y]->VR (cx k g s.H w) y (a.eval x):=by
    intro y hy;rw[hy]at hm;obtain⟨u1,e,h1⟩:=Zfq hm;simp only[ZU,ZV,Zt,Zad]at e;rw[e];exact h1
   have run:∀(A:Option Addr) (l1 c1:Nat),(Op.equal t (.slice A l1 c1) (.slice none l0 c0)).run P w=.ok A.isNone w:=λA l1 c1=>by
    exact Zo4 hu 9999 A l1 c1 l0 c0
   have fin:∀(A:Option Addr) (l1 c1:Nat),a.eval x=.slice A l1 c1->(execOp a.eval o).run P w=.ok (.value (.bool (if neg then !A.isNone else A.isNone))) w:=λA l1 c1 e1=>by
    have hg:(eqGuard op t x (.const (.slice none l0 c0)) (.slice A l1 c1) (.slice none l0 c0)).run P w=.ok () w:=by unfold eqGuard;split<;>rfl
    have e2:a.eval (.const (.slice none l0 c0))=.slice none l0 c0:=rfl;cases neg with
    |true=>
     simp only[Zak]at hop';subst hop';simp[execOp,hop,e1,e2,hg,binOp,run]
    |false=>
     simp only[Zg,Zah]at hop';subst hop';simp[execOp,hop,e1,e2,hg,binOp,run]
   simp only[Za6]at hv;split at hv
   ·rename_i hy;simp only[Zab]at hv;subst hv;have h1:=key _ hy;rw[VR]at h1;refine⟨_,fin none 0 0 h1,?_,rfl⟩;cases neg<;>exact Zes _
   ·rename_i sz full r rs hy;simp only[Zab]at hv;subst hv;have h1:=key _ hy;rw[VR,PR]at h1;obtain⟨A,cap,e1,_,_,hA⟩:=h1;obtain⟨a0,rfl,_⟩:=hA (by simp);refine⟨_,fin _ _ _ e1,?_,rfl⟩;cases neg<;>exact Zes _
   cases hv
  cases hc
end
end Go.Eng

namespace Go.Eng
open Go
def Did (P:Program)(k:K0)(n:Nat)(s':St)(a:Act)(w:World)(o:Oper):Prop:=
 ∃u w' g',((execOp a.eval o).run P w=.ok (.value u) w'∨((execOp a.eval o).run P w=.ok .skip w'/\u=undef))/\Rel k n g' s' (a.put o.dst u) w'
def chkM (P:Program)(n:Nat)(o:Oper):Ins->Bool
 |.load d x m isAgg=>decide (o.dst=some d)&&decide (d<n)&&(match o.op with
  |.load t X=>Zdh P t m&&Zsq P t isAgg&&ZeK X x
  |_=>false)
 |.loadL d x m isAgg=>decide (o.dst=some d)&&decide (d<n)&&(match o.op with
  |.load t X=>Zdh P t m&&Zsq P t isAgg&&ZeK X x
  |_=>false)
 |.store x y m=>decide (o.dst=none)&&(match o.op with
  |.store t X Y=>Zdh P t m&&ZeK X x&&ZeK Y y
  |_=>false)
 |.storeH x y m=>decide (o.dst=none)&&(match o.op with
  |.store t X Y=>Zdh P t m&&ZeK X x&&ZeK Y y
  |_=>false)
 |.newL d zero=>decide (o.dst=some d)&&decide (d<n)&&(match o.op with
  |.alloc t=>Zj2 P t zero
  |_=>false)
 |.boxL d x=>decide (o.dst=some d)&&decide (d<n)&&(match o.op with
  |.box _ X=>ZeK X x
  |_=>false)
 |.newH d zero=>decide (o.dst=some d)&&decide (d<n)&&(match o.op with
  |.alloc t=>Zj2 P t zero
  |_=>false)
 |.boxH d x=>decide (o.dst=some d)&&decide (d<n)&&(match o.op with
  |.box _ X=>ZeK X x
  |_=>false)
 |_=>false
section
variable {P:Program} {k:K0} {n:Nat} {g:G} {s:St} {a:Act} {w:World}
theorem Zo3 {t:TypeId}{m:Nat}{isA:Bool}{A:Addr}{us:List Value}(h1:Zdh P t m=true)(h2:Zsq P t isA=true)(hl:us.length=m)(hone:isA=false->m=1)
  (hc:∀j u,us[j]?=some u->w.cell? (A.add j)=some u):(loadVar t A).run P w=.ok (if isA then .agg us.toArray else us.getD 0 undef) w:=by
 unfold loadVar;simp only[Sem.run_bind,ZsP h2,Result.andThen_ok];cases isA with
 |true=>
  simp only[Zak,Sem.run_bind,Zc5 h1,Result.andThen_ok,Sem.run_pure];rw[←hl,run_loadCells_list w A us hc];rfl
 |false=>
  have hm:=hone rfl;subst hm
  match us,hl with
  |[u],_=>
   have:=hc 0 u rfl;rw[add_zero]at this;simp[this]
theorem ZtH {c:Cx}{b:Nat}{vs:Array Value}(h:c.blk b vs){off m:Nat}:∀(j:Nat) u,((vs.toList.drop off).take m)[j]?=some u->c.w.cell? ((⟨b,off,none⟩:Addr).add j)=some u:=by
 intro j u hj;rw[ZL]at hj;split at hj
 ·rw[ZE]at hj;rw[Zgz,ZmQ h];simpa using hj
 cases hj
theorem Zuv {c:Cx}:∀(ps:List PC) (us:List Value),us.length=ps.length->(∀(j:Nat) x u,ps[j]?=some x->us[j]?=some u->PR c.ok c.w x u)->VRL c (ps.map .p) us:=by
 intro ps us hl h;rw[Zed];refine⟨by simp[hl],λj x u hj hu=>?_⟩;rw[ZH]at hj;cases hp:ps[j]? with
 |none=>simp[hp]at hj
 |some p=>
  simp only[hp,Zaa,Zab]at hj;subst hj;rw[VR];exact h j p u hp hu
theorem Zwa {c:Cx}:∀(ps:List PC) (us:List Value),us.length=ps.length->(∀(j:Nat) x u,ps[j]?=some x->us[j]?=some u->VR c (up x) u)->VRL c (ps.map up) us:=by
 intro ps us hl h;rw[Zed];refine⟨by simp[hl],λj x u hj hu=>?_⟩;rw[ZH]at hj;cases hp:ps[j]? with
 |none=>simp[hp]at hj
 |some p=>
  simp only[hp,Zaa,Zab]at hj;subst hj;exact h j p u hp hu
theorem Zr2 (ps:List PC):noLocL (ps.map up)=true:=by
 rw[ZbV];intro x hx;obtain⟨p,_,rfl⟩:=List.mem_map.1 hx;exact ZgP p
theorem Ztk (ps:List PC):noLocL (ps.map .p)=true:=by
 rw[ZbV];intro x hx;obtain⟨p,_,rfl⟩:=List.mem_map.1 hx;rfl
theorem ZrH {R:PC->Value->Prop}{Q:Nat->Value->Prop}{ps:List PC}(h:∀(j:Nat) x,ps[j]?=some x->∃u,Q j u/\R x u):
  ∃us:List Value,us.length=ps.length/\(∀(j:Nat) u,us[j]?=some u->Q j u)/\∀(j:Nat) x u,ps[j]?=some x->us[j]?=some u->R x u:=by
 induction ps generalizing Q with
 |nil=>exact⟨[],rfl,by simp,by simp⟩
 |cons p ps ih=>
  obtain⟨u0,hq,hp⟩:=h 0 p rfl;obtain⟨us,h1,h2,h3⟩:=ih (Q:=λj=>Q (j+1)) (λj x hj=>h (j+1) x (by simpa using hj));refine⟨u0::us,by simp[h1],λj u hj=>?_,λj x u hj hu=>?_⟩
  ·cases j with
   |zero=>simp at hj;subst hj;exact hq
   |succ j=>exact h2 j u (by simpa using hj)
  cases j with
  |zero=>simp at hj hu;subst hj hu;exact hp
  |succ j=>exact h3 j x u (by simpa using hj) (by simpa using hu)
theorem ZuK (h:Rel k n g s a w){m:Nat}{x:AV}{cs:List AV}{v:Value}(hr:rd s.bx s.H m x=some cs)(hv:VR (cx k g s.H w) x v):
  ∃A us,v=.pointer (some A)/\VRL (cx k g s.H w) cs us/\us.length=m/\noLocL cs=true/\∀(j:Nat) u,us[j]?=some u->w.cell? (A.add j)=some u:=by
 unfold rd at hr;split at hr
 ·rename_i t off;cases hb:bget s.bx t with
  |none=>simp[hb]at hr
  |some bs=>
   simp only[hb,Z8]at hr;obtain⟨b,hβ,hok,vs,hblk,hvs⟩:=h.boxes t bs hb;rw[VR]at hv;obtain⟨b',rfl,hb'⟩:=hv;have:=hb' b hβ;subst this;obtain⟨hle,rfl⟩:=ZiT hr;refine⟨_,(vs.toList.drop off).take m,rfl,ZnF hvs off m,?_,ZgY (ZaM hok) hr,ZtH hblk⟩;simp[hvs.length]at hle⊢;have:=hvs.length;simp at this;omega
 ·rename_i id off;split at hr
  ·rename_i bs hH;obtain⟨b,hρ,hok,vs,hblk,hvs⟩:=h.heap id _ hH;rw[VR]at hv;obtain⟨cs',b',_,hb',rfl⟩:=hv;have:b'=b:=by
    have:g.ρ[id]?=some b':=hb';rw[hρ]at this;cases this;rfl
   subst this;obtain⟨hle,rfl⟩:=ZiT hr;refine⟨_,(vs.toList.drop off).take m,rfl,ZnF hvs off m,?_,ZgY (ZaM hok) hr,ZtH hblk⟩;have:=hvs.length;simp at this;simp;omega
  cases hr
 ·rename_i sz id ver i off;split at hr
  ·rename_i sz' ver' frz rows hH;split at hr
   ·rename_i hcond;obtain⟨rfl,rfl⟩:=hcond;cases hi:rows[i]? with
    |none=>simp[hi]at hr
    |some r=>
     simp only[hi,Z8]at hr;cases hs:sub off m r with
     |none=>simp[hs]at hr
     |some ps=>
      simp only[hs,Zaa,Zab]at hr;subst hr;obtain⟨b,hρ,vs,hblk,hsz,hrow⟩:=h.heap id _ hH;rw[VR]at hv;obtain⟨ver0,frz',rows',b',hH',_,rfl,hcur⟩:=hv;have e:some (HO.arr sz' ver' frz rows)=some (HO.arr sz' ver0 frz' rows'):=by
       have:s.H[id]?=some (HO.arr sz' ver0 frz' rows'):=hH';rw[hH]at this;exact this
      simp only[Zab,HO.arr.injEq]at e;have hb':g.ρ[id]?=some b':=hcur e.2.1;rw[hρ]at hb';cases hb';obtain⟨hle,rfl⟩:=ZiT hs;obtain⟨us,u1,u2,u3⟩:=ZrH (R:=λx u=>VR (cx k g s.H w) (up x) u) (Q:=λj u=>vs[i*sz'+(off+j)]?=some u) (ps:=(r.drop off).take m) (λj x hj=>by
       rw[ZL]at hj;split at hj
       ·rw[ZE]at hj;exact(hrow i r hi).2 (off+j) x hj
       cases hj)
      refine⟨_,us,rfl,Zwa _ us u1 u3,?_,Zr2 _,λj u hj=>?_⟩
      ·simp at u1;omega
      have hcb:w.cell? ⟨b,i*sz'+off+j,none⟩=_:=ZmQ hblk (i*sz'+off+j);rw[Zgz,hcb,Nat.add_assoc];exact u2 j u hj
   cases hr
  cases hr
 ·rename_i sz rows i off;cases hi:rows[i]? with
  |none=>simp[hi]at hr
  |some r=>
   simp only[hi,Z8]at hr;cases hs:sub off m r with
   |none=>simp[hs]at hr
   |some ps=>
    simp only[hs,Zaa,Zab]at hr;subst hr;rw[VR]at hv;obtain⟨a0,rfl,hrows⟩:=hv;obtain⟨hle,rfl⟩:=ZiT hs;have hrow:=(ZjJ _ _).1 ((Zgf _ _).1 hrows i r hi).2;obtain⟨us,u1,u2,u3⟩:=ZrH (R:=PR (okOf k s.H g) w) (Q:=λj u=>w.cell? (a0.add (i*sz+(off+j)))=some u) (ps:=(r.drop off).take m) (λj x hj=>by
     rw[ZL]at hj;split at hj
     ·rw[ZE]at hj;obtain⟨u,hu1,_,hu2⟩:=hrow (off+j) x hj;rw[Zfp]at hu1;exact⟨u,hu1,hu2⟩
     cases hj)
    refine⟨_,us,rfl,Zuv _ us u1 u3,?_,Ztk _,λj u hj=>?_⟩
    ·simp at u1;omega
    rw[Zfp,Nat.add_assoc];exact u2 j u hj
 cases hr
theorem ZiH (h:Rel k n g s a w){o:Oper}{d:Nat}{x:IX}{m:Nat}{isA:Bool}(hc:chkM P n o (.load d x m isA)=true){s':St}(hx:Za0 (.load d x m isA) s=some s'):Did P k n s' a w o:=by
 simp only[chkM,Ze,Zag]at hc;obtain⟨⟨hd,hn⟩,hc⟩:=hc;split at hc
 ·rename_i t X hop;simp only[Ze]at hc;obtain⟨⟨hsz,hag⟩,hm⟩:=hc;simp only[Za0]at hx;cases hr:rd s.bx s.H m (ev s.fr x)with
  |none=>simp[hr]at hx
  |some cs=>
   simp only[hr,Z8]at hx;split at hx
   rotate_left
   ·cases hx
   cases hmk:mk isA cs with
   |none=>simp[hmk]at hx
   |some r=>
    simp only[hmk,Zaa,Zab]at hx;subst hx;obtain⟨A,us,e,h1,h2,h3,h4⟩:=ZuK h hr (Zca h hm);have hone:isA=false->m=1:=λe=>by
     have:=ZuP hmk e;rw[←h2,h1.length];exact this
    have hrun:=Zo3 (P:=P) (w:=w) hsz hag h2 hone h4;refine⟨_,w,g,.inl (by simp[execOp,hop,Instr.loadAt,e,Instr.sureAddr,hrun];rfl),?_⟩;rw[hd];exact h.put hn (Zx4 hmk h1) (ZaP (ZlF hmk h3))
 cases hc
theorem ZvP {d:Nat}{x:IX}{m:Nat}{isA:Bool}{s':St}(hx:Za0 (.loadL d x m isA) s=some s'):Za0 (.load d x m isA) s=some s':=by
 simp only[Za0]at hx⊢;split at hx
 ·rename_i t off e;rw[e];exact hx
 cases hx
theorem Zuj (h:Rel k n g s a w){o:Oper}{d:Nat}{x:IX}{m:Nat}{isA:Bool}(hc:chkM P n o (.loadL d x m isA)=true){s':St}(hx:Za0 (.loadL d x m isA) s=some s'):Did P k n s' a w o:=
 ZiH h hc (ZvP hx)
theorem ZkO {t:TypeId}{v:Value}:(newVar t v).run P w=.ok ⟨w.heap.size,0,none⟩ (w.alloc (.cells v.cells t)):=by
 simp[newVar,newRow]
theorem ZvG (h:Rel k n g s a w){o:Oper}{d:Nat}{zero:List AV}(hc:chkM P n o (.newL d zero)=true){s':St}(hx:Za0 (.newL d zero) s=some s'):Did P k n s' a w o:=by
 simp only[chkM,Ze,Zag]at hc;obtain⟨⟨hd,hn⟩,hc⟩:=hc;split at hc
 ·rename_i t hop;simp only[Za0,Zab]at hx;subst hx;obtain⟨v,hv1,hv2,hv3⟩:=ZmW hc (cx k g s.H w) w;obtain⟨g',hg'⟩:=h.newBox hn hv3 hv2 t;refine⟨.pointer (some ⟨w.heap.size,0,none⟩),w.alloc (.cells v.cells t),g',.inl ?_,by rw[hd];exact hg'⟩;simp[execOp,hop,Instr.alloc,hv1,ZkO]
 cases hc
theorem Zv5 (h:Rel k n g s a w){o:Oper}{d:Nat}{x:IX}(hc:chkM P n o (.boxL d x)=true){s':St}(hx:Za0 (.boxL d x) s=some s'):Did P k n s' a w o:=by
 simp only[chkM,Ze,Zag]at hc;obtain⟨⟨hd,hn⟩,hc⟩:=hc;split at hc
 ·rename_i t X hop;simp only[Za0]at hx;split at hx
  ·rename_i hok;simp only[Zab]at hx;subst hx;obtain⟨g',hg'⟩:=h.newBox hn hok (Zhx hok (Zca h hc)) t;refine⟨.pointer (some ⟨w.heap.size,0,none⟩),w.alloc (.cells (a.eval X).cells t),g',.inl ?_,by rw[hd];exact hg'⟩;simp[execOp,hop,Instr.box,ZkO]
  cases hx
 cases hc
theorem Rel.newCells (h:Rel k n g s a w){d:Nat}(hn:d<n){cs:List AV}{vs:Array Value}(hok:ZaL cs=true)(hv:VRL (cx k g s.H w) cs vs.toList)(e:TypeId):
  ∃g',Rel k n g' ⟨Eng.put s.fr d (.ptr s.H.length 0),s.bx,s.H++[.cells cs]⟩ (a.put (some d) (.pointer (some ⟨w.heap.size,0,none⟩))) (w.alloc (.cells vs e)):=by
 have hg:=Grow.alloc w (.cells vs e);refine⟨⟨g.ρ++[w.heap.size],g.β⟩,?_⟩;have hnew:∀hl:Zbl (cx k g s.H w) (cx k ⟨g.ρ++[w.heap.size],g.β⟩ (s.H++[.cells cs]) (w.alloc (.cells vs e))),HoR (cx k ⟨g.ρ++[w.heap.size],g.β⟩ (s.H++[.cells cs]) (w.alloc (.cells vs e))) w.heap.size (.cells cs):=
  λhl=>⟨hok,vs,⟨e,heap_alloc_new w _⟩,VRL.later hl cs _ (ZaM hok) hv⟩
 have hl:=h.laterNew (o:=.cells cs) (vs:=vs) e;obtain⟨h1,_⟩:=h.newObj e (hnew hl);refine h1.put hn ?_ rfl;rw[VR];refine⟨cs,w.heap.size,?_,?_,rfl⟩
 ·show(s.H++[.cells cs])[s.H.length]?=_;simp
 show(g.ρ++[w.heap.size])[s.H.length]?=_;rw[←h.len];simp
theorem ZvH (h:Rel k n g s a w){o:Oper}{d:Nat}{zero:List AV}(hc:chkM P n o (.newH d zero)=true){s':St}(hx:Za0 (.newH d zero) s=some s'):Did P k n s' a w o:=by
 simp only[chkM,Ze,Zag]at hc;obtain⟨⟨hd,hn⟩,hc⟩:=hc;split at hc
 ·rename_i t hop;simp only[Za0,Zab]at hx;subst hx;obtain⟨v,hv1,hv2,hv3⟩:=ZmW hc (cx k g s.H w) w;obtain⟨g',hg'⟩:=h.newCells hn hv3 hv2 t;refine⟨.pointer (some ⟨w.heap.size,0,none⟩),w.alloc (.cells v.cells t),g',.inl ?_,by rw[hd];exact hg'⟩;simp[execOp,hop,Instr.alloc,hv1,ZkO]
 cases hc
theorem Zv6 (h:Rel k n g s a w){o:Oper}{d:Nat}{x:IX}(hc:chkM P n o (.boxH d x)=true){s':St}(hx:Za0 (.boxH d x) s=some s'):Did P k n s' a w o:=by
 simp only[chkM,Ze,Zag]at hc;obtain⟨⟨hd,hn⟩,hc⟩:=hc;split at hc
 ·rename_i t X hop;simp only[Za0]at hx;split at hx
  ·rename_i hok;simp only[Zab]at hx;subst hx;obtain⟨g',hg'⟩:=h.newCells hn hok (Zhx hok (Zca h hc)) t;refine⟨.pointer (some ⟨w.heap.size,0,none⟩),w.alloc (.cells (a.eval X).cells t),g',.inl ?_,by rw[hd];exact hg'⟩;simp[execOp,hop,Instr.box,ZkO]
  cases hx
 cases hc
theorem ZxA (wk:PC->PC)(un:List AV->Option (List PC))(hwk:∀c x u,VR c (.p x) u->isOw x=false->VR c (up (wk x)) u)(hnil:un []=some [])(hp:∀x r,un (.p x::r)=if isOw x then none else(un r).map (wk x:: ·))
  (ho:∀sz id ver off len r,un (.osl sz id ver off len::r)=if off=0 then(un r).map (.ow sz id ver len:: ·)else none) (hel:∀a r,(∀x,a≠.p x)->(∀sz id ver off len,a≠.osl sz id ver off len)->un (a::r)=none)
  {cs:List AV} {ps:List PC} (h:un cs=some ps):cs.length=ps.length/\ZaL cs=true/\∀(c:Cx) (us:List Value),VRL c cs us->VRL c (ps.map up) us:=by
 induction cs generalizing ps with
 |nil=>rw[hnil,Zab]at h;subst h;exact⟨rfl,rfl,λ_ _ h=>h⟩
 |cons c cs ih=>
  cases c with
  |p x=>
   rw[hp]at h;split at h
   ·cases h
   rename_i hx;cases hu:un cs with
   |none=>simp[hu]at h
   |some r=>
    simp only[hu,Zaa,Zab]at h;subst h;obtain⟨h1,h2,h3⟩:=ih hu;refine⟨by simp[h1],by simp[ZaL,ZdG,h2],λc us hv=>?_⟩;rw[VRL]at hv;obtain⟨u,us,rfl,v1,v2⟩:=hv;rw[ZU,VRL];exact⟨u,us,rfl,hwk c x u v1 (by simpa using hx),h3 c us v2⟩
  |osl sz id ver off len=>
   rw[ho]at h;split at h
   ·rename_i hx;subst hx;cases hu:un cs with
    |none=>simp[hu]at h
    |some r=>
     simp only[hu,Zaa,Zab]at h;subst h;obtain⟨h1,h2,h3⟩:=ih hu;refine⟨by simp[h1],by simp[ZaL,ZdG,h2],λc us hv=>?_⟩;rw[VRL]at hv;obtain⟨u,us,rfl,v1,v2⟩:=hv;rw[ZU,VRL];exact⟨u,us,rfl,v1,h3 c us v2⟩
   cases h
  |_=>rw[hel _ _ (λ_ e=>by cases e) (λ_ _ _ _ _ e=>by cases e)]at h;cases h
theorem ZvW {x:PC}:isOw (weakP x)=isOw x:=by cases x<;>rfl
theorem ZoN {cs:List AV}{ps:List PC}(h:unP cs=some ps):cs.length=ps.length/\ZaL cs=true/\∀(c:Cx) (us:List Value),VRL c cs us->VRL c (ps.map up) us:=by
 refine ZxA weakP unP (λc x u hv hx=>?_) rfl (λ_ _=>rfl) (λ_ _ _ _ _ _=>rfl) (λa r h1 h2=>?_) h
 ·rw[VR]at hv;exact Zss (by rw[ZvW];exact hx) hv.weak
 cases a<;>first|rfl|exact absurd rfl (h1 _)|exact absurd rfl (h2 _ _ _ _ _)
theorem Ziw {α:Type}{off:Nat}{cs l l':List α}(h:ZbU off cs l=some l'):off+cs.length<=l.length/\l'=l.take off++cs++l.drop (off+cs.length):=by
 unfold ZbU at h;split at h
 ·simp only[Zab]at h;exact⟨by assumption,h.symm⟩
 cases h
theorem ZfM {α:Type}{off:Nat}{cs l l':List α}(h:ZbU off cs l=some l')(j:Nat):l'[j]?=if j<off then l[j]? else if j<off+cs.length then cs[j-off]? else l[j]?:=by
 obtain⟨hle,rfl⟩:=Ziw h;have e1:(l.take off).length=off:=by simp;omega
 split
 ·rename_i hj;rw[Zs,ZA (by omega),List.getElem?_take_of_lt hj]
 rename_i hj;rw[Zs,ZB (by omega),e1];split
 ·rw[ZA (by omega)]
 rw[ZB (by omega),ZE]
 congr 1;omega
theorem ZoZ (h:Rel k n g s a w){o:Oper}{x y:IX}{m:Nat}(hc:chkM P n o (.store x y m)=true){s':St}(hx:Za0 (.store x y m) s=some s'):Did P k n s' a w o:=by
 simp only[chkM,Ze,Zag]at hc;obtain⟨hd,hc⟩:=hc;split at hc
 ·rename_i t X Y hop;simp only[Ze]at hc;obtain⟨⟨hsz,hmx⟩,hmy⟩:=hc;have hvx:=Zca h hmx;have hvy:=Zca h hmy;simp only[Za0]at hx;split at hx
  ·rename_i hcond;obtain⟨hlen,hok⟩:=hcond;have hcells:=Zhx hok hvy;have hone:=Zkv hok hcells;have hclen:=hcells.length;generalize hcs:cellsOf (ev s.fr y)=cs at*;generalize hus:(a.eval Y).cells.toList=us at*;have hsize:(a.eval Y).cells.size=m:=by
    have:(a.eval Y).cells.toList.length=m:=by rw[hus,hclen,hlen]
    simpa using this
   have hrun:∀A w',a.eval X=.pointer (some A)->(storeCells A us).run P w=.ok () w'->(execOp a.eval o).run P w=.ok .skip w':=by
    intro A w' e hst;simp[execOp,hop,Instr.storeAt,e,Instr.sureAddr,storeVar,Zc5 hsz,hsize,hus,hst]
   unfold wrt at hx;split at hx
   ·rename_i t' off hev;rw[hev,VR]at hvx;obtain⟨b',eX,hb'⟩:=hvx;cases hb:bget s.bx t' with
    |none=>simp[hb]at hx
    |some bs=>
     simp only[hb,Z8]at hx;cases hsp:ZbU off cs bs with
     |none=>simp[hsp]at hx
     |some bs'=>
      simp only[hsp,Zaa,Zab]at hx;subst hx;obtain⟨b,hβ,hokb,vs,hblk,hvs⟩:=h.boxes t' bs hb;have:=hb' b hβ;subst this;obtain⟨e,hblk'⟩:=id hblk;have hvl:=hvs.length;simp only[Zd]at hvl;have hsl:=(Ziw hsp).1;have hst:=run_storeCells_at P b' off e us 0 vs w hblk' (by omega) hone;simp only[Nat.add_zero]at hst;refine⟨undef,_,g,.inr ⟨hrun _ _ eX hst,rfl⟩,?_⟩;rw[hd];refine h.setBox hβ hblk ?_ (Upd.setRow (c:=cx k g s.H w) hblk _) (ZeJ hsp hok hokb) ?_
      ·simp;omega
      simpa using ZnG hsp hcells hvs
   ·rename_i id' off hev;rw[hev,VR]at hvx;obtain⟨cs0,b',_,hb',eX⟩:=hvx;split at hx
    ·rename_i bs hH;cases hsp:ZbU off cs bs with
     |none=>simp[hsp]at hx
     |some bs'=>
      simp only[hsp,Zaa,Zab]at hx;subst hx;obtain⟨b,hρ,hokb,vs,hblk,hvs⟩:=h.heap id' _ hH;have:b'=b:=by
       have:g.ρ[id']?=some b':=hb';rw[hρ]at this;cases this;rfl
      subst this;obtain⟨e,hblk'⟩:=id hblk;have hvl:=hvs.length;simp only[Zd]at hvl;have hsl:=(Ziw hsp).1;have hst:=run_storeCells_at P b' off e us 0 vs w hblk' (by omega) hone;simp only[Nat.add_zero]at hst;refine⟨undef,_,g,.inr ⟨hrun _ _ eX hst,rfl⟩,?_⟩;rw[hd];refine h.setObj hρ hH (.inl ⟨bs,bs',rfl,rfl⟩) hblk ?_ (Upd.setRow (c:=cx k g s.H w) hblk _) (λhl=>?_)
      ·simp;omega
      refine⟨ZeJ hsp hok hokb,_,(Upd.setRow (c:=cx k g s.H w) hblk _).here,?_⟩;have:=ZnG hsp hcells hvs;exact VRL.later hl bs' _ (ZaM (ZeJ hsp hok hokb)) (by simpa using this)
    cases hx
   ·rename_i sz id' ver i off hev;rw[hev,VR]at hvx;obtain⟨ver0,frz0,rows0,b',hH0,_,eX,hcur⟩:=hvx;split at hx
    ·rename_i sz' ver' rows hH;split at hx
     ·rename_i hcond;obtain⟨rfl,rfl⟩:=hcond;cases hi:rows[i]? with
      |none=>simp[hi]at hx
      |some r=>
       simp only[hi,Z8]at hx;cases hup:unP cs with
       |none=>simp[hup]at hx
       |some ps=>
        simp only[hup,Z8]at hx;cases hsp:ZbU off ps r with
        |none=>simp[hsp]at hx
        |some r'=>
         simp only[hsp,Zaa,Zab]at hx;subst hx;obtain⟨ecl,_,ecs⟩:=ZoN hup;have e0:s.H[id']?=some (HO.arr sz' ver0 frz0 rows0):=hH0;rw[hH]at e0;simp only[Zab,HO.arr.injEq]at e0;have hρ:g.ρ[id']?=some b':=hcur e0.2.1;obtain⟨b,hρ',vs,hblk,hszv,hrow⟩:=h.heap id' _ hH;rw[hρ]at hρ';cases hρ';obtain⟨e,hblk'⟩:=id hblk;have hrl:=(hrow i r hi).1;have hsl:=(Ziw hsp).1;have hil:i<rows.length:=(List.getElem?_eq_some_iff.1 hi).1;have hpl:ps.length=us.length:=by rw[hclen];exact ecl.symm
         have hfit:i*sz'+off+us.length<=vs.size:=by
          have h1:(i+1)*sz'<=rows.length*sz':=Nat.mul_le_mul_right _ hil;rw[Z6]at h1;omega
         have hst:=run_storeCells_at P b' (i*sz'+off) e us 0 vs w hblk' (by omega) hone;simp only[Nat.add_zero]at hst;refine⟨undef,_,g,.inr ⟨hrun _ _ eX hst,rfl⟩,?_⟩;rw[hd];refine h.setObj hρ hH (.inr ⟨sz',ver',rows,rows.set i r',rfl,rfl,by simp⟩) hblk ?_ (Upd.setRow (c:=cx k g s.H w) hblk _) (λhl=>?_)
         ·simp;omega
         have hcells':VRL (cx k g s.H w) (ps.map up) us:=ecs _ _ hcells;rw[Zed]at hcells';refine⟨_,(Upd.setRow (c:=cx k g s.H w) hblk _).here,?_,λq r1 hq=>?_⟩
         ·simp;omega
         have hnew:∀(j:Nat),(vs.toList.take (i*sz'+off)++us++vs.toList.drop (i*sz'+off+us.length)).toArray[j]?=if j<i*sz'+off then vs[j]? else if j<i*sz'+off+us.length then us[j-(i*sz'+off)]? else vs[j]?:=by
          intro j;have hs2:ZbU (i*sz'+off) us vs.toList=some (vs.toList.take (i*sz'+off)++us++vs.toList.drop (i*sz'+off+us.length)):=by
           unfold ZbU;rw[Zaj (by simpa using hfit)]
          have:=ZfM hs2 j;simpa using this
         rw[ZJ]at hq;by_cases hqi:i=q
         ·subst hqi;simp only[hil,Zak,Zab]at hq;subst hq;refine⟨?_,λj x hj=>?_⟩
          ·rw[(Ziw hsp).2];simp;omega
          rw[ZfM hsp]at hj;split at hj
          ·obtain⟨u,hu1,hu2⟩:=(hrow i r hi).2 j x hj;exact⟨u,by rw[hnew,Zaj (by omega)];exact hu1,VR.later hl _ u (ZgP x) hu2⟩
          split at hj
          ·have hju:us[j-off]?=some (us[j-off]'(by omega)):=ZF (by omega);refine⟨us[j-off]'(by omega),?_,?_⟩
           ·rw[hnew,Zai (by omega),Zaj (by omega),show i*sz'+j-(i*sz'+off)=j-off by omega];exact hju
           have:=hcells'.2 (j-off) (up x) _ (by simp[hj]) hju;exact VR.later hl _ _ (ZgP x) this
          obtain⟨u,hu1,hu2⟩:=(hrow i r hi).2 j x hj;exact⟨u,by rw[hnew,Zai (by omega),Zai (by omega)];exact hu1,VR.later hl _ u (ZgP x) hu2⟩
         rw[Zai hqi]at hq;refine⟨(hrow q r1 hq).1,λj x hj=>?_⟩;obtain⟨u,hu1,hu2⟩:=(hrow q r1 hq).2 j x hj;refine⟨u,?_,VR.later hl _ u (ZgP x) hu2⟩;have hjl:j<sz':=by rw[←(hrow q r1 hq).1];exact(List.getElem?_eq_some_iff.1 hj).1
         rw[hnew];rcases Nat.lt_or_gt_of_ne hqi with hlt|hgt
         ·have h1:(i+1)*sz'<=q*sz':=Nat.mul_le_mul_right _ hlt;rw[Z6]at h1;rw[Zai (by omega),Zai (by omega)];exact hu1
         have h1:(q+1)*sz'<=i*sz':=Nat.mul_le_mul_right _ hgt;rw[Z6]at h1;rw[Zaj (by omega)];exact hu1
     cases hx
    cases hx
   cases hx
  cases hx
 cases hc
end
end Go.Eng

