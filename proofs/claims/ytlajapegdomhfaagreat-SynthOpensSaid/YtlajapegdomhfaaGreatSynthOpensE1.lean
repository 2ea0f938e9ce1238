/-Part of the proof. -/
import GoSem.Step
import Derived.Orders
import Derived.Laws.Cells
import Derived.Laws.CopyRow
import Derived.Below
import Derived.MapKept
import Derived.Laws.Entries
import Derived.Laws.StructEq
import Derived.ChangeKeysEq
set_option linter.all false
namespace Go.Eng
def Za:type_of%@Array.getD_eq_getD_getElem?:=@Array.getD_eq_getD_getElem?
def Zb:type_of%@Array.getElem?_eq_getElem:=@Array.getElem?_eq_getElem
def Zc:type_of%@Array.getElem?_setIfInBounds_ne:=@Array.getElem?_setIfInBounds_ne
def Zd:type_of%@Array.length_toList:=@Array.length_toList
def Ze:type_of%@Bool.and_eq_true:=@Bool.and_eq_true
def Zf:type_of%@Bool.eq_iff_iff:=@Bool.eq_iff_iff
def Zg:type_of%@Bool.false_eq_true:=@Bool.false_eq_true
def Zh:type_of%@Bool.not_eq_true':=@Bool.not_eq_true'
def Zi:type_of%@Bool.not_true:=@Bool.not_true
def Zj:type_of%@Bool.or_eq_true:=@Bool.or_eq_true
def Zk:type_of%@Bool.true_and:=@Bool.true_and
def Zl:type_of%@Int.add_mul:=@Int.add_mul
def Zm:type_of%@Int.add_mul_emod_self_left:=@Int.add_mul_emod_self_left
def Zn:type_of%@Int.emod_emod_of_dvd:=@Int.emod_emod_of_dvd
def Zo:type_of%@Int.emod_eq_of_lt:=@Int.emod_eq_of_lt
def Zp:type_of%@Int.mul_comm:=@Int.mul_comm
def Zq:type_of%@Int.tdiv_eq_ediv_of_nonneg:=@Int.tdiv_eq_ediv_of_nonneg
def Zr:type_of%@Int.tmod_eq_emod_of_nonneg:=@Int.tmod_eq_emod_of_nonneg
def Zs:type_of%@Int.toNat_natCast:=@Int.toNat_natCast
def Zt:type_of%@Int.toNat_of_nonneg:=@Int.toNat_of_nonneg
theorem Zu:type_of%@List.all_eq_true:=@List.all_eq_true
def Zv:type_of%@List.any_cons:=@List.any_cons
def Zw:type_of%@List.any_eq_true:=@List.any_eq_true
def Zx:type_of%@List.append_assoc:=@List.append_assoc
def Zy:type_of%@List.cons.injEq:=@List.cons.injEq
def Zz:type_of%@List.cons_append:=@List.cons_append
def ZA:type_of%@List.contains_iff_mem:=@List.contains_iff_mem
def ZB:type_of%@List.drop_zero:=@List.drop_zero
def ZC:type_of%@List.find?_cons:=@List.find?_cons
def ZD:type_of%@List.foldl_append:=@List.foldl_append
def ZE:type_of%@List.foldl_cons:=@List.foldl_cons
def ZF:type_of%@List.getD_eq_getElem?_getD:=@List.getD_eq_getElem?_getD
def ZG:type_of%@List.getElem?_append_left:=@List.getElem?_append_left
theorem ZH:type_of%@List.getElem?_append_right:=@List.getElem?_append_right
def ZI:type_of%@List.getElem?_cons_succ:=@List.getElem?_cons_succ
def ZJ:type_of%@List.getElem?_cons_zero:=@List.getElem?_cons_zero
def ZK:type_of%@List.getElem?_drop:=@List.getElem?_drop
def ZL:type_of%@List.getElem?_eq_getElem:=@List.getElem?_eq_getElem
def ZM:type_of%@List.getElem?_eq_none:=@List.getElem?_eq_none
def ZN:type_of%@List.getElem?_map:=@List.getElem?_map
def ZO:type_of%@List.getElem?_replicate:=@List.getElem?_replicate
def ZP:type_of%@List.getElem?_set:=@List.getElem?_set
def ZQ:type_of%@List.getElem?_set_ne:=@List.getElem?_set_ne
def ZR:type_of%@List.getElem?_set_self:=@List.getElem?_set_self
def ZS:type_of%@List.getElem?_take:=@List.getElem?_take
def ZT:type_of%@List.getElem_map:=@List.getElem_map
def ZU:type_of%@List.getElem_range:=@List.getElem_range
def ZV:type_of%@List.length_append:=@List.length_append
def ZW:type_of%@List.length_cons:=@List.length_cons
def ZX:type_of%@List.length_map:=@List.length_map
def ZY:type_of%@List.length_nil:=@List.length_nil
def ZZ:type_of%@List.length_range:=@List.length_range
def Z0:type_of%@List.length_singleton:=@List.length_singleton
def Z1:type_of%@List.length_take:=@List.length_take
def Z2:type_of%@List.map_append:=@List.map_append
def Z3:type_of%@List.map_cons:=@List.map_cons
def Z4:type_of%@List.map_nil:=@List.map_nil
def Z5:type_of%@List.mem_range:=@List.mem_range
def Z6:type_of%@List.mem_singleton:=@List.mem_singleton
def Z7:type_of%@List.nil_append:=@List.nil_append
def Z8:type_of%@List.range'_succ:=@List.range'_succ
def Z9:type_of%@List.range_eq_range':=@List.range_eq_range'
def Zaa:type_of%@List.range_succ:=@List.range_succ
def Zab:type_of%@List.set_append_right:=@List.set_append_right
def Zac:type_of%@List.take_append_of_le_length:=@List.take_append_of_le_length
def Zad:type_of%@List.take_length:=@List.take_length
def Zae:type_of%@List.take_of_length_le:=@List.take_of_length_le
def Zaf:type_of%@List.take_succ_eq_append_getElem:=@List.take_succ_eq_append_getElem
def Zag:type_of%@Nat.add_assoc:=@Nat.add_assoc
def Zah:type_of%@Nat.add_mul:=@Nat.add_mul
def Zai:type_of%@Nat.add_zero:=@Nat.add_zero
def Zaj:type_of%@Nat.zero_add:=@Nat.zero_add
theorem Zak:type_of%@Option.bind_some:=@Option.bind_some
def Zal:type_of%@Option.getD_some:=@Option.getD_some
theorem Zam:type_of%@Option.map_some:=@Option.map_some
theorem Zan:type_of%@Option.some.injEq:=@Option.some.injEq
def Zao:type_of%@Prod.mk.injEq:=@Prod.mk.injEq
def Zap:type_of%@and_true:=@and_true
def Zaq:type_of%@bne_self_eq_false:=@bne_self_eq_false
def Zar:type_of%@decide_eq_true:=@decide_eq_true
def Zas:type_of%@decide_eq_true_eq:=@decide_eq_true_eq
def Zat:type_of%@if_false:=@if_false
def Zau:type_of%@if_neg:=@if_neg
def Zav:type_of%@if_pos:=@if_pos
def Zaw:type_of%@if_true:=@if_true
inductive PC where
 |int (k:IntKind) (n:Int)
 |bool (b:Bool)
 |sl (sz:Nat) (full:Bool) (rows:List (List PC))
 |ow (sz id ver len:Nat)
inductive NL where
 |nilFunc|nilIface|nilPtr|nilMap|unit|nilSl
def NL.val:NL->Value
 |.nilFunc=>.nilFunc
 |.nilIface=>.nilIface
 |.nilPtr=>.pointer none
 |.nilMap=>.map none
 |.unit=>.tuple #[]
 |.nilSl=>.slice none 0 0
inductive AV where
 |any
 |p (x:PC)
 |nl (x:NL)
 |agg (cs:List AV)
 |tup (vs:List AV)
 |osl (sz id ver off len:Nat)
 |optr (sz id ver i off:Nat)
 |ppt (sz:Nat) (rows:List (List PC)) (i off:Nat)
 |ptr (id off:Nat)
 |loc (t off:Nat)
 |fn (f:Nat) (first cap:List AV)
 |map (id:Nat)
 |yl (id:Nat)
 |csl (id n:Nat)
structure LC where
 ps:List Nat
 n:Nat
 ok:Code->Code->Prop
 mpk:Bool:=false
inductive LS where
 |ready|busy|dead
 |done (c:Code)
 |mp (kn:Nat) (es:List (List Int×AV))
 |mps (kn:Nat) (es:List (List Int×AV)) (bs:List Nat) (clock:Nat)
 |it (m since:Nat) (seen:List Nat) (last:Nat)
 |itd
inductive HO where
 |arr (sz ver:Nat) (frz:Bool) (rows:List (List PC))
 |cells (cs:List AV)
 |lp (L:LC) (fr:List (Nat×AV)) (st:LS)
structure St where
 fr:List (Nat×AV)
 bx:List (Nat×List AV)
 H:List HO
def get:List (Nat×AV)->Nat->AV
 |[],_=>.any
 |(u,v)::r,t=>if u=t then v else get r t
def put:List (Nat×AV)->Nat->AV->List (Nat×AV)
 |[],t,v=>[(t,v)]
 |(u,x)::r,t,v=>if t<u then(t,v)::(u,x)::r else if t=u then(t,v)::r else(u,x)::put r t v
def bget:List (Nat×List AV)->Nat->Option (List AV)
 |[],_=>none
 |(u,v)::r,t=>if u=t then some v else bget r t
def bput:List (Nat×List AV)->Nat->List AV->List (Nat×List AV)
 |[],t,v=>[(t,v)]
 |(u,x)::r,t,v=>if t<u then(t,v)::(u,x)::r else if t=u then(t,v)::r else(u,x)::bput r t v
def Zgl (t:Nat):List (Nat×AV)->List (Nat×AV)
 |[]=>[]
 |(u,v)::r=>match v with
  |.loc t' _=>if t'=t then(u,.any)::Zgl t r else(u,v)::Zgl t r
  |_=>(u,v)::Zgl t r
def Znr (ks:List Nat):List (Nat×AV)->List (Nat×AV)
 |[]=>[]
 |(u,v)::r=>if ks.elem u then(u,v)::Znr ks r else Znr ks r
def ZtP (ks:List Nat):List (Nat×List AV)->List (Nat×List AV)
 |[]=>[]
 |(u,v)::r=>if ks.elem u then(u,v)::ZtP ks r else ZtP ks r
def sub {α:Type}(off n:Nat)(l:List α):Option (List α):=
 if off+n<=l.length then some ((l.drop off).take n)else none
def Zb3 {α:Type}(off:Nat)(cs l:List α):Option (List α):=
 if off+cs.length<=l.length then some (l.take off++cs++l.drop (off+cs.length))else none
def Za7:AV->Bool
 |.loc .. =>false
 |.agg cs=>noLocL cs
 |.tup cs=>noLocL cs
 |.fn _ a b=>noLocL a&&noLocL b
 |_=>true
 where noLocL:List AV->Bool
 |[]=>true
 |c::cs=>Za7 c&&noLocL cs
abbrev noLocL:=Za7.noLocL
def ZdX:AV->Bool
 |.p _|.nl .nilFunc|.nl .nilIface|.nl .nilPtr|.nl .nilMap|.nl .nilSl|.osl .. |.ptr .. |.map _|.yl _|.csl .. =>true
 |.fn _ a b=>noLocL a&&noLocL b
 |_=>false
def ZaX:List AV->Bool
 |[]=>true
 |c::cs=>ZdX c&&ZaX cs
def cellsOf:AV->List AV
 |.agg cs=>cs
 |v=>[v]
def mk (isAgg:Bool)(cs:List AV):Option AV:=
 if isAgg then some (.agg cs)else match cs with
  |[c]=>some c
  |_=>none
def weakP:PC->PC
 |.sl sz _ rows=>.sl sz false rows
 |x=>x
def weak1:AV->AV
 |.p x=>.p (weakP x)
 |x=>x
def weakL:List AV->List AV
 |[]=>[]
 |c::cs=>weak1 c::weakL cs
def weakV:AV->AV
 |.agg cs=>.agg (weakL cs)
 |v=>weak1 v
def weakVs:List AV->List AV
 |[]=>[]
 |c::cs=>weakV c::weakVs cs
def isOw:PC->Bool
 |.ow .. =>true
 |_=>false
def up:PC->AV
 |.ow sz id ver len=>.osl sz id ver 0 len
 |x=>.p x
def Znl:List PC->Bool
 |[]=>true
 |x::xs=>!isOw x&&Znl xs
def ZqV:List (List PC)->Bool
 |[]=>true
 |r::rs=>Znl r&&ZqV rs
def unP:List AV->Option (List PC)
 |[]=>some []
 |.p x::r=>if isOw x then none else(unP r).map (weakP x:: ·)
 |.osl sz id ver off len::r=>if off=0 then(unP r).map (.ow sz id ver len:: ·)else none
 |_::_=>none
def unF:List AV->Option (List PC)
 |[]=>some []
 |.p x::r=>if isOw x then none else(unF r).map (x:: ·)
 |.osl sz id ver off len::r=>if off=0 then(unF r).map (.ow sz id ver len:: ·)else none
 |_::_=>none
inductive IX where
 |t (n:Nat)
 |k (v:AV)
def ev (fr:List (Nat×AV)):IX->AV
 |.t n=>get fr n
 |.k v=>v
def binI (op:BinOp)(k:IntKind)(a b:Int):Option PC:=
 match op with
 |.add=>some (.int k (k.wrap (a+b)))
 |.sub=>some (.int k (k.wrap (a-b)))
 |.mul=>some (.int k (k.wrap (a*b)))
 |.quo=>if b=0 then none else some (.int k (k.wrap (a.tdiv b)))
 |.rem=>if b=0 then none else some (.int k (a.tmod b))
 |.and=>some (.int k (k.wrap (BitVec.ofInt k.bits a&&&BitVec.ofInt k.bits b).toNat))
 |.or=>some (.int k (k.wrap (BitVec.ofInt k.bits a|||BitVec.ofInt k.bits b).toNat))
 |.xor=>some (.int k (k.wrap (BitVec.ofInt k.bits a ^^^ BitVec.ofInt k.bits b).toNat))
 |.eql=>some (.bool (a==b))
 |.neq=>some (.bool (a !=b))
 |.lss=>some (.bool (a<b))
 |.leq=>some (.bool (a<=b))
 |.gtr=>some (.bool (a>b))
 |.geq=>some (.bool (a≥b))
 |_=>none
def shI (op:BinOp)(k:IntKind)(a b:Int):Option PC:=
 if b<0 then none else match op with
  |.shl=>some (.int k (k.wrap (a*2 ^ (min b.toNat k.bits))))
  |.shr=>some (.int k (a.fdiv (2 ^ (min b.toNat k.bits))))
  |_=>none
inductive VI where
 |mov
 |bin (op:BinOp)
 |sh (op:BinOp)
 |eqB (neg:Bool)
 |eqS (neg:Bool) (ks:List Bool)
 |not
 |neg
 |conv (k:IntKind)
 |pick
 |faddr (off:Nat)
 |iaddr (n sz:Nat)
 |iaddrS (sz:Nat)
 |idx (n sz:Nat) (isAgg:Bool)
 |fld (off n:Nat) (isAgg:Bool)
 |build (zero:List AV) (parts:List (Nat×Nat))
 |len
 |lenA (n:Nat)
 |ext (i:Nat)
 |mkfn (f:Nat) (nfirst:Nat)
 |min|max
 |slice (sz:Nat) (lo hi mx:Bool)
 |nilChk
 |isNil (neg:Bool)
def Zn6 (o:Nat):AV->Option AV
 |.loc t off=>some (.loc t (off+o))
 |.ptr id off=>some (.ptr id (off+o))
 |.optr sz id ver i off=>some (.optr sz id ver i (off+o))
 |.ppt sz rows i off=>some (.ppt sz rows i (off+o))
 |_=>none
def ZcQ:List Bool->List AV->List AV->Option Bool
 |[],[],[]=>some true
 |true::ks,.p (.int k a)::r,.p (.int k' b)::r'=>if k=k' then(ZcQ ks r r').map ((a==b)&& ·)else none
 |false::ks,.p (.bool a)::r,.p (.bool b)::r'=>(ZcQ ks r r').map ((a==b)&& ·)
 |_,_,_=>none
def Zc3 (cells:List AV):List (Nat×Nat)->List AV->Option (List AV)
 |[],[]=>some cells
 |(off,n)::ps,v::vs=>
  if(cellsOf v).length=n/\ZaX (cellsOf v)=true then(Zb3 off (cellsOf v) cells).bind λc=>Zc3 c ps vs else none
 |_,_=>none
def Zgz (un:List AV->Option (List PC))(sz:Nat):List AV->Option (List (List PC))
 |[]=>some []
 |v::vs=>if(cellsOf v).length=sz then(un (cellsOf v)).bind λr=>(Zgz un sz vs).map (r:: ·)else none
abbrev ZnG:=Zgz unP
def minI:List AV->Option AV
 |[.p (.int k a),.p (.int _ b)]=>some (.p (.int k (if b<a then b else a)))
 |[.p (.int k a),.p (.int _ b),.p (.int _ c)]=>some (.p (.int k (if c<(if b<a then b else a)then c else(if b<a then b else a))))
 |_=>none
def maxI:List AV->Option AV
 |[.p (.int k a),.p (.int _ b)]=>some (.p (.int k (if b>a then b else a)))
 |[.p (.int k a),.p (.int _ b),.p (.int _ c)]=>some (.p (.int k (if c>(if b>a then b else a)then c else(if b>a then b else a))))
 |_=>none
def ZfI (given:Bool)(dflt:Nat)(vs:List AV):Option (Nat×List AV):=
 if given then match vs with
  |.p (.int _ n)::r=>if 0<=n then some (n.toNat,r)else none
  |_=>none
 else some (dflt,vs)
def Zlg (sz:Nat)(lo hi mx:Bool)(x:AV)(vs:List AV):Option AV:=
 match x with
 |.p (.sl sz' _ rows)=>
  (ZfI lo 0 vs).bind λ(l,vs)=>(ZfI hi rows.length vs).bind λ(h,vs)=>(ZfI mx h vs).bind λ(m,vs)=>
  if vs.isEmpty/\l<=h/\h<=rows.length/\m=h/\sz'=sz/\(mx=true->hi=true)then some (.p (.sl sz mx ((rows.take h).drop l)))else none
 |.osl sz' id ver off len=>
  (ZfI lo 0 vs).bind λ(l,vs)=>(ZfI hi len vs).bind λ(h,vs)=>
  if vs.isEmpty/\mx=false/\l<=h/\h<=len/\(l=0∨l<len)/\sz'=sz then some (.osl sz id ver (off+l) (h-l))else if vs.isEmpty/\mx=false/\l=len/\h=len/\sz'=sz then some (.p (.sl sz false []))else none
 |_=>none
def Zbc (v:VI)(xs:List AV):Option AV:=
 match v with
 |.mov=>match xs with
  |[x]=>some x
  |_=>none
 |.bin op=>match xs with
  |[.p (.int k a),.p (.int k' b)]=>if k=k' then(binI op k a b).map .p else none
  |_=>none
 |.sh op=>match xs with
  |[.p (.int k a),.p (.int _ b)]=>(shI op k a b).map .p
  |_=>none
 |.eqB neg=>match xs with
  |[.p (.bool a),.p (.bool b)]=>some (.p (.bool (if neg then a !=b else a==b)))
  |_=>none
 |.eqS neg ks=>match xs with
  |[.agg a,.agg b]=>(ZcQ ks a b).map λe=>.p (.bool (if neg then !e else e))
  |_=>none
 |.not=>match xs with
  |[.p (.bool a)]=>some (.p (.bool !a))
  |_=>none
 |.neg=>match xs with
  |[.p (.int k a)]=>some (.p (.int k (k.wrap (0-a))))
  |_=>none
 |.conv k=>match xs with
  |[.p (.int _ a)]=>some (.p (.int k (k.wrap a)))
  |_=>none
 |.pick=>match xs with
  |[.p (.bool c),a,b]=>some (if c then a else b)
  |_=>none
 |.faddr off=>match xs with
  |[x]=>Zn6 off x
  |_=>none
 |.iaddr n sz=>match xs with
  |[x,.p (.int _ i)]=>if 0<=i/\i<n then Zn6 (i.toNat*sz) x else none
  |_=>none
 |.iaddrS sz=>match xs with
  |[.p (.sl sz' _ rows),.p (.int _ i)]=>if sz'=sz/\0<=i/\i<rows.length then some (.ppt sz rows i.toNat 0)else none
  |[.osl sz' id ver off len,.p (.int _ i)]=>if sz'=sz/\0<=i/\i<len then some (.optr sz id ver (off+i.toNat) 0)else none
  |[.csl id n,.p (.int _ i)]=>if sz=1/\0<=i/\i<n then some (.ptr id i.toNat)else none
  |_=>none
 |.idx n sz isAgg=>match xs with
  |[.agg cs,.p (.int _ i)]=>if 0<=i/\i<n then(sub (i.toNat*sz) sz cs).bind (mk isAgg)else none
  |_=>none
 |.fld off n isAgg=>match xs with
  |[.agg cs]=>(sub off n cs).bind (mk isAgg)
  |_=>none
 |.build zero parts=>(Zc3 zero parts xs).map .agg
 |.len=>match xs with
  |[.p (.sl _ _ rows)]=>some (.p (.int .i64 rows.length))
  |[.osl _ _ _ _ len]=>some (.p (.int .i64 len))
  |[.csl _ n]=>some (.p (.int .i64 n))
  |_=>none
 |.lenA n=>some (.p (.int .i64 n))
 |.ext i=>match xs with
  |[.tup vs]=>vs[i]?
  |_=>none
 |.mkfn f nfirst=>if noLocL xs then some (.fn f (xs.take nfirst) (xs.drop nfirst))else none
 |.min=>minI xs
 |.max=>maxI xs
 |.slice sz lo hi mx=>match xs with
  |x::vs=>Zlg sz lo hi mx x vs
  |_=>none
 |.nilChk=>match xs with
  |[.loc t o]=>some (.loc t o)
  |[.ptr i o]=>some (.ptr i o)
  |[.optr sz i v j o]=>some (.optr sz i v j o)
  |[.fn f a b]=>some (.fn f a b)
  |[.yl i]=>some (.yl i)
  |_=>none
 |.isNil neg=>match xs with
  |[.nl .nilSl]=>some (.p (.bool (!neg)))
  |[.p (.sl _ _ (_::_))]=>some (.p (.bool neg))
  |_=>none
inductive SpK where
 |mkMap
 |mapGet (kn:Nat) (ok:Bool) (zero:AV)
 |mapSet (kn:Nat)
 |litC
 |mkP (n:Nat) (zero:List PC) (bytes:Nat)
 |mkS (zero:List PC) (bytes:Nat)
 |pop (sz:Nat)
 |litO (sz:Nat)
 |appT (sz bytes:Nat)
 |shut
 |range
 |next
 |entry
inductive Ins where
 |val (d:Nat) (v:VI) (xs:List IX)
 |load (d:Nat) (x:IX) (n:Nat) (isAgg:Bool)
 |loadL (d:Nat) (x:IX) (n:Nat) (isAgg:Bool)
 |loadH (d:Nat) (x:IX) (n:Nat) (isAgg:Bool)
 |loadI (d:Nat) (x:IX) (n:Nat) (isAgg:Bool)
 |loadN (d:Nat) (x:IX) (n:Nat) (isAgg:Bool) (zs:List IX)
 |store (x y:IX) (n:Nat)
 |storeH (x y:IX) (n:Nat)
 |newL (d:Nat) (zero:List AV)
 |boxL (d:Nat) (x:IX)
 |newH (d:Nat) (zero:List AV)
 |boxH (d:Nat) (x:IX)
 |mkSl (d:Nat) (n c:IX) (zero:List PC) (bytes:Nat)
 |app (d:Nat) (s x:IX) (sz bytes:Nat)
 |appN (d:Nat) (s x:IX) (sz bytes:Nat)
 |litSl (d:Nat) (sz:Nat) (xs:List IX)
 |litP (d:Nat) (sz:Nat) (xs:List IX)
 |mkC (d:Nat) (m:Nat) (zero:List PC) (bytes:Nat)
 |call (d:Option Nat) (f:Nat) (xs:List IX)
 |callP (d:Nat) (f:Nat) (xs:List IX)
 |callQ (d:Nat) (f:Nat) (xs:List IX)
 |callV (d:Option Nat) (f:IX) (xs:List IX)
 |callY (d:Option Nat) (f:IX) (xs:List IX)
 |sp (d:Option Nat) (q:SpK) (xs:List IX)
structure IOp where
 g:Option (Nat×Bool)
 i:Ins
 pre:List Nat:=[]
 bn:Option Nat:=none
def adrI:Ins->Option IX
 |.load _ x _ _|.loadL _ x _ _|.store x _ _|.storeH x _ _=>some x
 |_=>none
def bnOK (o:IOp)(fr:List (Nat×AV)):Bool:=match o.bn with
 |none=>true
 |some b=>match adrI o.i with
  |some x=>(match ev fr x with
   |.loc t _=>t==b
   |_=>false)
  |none=>false
inductive IC where
 |skip
 |reg (ops:List IOp) (keep:List Nat)
 |regD (ops:List IOp) (keep:List Nat)
 |regF (fs:List Nat) (ops:List IOp) (keep:List Nat)
 |seq (a b:IC)
 |cond (x:IX) (a b:IC)
 |block (id:Nat) (a:IC)
 |loop (a:IC)
 |exit (id:Nat)
 |scope (a:IC)
 |label (l:Nat)
 |goto (l:Nat)
 |ret
 |kp (ks:List Nat) (a:IC)
 |pu (fs:List Nat) (a:IC)
 |rangeF (x:IX) (ps:List Nat) (assign body:IC)
 |box (a:IC)
 |die (t:TypeId)
def rd (bx:List (Nat×List AV))(H:List HO)(n:Nat):AV->Option (List AV)
 |.loc t off=>(bget bx t).bind (sub off n)
 |.ptr id off=>match H[id]? with
  |some (.cells cs)=>sub off n cs
  |_=>none
 |.optr sz id ver i off=>match H[id]? with
  |some (.arr sz' ver' _ rows)=>if sz'=sz/\ver'=ver then(rows[i]?).bind λr=>(sub off n r).map (·.map up)else none
  |_=>none
 |.ppt _ rows i off=>(rows[i]?).bind λr=>(sub off n r).map (·.map .p)
 |_=>none
structure Mem where
 bx:List (Nat×List AV)
 H:List HO
def wrt (bx:List (Nat×List AV))(H:List HO)(cs:List AV):AV->Option Mem
 |.loc t off=>(bget bx t).bind λb=>(Zb3 off cs b).map λb'=>⟨bput bx t b',H⟩
 |.ptr id off=>match H[id]? with
  |some (.cells b)=>(Zb3 off cs b).map λb'=>⟨bx,H.set id (.cells b')⟩
  |_=>none
 |.optr sz id ver i off=>match H[id]? with
  |some (.arr sz' ver' false rows)=>
   if sz'=sz/\ver'=ver then(rows[i]?).bind λr=>(unP cs).bind λps=>(Zb3 off ps r).map λr'=>⟨bx,H.set id (.arr sz ver false (rows.set i r'))⟩
   else none
  |_=>none
 |_=>none
def ZdD (H:List HO)(sz:Nat):AV->Option (List (List PC))
 |.p (.sl sz' _ rows)=>if sz'=sz then some rows else none
 |.osl sz0 id ver off len=>match H[id]? with
  |some (.arr sz' ver' _ rows)=>if sz0=sz/\sz'=sz/\ver'=ver then sub off len rows else none
  |_=>none
 |_=>none
def Zi8:AV->Bool
 |.p (.sl _ _ rows)=>ZqV rows
 |_=>true
def appV (H:List HO)(sz bytes:Nat)(s:AV)(new:List (List PC)):Option (AV×List HO):=
 match s with
 |.p (.sl sz' full rows)=>
  if ZqV rows=true/\sz'=sz/\full=true/\(rows.length+new.length)*bytes<=140737488355328/\rows.length+new.length<=140737488355328 then
   if new=[]then some (s,H)else some (.osl sz H.length 0 0 (rows.length+new.length),H++[.arr sz 0 false (rows++new)])
  else none
 |.osl sz0 id ver off len=>match H[id]? with
  |some (.arr sz' ver' frz rows)=>
   if sz0=sz/\sz'=sz/\ver'=ver/\off=0/\(len+new.length)*bytes<=140737488355328/\len+new.length<=140737488355328/\len=rows.length then
    some (.osl sz id (ver+1) 0 (len+new.length),H.set id (.arr sz (ver+1) frz (rows++new)))
   else none
  |_=>none
 |_=>none
def ZqY:AV->Bool
 |.loc .. =>true
 |_=>false
def putO (fr:List (Nat×AV)):Option Nat->AV->List (Nat×AV)
 |some d,v=>put fr d v
 |none,_=>fr
def dstI:Ins->Option Nat
 |.val d _ _|.load d _ _ _|.loadL d _ _ _|.loadH d _ _ _|.loadI d _ _ _|.loadN d _ _ _ _|.appN d _ _ _ _|.newL d _|.boxL d _|.newH d _|.boxH d _|.mkSl d _ _ _ _|.app d _ _ _ _|.litSl d _ _|.litP d _ _|.mkC d _ _ _|.callP d _ _|.callQ d _ _=>some d
 |.store .. |.storeH .. =>none
 |.call d _ _|.callV d _ _|.callY d _ _|.sp d _ _=>d
def Zt7 (id:Nat):AV->Bool
 |.ptr id' _=>decide (id'≠id)
 |_=>false
def Zbb (i:Ins)(s:St):Option St:=
 match i with
 |.val d v xs=>(Zbc v (xs.map (ev s.fr))).map λr=>{s with fr:=put s.fr d r}
 |.load d x n isAgg=>(rd s.bx s.H n (ev s.fr x)).bind λcs=>if ZaX cs=true then(mk isAgg cs).map λr=>{s with fr:=put s.fr d r}else none
 |.loadL d x n isAgg=>match ev s.fr x with
  |.loc t off=>(rd s.bx [] n (.loc t off)).bind λcs=>if ZaX cs=true then(mk isAgg cs).map λr=>{s with fr:=put s.fr d r}else none
  |_=>none
 |.loadH d x n isAgg=>if ZqY (ev s.fr x)=true then none else(rd [] s.H n (ev s.fr x)).bind λcs=>if ZaX cs=true then(mk isAgg cs).map λr=>{s with fr:=put s.fr d r}else none
 |.loadI d x n isAgg=>match ev s.fr x with
  |.ppt sz rows i off=>(rd [] [] n (.ppt sz rows i off)).bind λcs=>if ZaX cs=true then(mk isAgg cs).map λr=>{s with fr:=put s.fr d r}else none
  |_=>none
 |.loadN d x n isAgg zs=>match ev s.fr x with
  |.ptr id off=>if(zs.map (ev s.fr)).all (Zt7 id)=true then(rd [] s.H n (.ptr id off)).bind λcs=>if ZaX cs=true then(mk isAgg cs).map λr=>{s with fr:=put s.fr d r}else none else none
  |_=>none
 |.store x y n=>
  if(cellsOf (ev s.fr y)).length=n/\ZaX (cellsOf (ev s.fr y))=true then
   (wrt s.bx s.H (cellsOf (ev s.fr y)) (ev s.fr x)).map λm=>⟨s.fr,m.bx,m.H⟩
  else none
 |.storeH x y n=>
  if ZqY (ev s.fr x)=false/\(cellsOf (ev s.fr y)).length=n/\ZaX (cellsOf (ev s.fr y))=true then
   (wrt s.bx s.H (cellsOf (ev s.fr y)) (ev s.fr x)).map λm=>⟨s.fr,m.bx,m.H⟩
  else none
 |.newL d zero=>some ⟨put (Zgl d s.fr) d (.loc d 0),bput s.bx d zero,s.H⟩
 |.boxL d x=>
  if ZaX (cellsOf (ev s.fr x))=true then some ⟨put (Zgl d s.fr) d (.loc d 0),bput s.bx d (cellsOf (ev s.fr x)),s.H⟩else none
 |.newH d zero=>some ⟨put s.fr d (.ptr s.H.length 0),s.bx,s.H++[.cells zero]⟩
 |.boxH d x=>
  if ZaX (cellsOf (ev s.fr x))=true then some ⟨put s.fr d (.ptr s.H.length 0),s.bx,s.H++[.cells (cellsOf (ev s.fr x))]⟩else none
 |.mkSl d n c zero bytes=>match ev s.fr n,ev s.fr c with
  |.p (.int .i64 n),.p (.int .i64 c)=>
   if 0<=n/\n<=c/\c*bytes<=140737488355328/\c<=140737488355328 then
    some ⟨put s.fr d (.osl zero.length s.H.length 0 0 n.toNat),s.bx,s.H++[.arr zero.length 0 false (List.replicate n.toNat zero)]⟩
   else none
  |_,_=>none
 |.app d x y sz bytes=>
  if Zi8 (ev s.fr y)=true then(ZdD s.H sz (ev s.fr y)).bind λnew=>(appV s.H sz bytes (ev s.fr x) new).map λ(v,H)=>⟨put s.fr d v,s.bx,H⟩else none
 |.appN d x y sz bytes=>match ev s.fr x with
  |.p (.sl a true b)=>if Zi8 (ev s.fr y)=true then(ZdD s.H sz (ev s.fr y)).bind λnew=>(appV s.H sz bytes (.p (.sl a true b)) new).map λ(v,H)=>⟨put s.fr d v,s.bx,H⟩else none
  |_=>none
 |.litSl d sz xs=>(ZnG sz (xs.map (ev s.fr))).map λrows=>⟨put s.fr d (.osl sz s.H.length 0 0 rows.length),s.bx,s.H++[.arr sz 0 false rows]⟩
 |.litP d sz xs=>(ZnG sz (xs.map (ev s.fr))).map λrows=>⟨put s.fr d (.p (.sl sz true rows)),s.bx,s.H⟩
 |.mkC d m zero bytes=>if m*bytes<=140737488355328/\m<=140737488355328 then some ⟨put s.fr d (.p (.sl zero.length false (List.replicate m zero))),s.bx,s.H⟩else none
 |.call .. |.callP .. |.callQ .. |.callV .. |.callY .. |.sp .. =>none
def Zsb (H:List HO):AV->Option AV
 |.p x=>some (.p (weakP x))
 |.nl x=>some (.nl x)
 |.osl sz id ver off len=>match H[id]? with
  |some (.arr sz' ver' _ rows)=>if sz'=sz/\ver'=ver then(sub off len rows).map λr=>.p (.sl sz false r)else none
  |_=>none
 |_=>none
def Zos (H:List HO):List AV->Option (List AV)
 |[]=>some []
 |c::cs=>(Zsb H c).bind λx=>(Zos H cs).map (x:: ·)
def Zmr (H:List HO):AV->Option AV
 |.agg cs=>(Zos H cs).map .agg
 |v=>Zsb H v
inductive RV where
 |tmp (t:Nat)
 |cell (t n:Nat) (isAgg:Bool)
def resV (s:St):RV->Option AV
 |.tmp t=>Zmr s.H (get s.fr t)
 |.cell t n isAgg=>((rd s.bx s.H n (get s.fr t)).bind (mk isAgg)).bind (Zmr s.H)
def resL (s:St):List RV->Option (List AV)
 |[]=>some []
 |r::rs=>(resV s r).bind λv=>(resL s rs).map (v:: ·)
def ZhI:List AV->Nat->List (Nat×AV)
 |[],_=>[]
 |v::vs,i=>(i,v)::ZhI vs (i+1)
def rawV (s:St):RV->Option AV
 |.tmp t=>some (get s.fr t)
 |.cell t n isAgg=>(rd s.bx s.H n (get s.fr t)).bind (mk isAgg)
def rawL (s:St):List RV->Option (List AV)
 |[]=>some []
 |r::rs=>(rawV s r).bind λv=>(rawL s rs).map (v:: ·)
def ZcZ:List AV->AV
 |[v]=>v
 |vs=>.tup vs
structure IFn where
 nargs:Nat
 nt:Nat
 body:IC
 res:List RV
def frz1 (H:List HO):AV->Option (AV×List HO)
 |.p x=>some (.p (weakP x),H)
 |.nl x=>some (.nl x,H)
 |.ptr id off=>some (.ptr id off,H)
 |.fn f a b=>if noLocL a&&noLocL b then some (.fn f a b,H)else none
 |.yl id=>some (.yl id,H)
 |.map id=>some (.map id,H)
 |.osl sz id ver off len=>match H[id]? with
  |some (.arr sz' ver' _ rows)=>if sz'=sz/\ver'=ver then(sub off len rows).map λr=>(.p (.sl sz false r),H.set id (.arr sz ver true rows))else none
  |_=>none
 |_=>none
def frzC (H:List HO):List AV->Option (List AV×List HO)
 |[]=>some ([],H)
 |c::cs=>(frz1 H c).bind λ(x,H)=>(frzC H cs).map λ(xs,H)=>(x::xs,H)
def frzV (H:List HO):AV->Option (AV×List HO)
 |.agg cs=>(frzC H cs).map λ(cs,H)=>(.agg cs,H)
 |v=>frz1 H v
def frzL (H:List HO):List AV->Option (List AV×List HO)
 |[]=>some ([],H)
 |c::cs=>(frzV H c).bind λ(x,H)=>(frzL H cs).map λ(xs,H)=>(x::xs,H)
def FrzC (H:List HO):List AV->List AV->Prop
 |[],ys=>ys=[]
 |c::cs,ys=>∃x xs,ys=x::xs/\frz1 H c=some (x,H)/\FrzC H cs xs
def FrzQ (H:List HO)(v y:AV):Prop:=match v with
 |.agg cs=>∃xs,y=.agg xs/\FrzC H cs xs
 |v=>frz1 H v=some (y,H)
def FrzL (H:List HO):List AV->List AV->Prop
 |[],ys=>ys=[]
 |c::cs,ys=>∃x xs,ys=x::xs/\FrzQ H c x/\FrzL H cs xs
def ZpG (raw:Bool)(H:List HO)(c:AV):Option (AV×List HO):=if raw then(if Za7 c then some (c,H)else none)else frz1 H c
def Zmx:List Bool->List HO->List AV->Option (List AV×List HO)
 |_,H,[]=>some ([],H)
 |fl,H,c::cs=>(ZpG (fl.headD false) H c).bind λ(x,H)=>(Zmx fl.tail H cs).map λ(xs,H)=>(x::xs,H)
def ZqT (fl:List Bool)(H:List HO):AV->Option (AV×List HO)
 |.agg cs=>(Zmx fl H cs).map λ(cs,H)=>(.agg cs,H)
 |v=>ZpG (fl.headD false) H v
def Zni:List (List Bool)->List HO->List AV->Option (List AV×List HO)
 |_,H,[]=>some ([],H)
 |fl,H,c::cs=>(ZqT (fl.headD []) H c).bind λ(x,H)=>(Zni fl.tail H cs).map λ(xs,H)=>(x::xs,H)
def Pass (H:List HO)(xs xs':List AV)(H':List HO):Prop:=∃fl,Zni fl H xs=some (xs',H')
def ZkC:AV->Bool
 |.p _|.nl _=>true
 |_=>false
def ZkB:List AV->Bool
 |[]=>true
 |c::cs=>ZkC c&&ZkB cs
def ZkD:AV->Bool
 |.agg cs=>ZkB cs
 |v=>ZkC v
def Zit:List AV->Bool
 |[]=>true
 |c::cs=>ZkD c&&Zit cs
def Zip:AV->Bool
 |.tup vs=>Zit vs
 |v=>ZkD v
end Go.Eng

namespace Go.Eng
open Go
mutual
def PR (ok:Addr->Prop) (w:World):PC->Value->Prop
 |.int k n,v=>v=.int k n
 |.bool b,v=>v=.bool b
 |.sl sz full rows,v=>∃A cap,v=.slice A rows.length cap/\rows.length<=cap/\(full=true->cap=rows.length)/\(rows≠[]->∃a,A=some a/\ZkM ok w sz rows a)
 |.ow _ _ _ len,v=>∃A cap,v=.slice A len cap
def ZkM (ok:Addr->Prop) (w:World) (sz:Nat):List (List PC)->Addr->Prop
 |[],_=>True
 |r::rs,a=>r.length=sz/\RowR ok w r a/\ZkM ok w sz rs (a.add sz)
def RowR (ok:Addr->Prop) (w:World):List PC->Addr->Prop
 |[],_=>True
 |x::xs,a=>(∃u,w.cell? a=some u/\ok a/\PR ok w x u)/\RowR ok w xs (a.add 1)
end
def ZfG (a:Addr)(i j:Nat):(a.add i).add j=a.add (i+j):=by
 unfold Addr.add;by_cases hi:i=0<;>by_cases hj:j=0<;>simp[hi,hj,Zag]
def add_zero (a:Addr):a.add 0=a:=rfl
theorem ZgK (b o n:Nat):(⟨b,o,none⟩:Addr).add n=⟨b,o+n,none⟩:=by
 unfold Addr.add;split<;>simp_all
def ZjQ {ok:Addr->Prop}{w:World}:∀(xs:List PC) (a:Addr),
  RowR ok w xs a↔∀j x,xs[j]?=some x->∃u,w.cell? (a.add j)=some u/\ok (a.add j)/\PR ok w x u
 |[],a=>by simp[RowR]
 |x::xs,a=>by
  rw[RowR,ZjQ xs (a.add 1)];constructor
  ·rintro⟨h0,h1⟩ j y hj;cases j with
   |zero=>simp at hj;subst hj;exact h0
   |succ j=>
    have:=h1 j y (by simpa using hj)
    rwa [ZfG,Nat.add_comm]at this
  intro h;refine⟨h 0 x rfl,λj y hj=>?_⟩;have:=h (j+1) y (by simpa using hj)
  rwa [ZfG,Nat.add_comm]
def Zgw {ok:Addr->Prop}{w:World}{sz:Nat}:∀(rows:List (List PC)) (a:Addr),
  ZkM ok w sz rows a↔∀i r,rows[i]?=some r->r.length=sz/\RowR ok w r (a.add (i*sz))
 |[],a=>by simp[ZkM]
 |r::rs,a=>by
  rw[ZkM,Zgw rs (a.add sz)];constructor
  ·rintro⟨h0,h2,h1⟩ i y hi;cases i with
   |zero=>simp at hi;subst hi;simp only[Nat.zero_mul,add_zero];exact⟨h0,h2⟩
   |succ i=>
    have:=h1 i y (by simpa using hi);rw[ZfG]at this
    rwa [show(i+1)*sz=sz+i*sz by rw[Zah];omega]
  intro h;have h0:=h 0 r rfl;simp only[Nat.zero_mul,add_zero]at h0;refine⟨h0.1,h0.2,λi y hi=>?_⟩;have:=h (i+1) y (by simpa using hi);rw[ZfG]
  rwa [show(i+1)*sz=sz+i*sz by rw[Zah];omega]at this
def Stay (ok ok':Addr->Prop)(w w':World):Prop:=∀a u,ok a->w.cell? a=some u->w'.cell? a=some u/\ok' a
mutual
def PR.mono {ok ok':Addr->Prop} {w w':World} (h:Stay ok ok' w w'):∀(x:PC) (v:Value),PR ok w x v->PR ok' w' x v
 |.int k n,v,hv=>by simpa[PR]using hv
 |.bool b,v,hv=>by simpa[PR]using hv
 |.ow ..,v,hv=>by rw[PR]at hv⊢;exact hv
 |.sl sz full rows,v,hv=>by
  rw[PR]at hv⊢;obtain⟨A,cap,h1,h2,h3,h4⟩:=hv;exact⟨A,cap,h1,h2,h3,λhn=>let ⟨a,ha,hr⟩:=h4 hn;⟨a,ha,ZkM.mono h sz rows a hr⟩⟩
def ZkM.mono {ok ok':Addr->Prop} {w w':World} (h:Stay ok ok' w w') (sz:Nat):∀(rows:List (List PC)) (a:Addr),ZkM ok w sz rows a->ZkM ok' w' sz rows a
 |[],a,_=>by rw[ZkM];trivial
 |r::rs,a,hr=>by
  rw[ZkM]at hr⊢;exact⟨hr.1,RowR.mono h r a hr.2.1,ZkM.mono h sz rs _ hr.2.2⟩
def RowR.mono {ok ok':Addr->Prop} {w w':World} (h:Stay ok ok' w w'):∀(xs:List PC) (a:Addr),RowR ok w xs a->RowR ok' w' xs a
 |[],a,_=>by rw[RowR];trivial
 |x::xs,a,hr=>by
  rw[RowR]at hr⊢;obtain⟨⟨u,hu,ho,hp⟩,hr⟩:=hr;have:=h a u ho hu;exact⟨⟨u,this.1,this.2,PR.mono h x u hp⟩,RowR.mono h xs _ hr⟩
end
structure Cx where
 ok:Addr->Prop
 w:World
 H:List HO
 ρ:List Nat
 β:Nat->Option Nat
def Cx.blk (c:Cx)(b:Nat)(vs:Array Value):Prop:=∃e,c.w.heap[b]?=some (.cells vs e (0,0))
def OslR (c:Cx)(sz id ver off len:Nat)(v:Value):Prop:=
 ∃ver0 frz rows b cap,c.H[id]?=some (.arr sz ver0 frz rows)/\ver<=ver0/\v=.slice (some ⟨b,off*sz,none⟩) len cap/\len<=cap/\(ver=ver0→
  ∃vs,c.ρ[id]?=some b/\off+len<=rows.length/\c.blk b vs/\(off+cap)*sz<=vs.size)
def Zzb (c:Cx)(sz id ver i off:Nat)(v:Value):Prop:=
 ∃ver0 frz rows b,c.H[id]?=some (.arr sz ver0 frz rows)/\ver<=ver0/\v=.pointer (some ⟨b,i*sz+off,none⟩)/\(ver=ver0->c.ρ[id]?=some b)
def PptR (c:Cx)(sz:Nat)(rows:List (List PC))(i off:Nat)(v:Value):Prop:=
 ∃a,v=.pointer (some (a.add (i*sz+off)))/\ZkM c.ok c.w sz rows a
def YlR (c:Cx)(id:Nat)(v:Value):Prop:=
 ∃L fr st b,c.H[id]?=some (.lp L fr st)/\c.ρ[id]?=some b/\v=.func (.yield b) #[] #[]
def mapV (L:LC)(b:Nat):Value:=if L.n=0 then .map (some b)else .pointer (some ⟨b,0,none⟩)
def MapR (c:Cx)(id:Nat)(v:Value):Prop:=
 ∃L fr st b,c.H[id]?=some (.lp L fr st)/\L.mpk=true/\c.ρ[id]?=some b/\v=mapV L b
def CslR (c:Cx)(id n:Nat)(v:Value):Prop:=
 ∃cs b,c.H[id]?=some (.cells cs)/\c.ρ[id]?=some b/\v=.slice (some ⟨b,0,none⟩) n n
def PtrR (c:Cx)(id off:Nat)(v:Value):Prop:=
 ∃cs b,c.H[id]?=some (.cells cs)/\c.ρ[id]?=some b/\v=.pointer (some ⟨b,off,none⟩)
def LocR (c:Cx)(t off:Nat)(v:Value):Prop:=∃b,v=.pointer (some ⟨b,off,none⟩)/\∀b',c.β t=some b'->b=b'
mutual
def VR (c:Cx):AV->Value->Prop
 |.any,_=>True
 |.p x,v=>PR c.ok c.w x v
 |.nl x,v=>v=x.val
 |.agg cs,v=>∃vs:List Value,v=.agg vs.toArray/\VRL c cs vs
 |.tup cs,v=>∃vs:List Value,v=.tuple vs.toArray/\VRL c cs vs
 |.osl sz id ver off len,v=>OslR c sz id ver off len v
 |.optr sz id ver i off,v=>Zzb c sz id ver i off v
 |.ppt sz rows i off,v=>PptR c sz rows i off v
 |.ptr id off,v=>PtrR c id off v
 |.loc t off,v=>LocR c t off v
 |.fn f a b,v=>∃xs ys:List Value,v=.func (.func f) xs.toArray ys.toArray/\VRL c a xs/\VRL c b ys
 |.map id,v=>MapR c id v
 |.yl id,v=>YlR c id v
 |.csl id n,v=>CslR c id n v
def VRL (c:Cx):List AV->List Value->Prop
 |[],vs=>vs=[]
 |x::xs,vs=>∃u us,vs=u::us/\VR c x u/\VRL c xs us
end
def ZsH {c:Cx}{x:PC}{v:Value}(h:VR c (up x) v):PR c.ok c.w x v:=by
 cases x with
 |ow sz id ver len=>
  rw[up,VR]at h;obtain⟨_,_,_,b,cap,_,_,e,_⟩:=h;rw[PR];exact⟨_,_,e⟩
 |int k m=>rw[show up (PC.int k m)=.p (.int k m)from rfl,VR]at h;exact h
 |bool b=>rw[show up (PC.bool b)=.p (.bool b)from rfl,VR]at h;exact h
 |sl sz f rows=>rw[show up (PC.sl sz f rows)=.p (.sl sz f rows)from rfl,VR]at h;exact h
theorem ZoL {c:Cx}{x:PC}{v:Value}(hn:isOw x=false)(h:PR c.ok c.w x v):VR c (up x) v:=by
 cases x with
 |ow sz id ver len=>cases hn
 |int k m=>exact by show VR c (.p _) v;rw[VR];exact h
 |bool b=>exact by show VR c (.p _) v;rw[VR];exact h
 |sl sz f rows=>exact by show VR c (.p _) v;rw[VR];exact h
theorem Zg2 (x:PC):Za7 (up x)=true:=by cases x<;>rfl
def ZMr {x:PC}(h:isOw x=false):up x=.p x:=by cases x<;>first|rfl|cases h
theorem Zsh {xs:List PC}(h:Znl xs=true){j:Nat}{x:PC}(hj:xs[j]?=some x):isOw x=false:=by
 induction xs generalizing j with
 |nil=>simp at hj
 |cons y ys ih=>
  simp only[Znl,Ze,Zh]at h;cases j with
  |zero=>simp at hj;subst hj;exact h.1
  |succ j=>exact ih h.2 (by simpa using hj)
def ZyD {rs:List (List PC)}(h:ZqV rs=true){i:Nat}{r:List PC}(hi:rs[i]?=some r):Znl r=true:=by
 induction rs generalizing i with
 |nil=>simp at hi
 |cons y ys ih=>
  simp only[ZqV,Ze]at h;cases i with
  |zero=>simp at hi;subst hi;exact h.1
  |succ i=>exact ih h.2 (by simpa using hi)
def ZKO {xs:List PC}(h:Znl xs=true):xs.map up=xs.map .p:=by
 refine List.map_congr_left λx hx=>?_
 obtain⟨j,hj⟩:=List.getElem?_of_mem hx;exact ZMr (Zsh h hj)
def ZpP {α:Type}{enc:α->List PC}(h:∀a,Znl (enc a)=true)(l:List α):ZqV (l.map enc)=true:=by
 induction l with
 |nil=>rfl
 |cons x xs ih=>rw[Z3,ZqV,h,ih];rfl
def VRL.length {c:Cx}:∀{cs:List AV} {vs:List Value},VRL c cs vs->vs.length=cs.length
 |[],vs,h=>by rw[VRL]at h;subst h;rfl
 |x::xs,vs,h=>by
  rw[VRL]at h;obtain⟨u,us,rfl,_,h⟩:=h;simp[VRL.length h]
def Zew {c:Cx}:∀{cs:List AV} {vs:List Value},
  VRL c cs vs↔vs.length=cs.length/\∀(j:Nat) (x:AV) (u:Value),cs[j]?=some x->vs[j]?=some u->VR c x u
 |[],vs=>by
  rw[VRL];constructor
  ·rintro rfl;simp
  rintro⟨h,_⟩;exact List.eq_nil_of_length_eq_zero (by simpa using h)
 |x::xs,vs=>by
  rw[VRL];constructor
  ·rintro⟨u,us,rfl,hu,h⟩;obtain⟨hl,hh⟩:=Zew.1 h;refine⟨by simp[hl],λj y u' hj h0=>?_⟩;cases j with
   |zero=>simp at hj h0;subst hj h0;exact hu
   |succ j=>exact hh j y u' (by simpa using hj) (by simpa using h0)
  rintro⟨hl,hh⟩;cases vs with
  |nil=>simp at hl
  |cons u us=>exact⟨u,us,rfl,hh 0 x u rfl rfl,Zew.2 ⟨by simpa using hl,λj y u' hj h0=>hh (j+1) y u' (by simpa using hj) (by simpa using h0)⟩⟩
def PR.weak {ok:Addr->Prop}{w:World}{x:PC}{v:Value}(h:PR ok w x v):PR ok w (weakP x) v:=by
 cases x with
 |sl sz full rows=>
  simp only[weakP];rw[PR]at h⊢;obtain⟨A,cap,h1,h2,_,h4⟩:=h;exact⟨A,cap,h1,h2,by simp,h4⟩
 |_=>exact h
def VR.weak1 {c:Cx}{x:AV}{v:Value}(h:VR c x v):VR c (weak1 x) v:=by
 cases x with
 |p x=>simp only[Eng.weak1];rw[VR]at h⊢;exact h.weak
 |_=>exact h
def VRL.weakL {c:Cx}:∀{xs:List AV} {vs:List Value},VRL c xs vs->VRL c (weakL xs) vs
 |[],vs,h=>h
 |x::xs,vs,h=>by
  rw[VRL]at h;obtain⟨u,us,rfl,h1,h2⟩:=h;simp only[Eng.weakL];rw[VRL];exact⟨u,us,rfl,h1.weak1,h2.weakL⟩
def VR.weakV {c:Cx}{x:AV}{v:Value}(h:VR c x v):VR c (weakV x) v:=by
 unfold Eng.weakV;split
 ·rw[VR]at h⊢;obtain⟨vs,e,h⟩:=h;exact⟨vs,e,h.weakL⟩
 exact h.weak1
def VRL.weakVs {c:Cx}:∀{xs:List AV} {vs:List Value},VRL c xs vs->VRL c (weakVs xs) vs
 |[],vs,h=>h
 |x::xs,vs,h=>by
  rw[VRL]at h;obtain⟨u,us,rfl,h1,h2⟩:=h;simp only[Eng.weakVs];rw[VRL];exact⟨u,us,rfl,h1.weakV,h2.weakVs⟩
structure ZbA (c c':Cx):Prop where
 stay:Stay c.ok c'.ok c.w c'.w
 arr:∀(id sz ver:Nat) frz rows,c.H[id]?=some (.arr sz ver frz rows)->∃ver' frz' rows',c'.H[id]?=some (.arr sz ver' frz' rows')/\ver<=ver'∧
  (ver'=ver->rows.length<=rows'.length/\c'.ρ[id]?=c.ρ[id]?∧∀b vs,c.ρ[id]?=some b->c.blk b vs->∃vs',c'.blk b vs'/\vs'.size=vs.size)
 cells:∀(id:Nat) cs,c.H[id]?=some (.cells cs)->(∃cs',c'.H[id]?=some (.cells cs'))/\c'.ρ[id]?=c.ρ[id]?
 lp:∀(id:Nat) L fr st,c.H[id]?=some (.lp L fr st)->(∃st',c'.H[id]?=some (.lp L fr st'))/\c'.ρ[id]?=c.ρ[id]?
theorem OslR.later {c c':Cx}(h:ZbA c c'){sz id ver off len:Nat}{v:Value}(hv:OslR c sz id ver off len v):OslR c' sz id ver off len v:=by
 obtain⟨ver0,frz,rows,b,cap,hH,h8,e,h2,hh⟩:=hv;obtain⟨ver',frz',rows',h7,h4,h0⟩:=h.arr id sz ver0 frz rows hH;refine⟨ver',frz',rows',b,cap,h7,by omega,e,h2,λe=>?_⟩;have e1:ver=ver0:=by omega
 obtain⟨vs,h1,h3,h5,h6⟩:=hh e1;obtain⟨g1,g2,g3⟩:=h0 (by omega);obtain⟨vs',k1,k2⟩:=g3 b vs h1 h5;exact⟨vs',by rw[g2];exact h1,by omega,k1,by rw[k2];exact h6⟩
theorem Zzb.later {c c':Cx}(h:ZbA c c'){sz id ver i off:Nat}{v:Value}(hv:Zzb c sz id ver i off v):Zzb c' sz id ver i off v:=by
 obtain⟨ver0,frz,rows,b,hH,h3,e,hh⟩:=hv;obtain⟨ver',frz',rows',h2,h1,h0⟩:=h.arr id sz ver0 frz rows hH;refine⟨ver',frz',rows',b,h2,by omega,e,λe=>?_⟩;obtain⟨_,g2,_⟩:=h0 (by omega);rw[g2];exact hh (by omega)
theorem PtrR.later {c c':Cx}(h:ZbA c c'){id off:Nat}{v:Value}(hv:PtrR c id off v):PtrR c' id off v:=by
 obtain⟨cs,b,h1,h2,h3⟩:=hv;obtain⟨⟨cs',g1⟩,g2⟩:=h.cells id cs h1;exact⟨cs',b,g1,by rw[g2];exact h2,h3⟩
theorem YlR.later {c c':Cx}(h:ZbA c c'){id:Nat}{v:Value}(hv:YlR c id v):YlR c' id v:=by
 obtain⟨L,fr,st,b,h1,h2,h3⟩:=hv;obtain⟨⟨st',g1⟩,g2⟩:=h.lp id L fr st h1;exact⟨L,fr,st',b,g1,by rw[g2];exact h2,h3⟩
theorem MapR.later {c c':Cx}(h:ZbA c c'){id:Nat}{v:Value}(hv:MapR c id v):MapR c' id v:=by
 obtain⟨L,fr,st,b,h1,h2,h3,h4⟩:=hv;obtain⟨⟨st',g1⟩,g2⟩:=h.lp id L fr st h1;exact⟨L,fr,st',b,g1,h2,by rw[g2];exact h3,h4⟩
theorem CslR.later {c c':Cx}(h:ZbA c c'){id n:Nat}{v:Value}(hv:CslR c id n v):CslR c' id n v:=by
 obtain⟨cs,b,h1,h2,h3⟩:=hv;obtain⟨⟨cs',g1⟩,g2⟩:=h.cells id cs h1;exact⟨cs',b,g1,by rw[g2];exact h2,h3⟩
mutual
theorem VR.later {c c':Cx} (h:ZbA c c'):∀(x:AV) (v:Value),Za7 x=true->VR c x v->VR c' x v
 |.any,v,_,hv=>by simp[VR]
 |.p x,v,_,hv=>by rw[VR]at hv⊢;exact PR.mono h.stay x v hv
 |.nl x,v,_,hv=>by rw[VR]at hv⊢;exact hv
 |.agg cs,v,hn,hv=>by
  rw[VR]at hv⊢;obtain⟨vs,e,hv⟩:=hv;exact⟨vs,e,VRL.later h cs vs (by simpa[Za7]using hn) hv⟩
 |.tup cs,v,hn,hv=>by
  rw[VR]at hv⊢;obtain⟨vs,e,hv⟩:=hv;exact⟨vs,e,VRL.later h cs vs (by simpa[Za7]using hn) hv⟩
 |.osl sz id ver off len,v,_,hv=>by rw[VR]at hv⊢;exact hv.later h
 |.optr sz id ver i off,v,_,hv=>by rw[VR]at hv⊢;exact hv.later h
 |.ppt sz rows i off,v,_,hv=>by
  rw[VR]at hv⊢;obtain⟨a,e,hr⟩:=hv;exact⟨a,e,ZkM.mono h.stay sz rows a hr⟩
 |.ptr id off,v,_,hv=>by rw[VR]at hv⊢;exact hv.later h
 |.loc t off,v,hn,_=>by simp[Za7]at hn
 |.fn f a b,v,hn,hv=>by
  rw[VR]at hv⊢;obtain⟨xs,ys,e,h1,h2⟩:=hv;simp only[Za7,Ze]at hn;exact⟨xs,ys,e,VRL.later h a xs hn.1 h1,VRL.later h b ys hn.2 h2⟩
 |.map _,v,_,hv=>by rw[VR]at hv⊢;exact hv.later h
 |.yl id,v,_,hv=>by rw[VR]at hv⊢;exact hv.later h
 |.csl _ _,v,_,hv=>by rw[VR]at hv⊢;exact hv.later h
theorem VRL.later {c c':Cx} (h:ZbA c c'):∀(xs:List AV) (vs:List Value),noLocL xs=true->VRL c xs vs->VRL c' xs vs
 |[],vs,_,hv=>by rw[VRL]at hv⊢;exact hv
 |x::xs,vs,hn,hv=>by
  rw[VRL]at hv⊢;obtain⟨u,us,e,h1,h2⟩:=hv;simp only[noLocL,Za7.noLocL,Ze]at hn;exact⟨u,us,e,VR.later h x u hn.1 h1,VRL.later h xs us hn.2 h2⟩
end
def Zkz {x:AV}(h:ZdX x=true):Za7 x=true:=by
 cases x<;>simp_all[ZdX,Za7]
theorem ZaY:∀{xs:List AV},ZaX xs=true->noLocL xs=true
 |[],_=>rfl
 |x::xs,h=>by
  simp only[ZaX,Ze]at h;simp only[noLocL,Za7.noLocL,Ze];exact⟨Zkz h.1,ZaY h.2⟩
def Zmz {c:Cx}{x:AV}{v:Value}(h:ZdX x=true)(hv:VR c x v):v.oneCell'=true:=by
 cases x with
 |p x=>
  rw[VR]at hv;cases x with
  |int k n=>rw[PR]at hv;subst hv;rfl
  |bool b=>rw[PR]at hv;subst hv;rfl
  |sl sz full rows=>rw[PR]at hv;obtain⟨A,cap,e,_⟩:=hv;subst e;rfl
  |ow sz id ver len=>rw[PR]at hv;obtain⟨A,cap,e⟩:=hv;subst e;rfl
 |nl x=>rw[VR]at hv;subst hv;cases x<;>simp_all[ZdX,NL.val,Value.oneCell']
 |osl sz id ver off len=>
  rw[VR]at hv;obtain⟨ver0,frz,rows,b,cap,_,_,e,_⟩:=hv;subst e;rfl
 |ptr id off=>rw[VR]at hv;obtain⟨cs,b,_,_,e⟩:=hv;subst e;rfl
 |fn f a b=>rw[VR]at hv;obtain⟨xs,ys,e,_⟩:=hv;subst e;rfl
 |map id=>rw[VR]at hv;obtain⟨L,fr,st,b,_,_,_,e⟩:=hv;subst e;unfold mapV;split<;>rfl
 |yl id=>rw[VR]at hv;obtain⟨L,fr,st,b,_,_,e⟩:=hv;subst e;rfl
 |csl id n=>rw[VR]at hv;obtain⟨cs,b,_,_,e⟩:=hv;subst e;rfl
 |_=>simp[ZdX]at h
def ZhH {c:Cx}{x:AV}{v:Value}(h:ZaX (cellsOf x)=true)(hv:VR c x v):VRL c (cellsOf x) v.cells.toList:=by
 cases x with
 |agg cs=>
  rw[VR]at hv;obtain⟨vs,rfl,hv⟩:=hv;simpa[cellsOf,Value.cells]using hv
 |tup cs=>simp[cellsOf,ZaX,ZdX]at h
 |_=>
  simp only[cellsOf,ZaX,Bool.and_true]at h⊢;have h1:=Zmz h hv;have e:v.cells=#[v]:=by cases v<;>simp_all[Value.cells,Value.oneCell']
  rw[e,VRL];exact⟨v,[],rfl,hv,by rw[VRL]⟩
def ZpM {xs:List AV}:ZaX xs=true↔∀x∈xs,ZdX x=true:=by
 induction xs with
 |nil=>simp[ZaX]
 |cons y ys ih=>simp[ZaX,ih]
def Zkw {c:Cx}{xs:List AV}{vs:List Value}(h:ZaX xs=true)(hv:VRL c xs vs):∀v∈vs,v.oneCell'=true:=by
 induction xs generalizing vs with
 |nil=>rw[VRL]at hv;subst hv;simp
 |cons x xs ih=>
  rw[VRL]at hv;obtain⟨u,us,rfl,h1,h2⟩:=hv;simp only[ZaX,Ze]at h;intro v hm;rcases List.mem_cons.1 hm with rfl|hm
  ·exact Zmz h.1 h1
  exact ih h.2 h2 v hm
end Go.Eng

namespace Go.Eng
open Go
structure K0 where
 ok0:Addr->Prop
 w0:World
 D:Nat->Prop
 ρ0:List Nat
 H0:List HO
 rd:Option Nat
 tl:List Deferred
 hw:World
 β0:Nat->Option Nat
structure G where
 ρ:List Nat
 β:Nat->Option Nat
def okOf (k:K0)(H:List HO)(g:G)(a:Addr):Prop:=
 (k.ok0 a∨k.w0.heap.size<=a.block∨k.D a.block)/\(∀t,g.β t≠some a.block)∧
 ∀(id:Nat),g.ρ[id]?=some a.block->∃sz ver rows,H[id]?=some (.arr sz ver true rows)/\a.off<rows.length*sz
def cx (k:K0)(g:G)(H:List HO)(w:World):Cx:=⟨okOf k H g,w,H,g.ρ,g.β⟩
def BoxR (c:Cx)(b:Nat)(cs:List AV):Prop:=ZaX cs=true/\∃vs,c.blk b vs/\VRL c cs vs.toList
def ArrR (c:Cx)(b sz:Nat)(rows:List (List PC)):Prop:=
 ∃vs,c.blk b vs/\rows.length*sz<=vs.size/\∀(i:Nat) r,rows[i]?=some r->r.length=sz/\∀(j:Nat) x,r[j]?=some x->∃u,vs[i*sz+j]?=some u/\VR c (up x) u
def StR:LS->Loop->Prop
 |.ready,r=>r.state=.ready/\r.pending=none
 |.busy,r=>r.state=.busy
 |.dead,_=>True
 |.done c,r=>r.state=.done/\r.pending=some c
 |.mp ..,_=>False
 |.mps ..,_=>False
 |.it ..,_=>False
 |.itd,_=>False
def keyV (kn:Nat)(ks:List Int):Value:=if kn=0 then .int .i64 (ks.headD 0)else .agg (ks.map (Value.int .i64)).toArray
def klen (kn:Nat):Nat:=if kn=0 then 1 else kn
def MpR (c:Cx)(b:Nat):LS->Prop
 |.mp ka es=>ZaX (es.map (·.2))=true/\(∀p∈es,p.1.length=klen ka)/\∃ents clock,c.w.heap[b]?=some (.map ents clock)/\MapKept.Stamped ents clock∧
   ents.toList.map (·.key)=es.map (λp=>keyV ka p.1)/\VRL c (es.map (·.2)) (ents.toList.map (·.val))
 |.mps ka es bs clock=>ZaX (es.map (·.2))=true/\(∀p∈es,p.1.length=klen ka)/\∃ents,c.w.heap[b]?=some (.map ents clock)/\MapKept.Stamped ents clock∧
   ents.toList.map (·.key)=es.map (λp=>keyV ka p.1)/\VRL c (es.map (·.2)) (ents.toList.map (·.val))/\ents.toList.map (·.born)=bs
 |.it m since seen last=>∃bm L fr st,c.H[m]?=some (.lp L fr st)/\c.ρ[m]?=some bm/\c.w.heap[b]?=some (.mapIter (some bm) since seen.toArray last)
 |.itd=>∃m x y z,c.w.heap[b]?=some (.mapIter m x y z)
 |_=>False
def LpR (c:Cx)(b:Nat)(L:LC)(fr:List (Nat×AV))(st:LS):Prop:=
 (∀t,Za7 (get fr t)=true)/\∃r:Loop,c.w.heap[b]?=some (.loop r)/\r.params.toList=L.ps/\L.ok r.assign r.body/\r.tmps.size=L.n∧
  (∀t,VR c (get fr t) (r.tmps.getD t undef))/\StR st r
def HoR (c:Cx)(b:Nat):HO->Prop
 |.lp L fr st=>(L.mpk=false/\LpR c b L fr st)∨(L.mpk=true/\MpR c b st)
 |.arr sz _ _ rows=>ArrR c b sz rows
 |.cells cs=>BoxR c b cs
def top:AV->Bool
 |.loc .. =>true
 |v=>Za7 v
structure Keep (D:Nat->Prop) (w w':World):Prop where
 os:w'.os=w.os
 tape:w'.tape=w.tape
 output:w'.output=w.output
 size:w.heap.size<=w'.heap.size
 block:∀k,k<w.heap.size->¬D k->w'.heap[k]?=w.heap[k]?
def Keep.refl (D:Nat->Prop)(w:World):Keep D w w:=⟨rfl,rfl,rfl,Nat.le_refl _,λ_ _ _=>rfl⟩
def ZbA.refl (c:Cx):ZbA c c:=
 {stay:=λ_ _ ho hc=>⟨hc,ho⟩
  arr:=λ_ _ ver frz rows e=>⟨ver,frz,rows,e,Nat.le_refl _,λ_=>⟨Nat.le_refl _,rfl,λ_ vs _ hb=>⟨vs,hb,rfl⟩⟩⟩
  cells:=λ_ cs e=>⟨⟨cs,e⟩,rfl⟩
  lp:=λ_ _ _ st e=>⟨⟨st,e⟩,rfl⟩}
def ZbA.trans {c c' c'':Cx}(h:ZbA c c')(h':ZbA c' c''):ZbA c c'':=
 {stay:=λa u ho hc=>let ⟨h1,h2⟩:=h.stay a u ho hc;h'.stay a u h2 h1
  arr:=λid sz ver frz rows e=>by
   obtain⟨v1,f1,r1,e1,l1,s1⟩:=h.arr id sz ver frz rows e;obtain⟨v2,f2,r2,e2,l2,s2⟩:=h'.arr id sz v1 f1 r1 e1;refine⟨v2,f2,r2,e2,by omega,λe=>?_⟩;obtain⟨a1,a2,a3⟩:=s1 (by omega);obtain⟨b1,b2,b3⟩:=s2 (by omega);refine⟨by omega,b2.trans a2,λb vs hb h0=>?_⟩;obtain⟨vs1,c1,c2⟩:=a3 b vs hb h0;obtain⟨vs2,d1,d2⟩:=b3 b vs1 (a2.trans hb) c1;exact⟨vs2,d1,d2.trans c2⟩
  cells:=λid cs e=>by
   obtain⟨⟨cs1,e1⟩,h1⟩:=h.cells id cs e;obtain⟨h2,h3⟩:=h'.cells id cs1 e1;exact⟨h2,h3.trans h1⟩
  lp:=λid L fr st e=>by
   obtain⟨⟨st1,e1⟩,h1⟩:=h.lp id L fr st e;obtain⟨h2,h3⟩:=h'.lp id L fr st1 e1;exact⟨h2,h3.trans h1⟩}
def noB:Nat->Option Nat:=λ_=>none
def Zq1 (tl:List Deferred)(w0 w:World)(ds:List Deferred):Prop:=
 ∃ms ms2:List Nat,ds=ms.map (λD=>{target:=.collected D,args:=#[]})++(tl++ms2.map (λD=>{target:=.collected D,args:=#[]}))/\(ms++ms2).Nodup/\∀D∈ms++ms2,w0.heap.size<=D/\w.heap[D]?=some (.deferred (some []))
def Zq1.mono {tl:List Deferred}{w0 w w':World}{ds:List Deferred}(h:Zq1 tl w0 w ds)(hw:∀D,w0.heap.size<=D->w.heap[D]?=some (.deferred (some []))->w'.heap[D]?=some (.deferred (some []))):Zq1 tl w0 w' ds:=by
 obtain⟨ms,ms2,e,h1,h2⟩:=h;exact⟨ms,ms2,e,h1,λD hD=>⟨(h2 D hD).1,hw D (h2 D hD).1 (h2 D hD).2⟩⟩
structure Rel (k:K0) (n:Nat) (g:G) (s:St) (a:Act) (w:World):Prop where
 defers:Zq1 k.tl k.w0 w a.defers
 rnd:∀l,k.rd=some l->∃r,w.heap[l]?=some (.loop r)
 tsz:a.tmps.size=n
 slots:∀t,VR (cx k g s.H w) (get s.fr t) (a.tmps.getD t undef)
 tops:∀t,top (get s.fr t)=true
 boxes:∀t cs,bget s.bx t=some cs->∃b,g.β t=some b/\BoxR (cx k g s.H w) b cs
 boxed:∀t b,g.β t=some b->(∃cs,bget s.bx t=some cs)/\k.w0.heap.size<=b
 heap:∀(id:Nat) o,s.H[id]?=some o->∃b,g.ρ[id]?=some b/\HoR (cx k g s.H w) b o
 len:g.ρ.length=s.H.length
 inj:∀(i j b:Nat),g.ρ[i]?=some b->g.ρ[j]?=some b->i=j
 binj:∀t u b,g.β t=some b->g.β u=some b->t=u
 apart:∀(t i b:Nat),g.β t=some b->g.ρ[i]?≠some b
 own:∀(i b:Nat),g.ρ[i]?=some b->k.w0.heap.size<=b∨k.D b
 keep:Keep k.D k.w0 w
 hist:ZbA (cx k ⟨k.ρ0,k.β0⟩ k.H0 k.hw) (cx k g s.H w)
def ZbF (fr:List (Nat×AV))(d t:Nat)(v:AV):get (put fr d v) t=if d=t then v else get fr t:=by
 induction fr with
 |nil=>simp[put,get]
 |cons p r ih=>
  obtain⟨u,x⟩:=p;simp only[put];by_cases h1:d<u
  ·simp only[h1,Zaw,get]
  by_cases h2:d=u
  ·subst h2;simp only[Nat.lt_irrefl,Zat,Zaw,get];by_cases h3:d=t<;>simp[h3]
  simp only[h1,h2,Zat,get,ih];by_cases h3:u=t
  ·subst h3;simp[h2]
  simp[h3]
def Zc5 (fr:List (Nat×List AV))(d t:Nat)(v:List AV):bget (bput fr d v) t=if d=t then some v else bget fr t:=by
 induction fr with
 |nil=>simp[bput,bget]
 |cons p r ih=>
  obtain⟨u,x⟩:=p;simp only[bput];by_cases h1:d<u
  ·simp only[h1,Zaw,bget]
  by_cases h2:d=u
  ·subst h2;simp only[Nat.lt_irrefl,Zat,Zaw,bget];by_cases h3:d=t<;>simp[h3]
  simp only[h1,h2,Zat,bget,ih];by_cases h3:u=t
  ·subst h3;simp[h2]
  simp[h3]
def Zet (d:Nat)(fr:List (Nat×AV))(t:Nat):
  get (Zgl d fr) t=match get fr t with
   |.loc t' o=>if t'=d then .any else .loc t' o
   |v=>v:=by
 induction fr with
 |nil=>simp[Zgl,get]
 |cons p r ih=>
  obtain⟨u,v⟩:=p;by_cases h:u=t
  ·subst h;cases v<;>simp only[Zgl,get,Zaw];split<;>simp[get]
  cases v<;>simp only[Zgl,get,h,Zat,ih];split<;>simp only[get,h,Zat,ih]
def ZpY (ks:List Nat)(fr:List (Nat×AV))(t:Nat):get (Znr ks fr) t=if ks.elem t then get fr t else .any:=by
 induction fr with
 |nil=>simp[Znr,get]
 |cons p r ih=>
  obtain⟨u,v⟩:=p;simp only[Znr];by_cases h:ks.elem u=true
  ·rw[Zav h];simp only[get];by_cases e:u=t
   ·subst e;rw[Zav rfl,Zav h,Zav rfl]
   rw[Zau e,ih,Zau e]
  rw[Zau h,ih];by_cases e:u=t
  ·subst e;rw[Zau h,Zau h]
  simp only[get,Zau e]
def ZrD (ks:List Nat)(fr:List (Nat×List AV))(t:Nat):bget (ZtP ks fr) t=if ks.elem t then bget fr t else none:=by
 induction fr with
 |nil=>simp[ZtP,bget]
 |cons p r ih=>
  obtain⟨u,v⟩:=p;simp only[ZtP];by_cases h:ks.elem u=true
  ·rw[Zav h];simp only[bget];by_cases e:u=t
   ·subst e;rw[Zav rfl,Zav h,Zav rfl]
   rw[Zau e,ih,Zau e]
  rw[Zau h,ih];by_cases e:u=t
  ·subst e;rw[Zau h,Zau h]
  simp only[bget,Zau e]
def Zub {c c':Cx}(hβ:∀t b,c'.β t=some b->c.β t=some b){t o:Nat}{v:Value}(h:VR c (.loc t o) v):VR c' (.loc t o) v:=by
 rw[VR]at h⊢;obtain⟨b,e,hb⟩:=h;exact⟨b,e,λb' h0=>hb b' (hβ t b' h0)⟩
def ZbP {c c':Cx}(h:ZbA c c')(hβ:∀t b,c'.β t=some b->c.β t=some b){x:AV}{v:Value}(ht:top x=true)(hv:VR c x v):VR c' x v:=by
 cases x with
 |loc t o=>exact Zub hβ hv
 |_=>exact VR.later h _ _ (by simpa[top]using ht) hv
def ZrC {c c':Cx}{b:Nat}(hb:∀o,c.w.heap[b]?=some o->c'.w.heap[b]?=some o){vs:Array Value}(h:c.blk b vs):c'.blk b vs:=
 let ⟨e,h⟩:=h;⟨e,hb _ h⟩
theorem BoxR.later {c c':Cx}(h:ZbA c c'){b:Nat}{cs:List AV}(hb:∀o,c.w.heap[b]?=some o->c'.w.heap[b]?=some o)(hv:BoxR c b cs):BoxR c' b cs:=by
 obtain⟨h1,vs,h2,h3⟩:=hv;exact⟨h1,vs,ZrC hb h2,VRL.later h cs _ (ZaY h1) h3⟩
theorem ArrR.later {c c':Cx}(h:ZbA c c'){b sz:Nat}{rows:List (List PC)}(hb:∀o,c.w.heap[b]?=some o->c'.w.heap[b]?=some o)(hv:ArrR c b sz rows):ArrR c' b sz rows:=by
 obtain⟨vs,h1,h2,h3⟩:=hv;refine⟨vs,ZrC hb h1,h2,λi r hi=>⟨(h3 i r hi).1,λj x hj=>?_⟩⟩;obtain⟨u,hu,hp⟩:=(h3 i r hi).2 j x hj;exact⟨u,hu,VR.later h _ u (Zg2 x) hp⟩
theorem LpR.later {c c':Cx}(h:ZbA c c'){b:Nat}{L:LC}{fr:List (Nat×AV)}{st:LS}(hb:∀o,c.w.heap[b]?=some o->c'.w.heap[b]?=some o)(hv:LpR c b L fr st):LpR c' b L fr st:=by
 obtain⟨h0,r,h1,h2,h3,h5,h6,h7⟩:=hv;exact⟨h0,r,hb _ h1,h2,h3,h5,λt=>VR.later h _ _ (h0 t) (h6 t),h7⟩
theorem MpR.later {c c':Cx}(h:ZbA c c'){b:Nat}{st:LS}(hb:∀o,c.w.heap[b]?=some o->c'.w.heap[b]?=some o)(hv:MpR c b st):MpR c' b st:=by
 cases st with
 |mp ka es=>
  obtain⟨h0,hk,ents,clock,h1,h2,h3,h4⟩:=hv;exact⟨h0,hk,ents,clock,hb _ h1,h2,h3,VRL.later h _ _ (ZaY h0) h4⟩
 |mps ka es bs clock=>
  obtain⟨h0,hk,ents,h1,h2,h3,h4,h5⟩:=hv;exact⟨h0,hk,ents,hb _ h1,h2,h3,VRL.later h _ _ (ZaY h0) h4,h5⟩
 |it m since seen last=>
  obtain⟨bm,L,fr,st,h1,h2,h3⟩:=hv;obtain⟨⟨st',g1⟩,g2⟩:=h.lp m L fr st h1;exact⟨bm,L,fr,st',g1,by rw[g2];exact h2,hb _ h3⟩
 |itd=>obtain⟨m,x,y,z,h1⟩:=hv;exact⟨m,x,y,z,hb _ h1⟩
 |_=>exact hv
theorem HoR.later {c c':Cx}(h:ZbA c c'){b:Nat}{o:HO}(hb:∀o,c.w.heap[b]?=some o->c'.w.heap[b]?=some o)(hv:HoR c b o):HoR c' b o:=by
 cases o with
 |arr sz ver frz rows=>exact ArrR.later h hb hv
 |cells cs=>exact BoxR.later h hb hv
 |lp L fr st=>exact hv.imp (λ⟨e,hv⟩=>⟨e,LpR.later h hb hv⟩) (λ⟨e,hv⟩=>⟨e,MpR.later h hb hv⟩)
def HoR.obj {c:Cx}{b:Nat}{o:HO}(hv:HoR c b o):∃x,c.w.heap[b]?=some x:=by
 cases o with
 |arr sz ver frz rows=>obtain⟨vs,⟨e,hr⟩,_⟩:=hv;exact⟨_,hr⟩
 |cells cs=>obtain⟨_,vs,⟨e,hr⟩,_⟩:=hv;exact⟨_,hr⟩
 |lp L fr st=>
  rcases hv with⟨_,_,r,hr,_⟩|⟨_,hv⟩
  ·exact⟨_,hr⟩
  cases st with
  |mp ka es=>obtain⟨_,_,ents,clock,hr,_⟩:=hv;exact⟨_,hr⟩
  |mps ka es bs clock=>obtain⟨_,_,ents,hr,_⟩:=hv;exact⟨_,hr⟩
  |it m since seen last=>obtain⟨_,_,_,_,_,_,hr⟩:=hv;exact⟨_,hr⟩
  |itd=>obtain⟨_,_,_,_,hr⟩:=hv;exact⟨_,hr⟩
  |_=>exact hv.elim
def HoR.lt {c:Cx}{b:Nat}{o:HO}(hv:HoR c b o):b<c.w.heap.size:=let ⟨_,h⟩:=hv.obj;(Array.getElem?_eq_some_iff.1 h).1
def HoR.kind {c:Cx}{b:Nat}{o:HO}{x:Obj}(hv:HoR c b o)(hx:c.w.heap[b]?=some x):(∃vs e f,x=.cells vs e f)∨(∃r,x=.loop r/\∃L fr st,o=.lp L fr st/\L.mpk=false)∨(∃es n,x=.map es n)∨∃m a b c,x=.mapIter m a b c:=by
 cases o with
 |arr sz ver frz rows=>obtain⟨vs,⟨e,hr⟩,_⟩:=hv;rw[hr]at hx;exact .inl ⟨_,_,_,(Option.some.inj hx).symm⟩
 |cells cs=>obtain⟨_,vs,⟨e,hr⟩,_⟩:=hv;rw[hr]at hx;exact .inl ⟨_,_,_,(Option.some.inj hx).symm⟩
 |lp L fr st=>
  rcases hv with⟨hm,_,r,hr,_⟩|⟨_,hv⟩
  ·rw[hr]at hx;exact .inr (.inl ⟨_,(Option.some.inj hx).symm,L,fr,st,rfl,hm⟩)
  cases st with
  |mp ka es=>obtain⟨_,_,ents,clock,hr,_⟩:=hv;rw[hr]at hx;exact .inr (.inr (.inl ⟨_,_,(Option.some.inj hx).symm⟩))
  |mps ka es bs clock=>obtain⟨_,_,ents,hr,_⟩:=hv;rw[hr]at hx;exact .inr (.inr (.inl ⟨_,_,(Option.some.inj hx).symm⟩))
  |it m since seen last=>obtain⟨_,_,_,_,_,_,hr⟩:=hv;rw[hr]at hx;exact .inr (.inr (.inr ⟨_,_,_,_,(Option.some.inj hx).symm⟩))
  |itd=>obtain⟨_,_,_,_,hr⟩:=hv;rw[hr]at hx;exact .inr (.inr (.inr ⟨_,_,_,_,(Option.some.inj hx).symm⟩))
  |_=>exact hv.elim
def cx_β (k:K0)(g:G)(H:List HO)(w:World):(cx k g H w).β=g.β:=rfl
section
variable {k:K0} {n:Nat} {g:G} {s:St} {a:Act} {w:World}
def Zu1 (a:Act)(d t:Nat)(v:Value)(h:d<a.tmps.size):(a.put (some d) v).tmps.getD t undef=if d=t then v else a.tmps.getD t undef:=by
 simp only[Act.put,Za];by_cases e:d=t
 ·subst e;simp[h]
 simp[e,Zc e]
theorem Rel.put (h:Rel k n g s a w){d:Nat}(hd:d<n){r:AV}{u:Value}(hr:VR (cx k g s.H w) r u)(ht:top r=true):
  Rel k n g {s with fr:=put s.fr d r} (a.put (some d) u) w:=
 {h with
  defers:=h.defers
  tsz:=by simp[Act.put,h.tsz]
  slots:=λt=>by
   rw[ZbF,Zu1 a d t u (by rw[h.tsz];exact hd)];by_cases e:d=t
   ·simp only[e,Zaw];exact hr
   simp only[e,Zat];exact h.slots t
  tops:=λt=>by
   rw[ZbF];by_cases e:d=t
   ·simp only[e,Zaw];exact ht
   simp only[e,Zat];exact h.tops t}
def Rel.keepOnly (h:Rel k n g s a w)(ks:List Nat):∃g',Rel k n g' ⟨Znr ks s.fr,ZtP ks s.bx,s.H⟩ a w:=by
 let g':G:=⟨g.ρ,λt=>if ks.elem t then g.β t else none⟩
 have hβ:∀t b,g'.β t=some b->g.β t=some b:=λt b e=>by
  simp only[g']at e;split at e
  ·exact e
  cases e
 have hl:ZbA (cx k g s.H w) (cx k g' s.H w):=
  {stay:=λa u ho hc=>⟨hc,ho.1,λt e=>ho.2.1 t (hβ t _ e),ho.2.2⟩
   arr:=λid sz ver frz rows e=>⟨ver,frz,rows,e,Nat.le_refl _,λ_=>⟨Nat.le_refl _,rfl,λb vs _ hb=>⟨vs,hb,rfl⟩⟩⟩
   cells:=λid cs e=>⟨⟨cs,e⟩,rfl⟩
   lp:=λ_ _ _ st e=>⟨⟨st,e⟩,rfl⟩}
 refine⟨g',?_⟩;exact
  {defers:=h.defers
   rnd:=h.rnd
   tsz:=h.tsz
   slots:=λt=>by
    simp only[ZpY];split
    ·exact ZbP hl hβ (h.tops t) (h.slots t)
    simp[VR]
   tops:=λt=>by
    simp only[ZpY];split
    ·exact h.tops t
    rfl
   boxes:=λt cs e=>by
    simp only[ZrD]at e;split at e
    ·rename_i hk;obtain⟨b,hb,hr⟩:=h.boxes t cs e;exact⟨b,by simp only[g',hk,Zaw];exact hb,hr.later hl (λ_ hb=>hb)⟩
    cases e
   boxed:=λt b e=>by
    simp only[g']at e;split at e
    ·rename_i hk;obtain⟨⟨cs,hc⟩,hb⟩:=h.boxed t b e;exact⟨⟨cs,by simp only[ZrD,hk,Zaw];exact hc⟩,hb⟩
    cases e
   heap:=λid o e=>by
    obtain⟨b,hb,hr⟩:=h.heap id o e;exact⟨b,hb,hr.later hl (λ_ hb=>hb)⟩
   len:=h.len
   inj:=h.inj
   binj:=λt u b e1 e2=>h.binj t u b (hβ _ _ e1) (hβ _ _ e2)
   apart:=λt i b e=>h.apart t i b (hβ _ _ e)
   own:=h.own
   keep:=h.keep
   hist:=h.hist.trans hl}
end
end Go.Eng

namespace Go.Eng
open Go
def ZsA {w:World}{a:Addr}{u:Value}(h:w.cell? a=some u):a.block<w.heap.size:=by
 rcases Nat.lt_or_ge a.block w.heap.size with h0|h1
 ·exact h0
 simp[World.cell?,Array.getElem?_eq_none h1]at h
theorem ZmM {c:Cx}{b:Nat}{vs:Array Value}(h:c.blk b vs)(i:Nat):c.w.cell? ⟨b,i,none⟩=vs[i]?:=by
 obtain⟨e,h⟩:=h;simp[World.cell?,h]
def Zzn {c:Cx}{b:Nat}{vs:Array Value}(h:c.blk b vs):b<c.w.heap.size:=by
 obtain⟨e,h⟩:=h;exact(Array.getElem?_eq_some_iff.1 h).1
structure Grow (w w':World):Prop where
 os:w'.os=w.os
 tape:w'.tape=w.tape
 output:w'.output=w.output
 size:w.heap.size<=w'.heap.size
 block:∀i,i<w.heap.size->w'.heap[i]?=w.heap[i]?
def Grow.alloc (w:World)(o:Obj):Grow w (w.alloc o):=
 ⟨rfl,rfl,rfl,by simp,λi hi=>RowKit.Below.heap_alloc w o i hi⟩
def Grow.cell {w w':World}(h:Grow w w'){a:Addr}{u:Value}(hc:w.cell? a=some u):w'.cell? a=some u:=by
 have:=ZsA hc;rw[World.cell?_of_block (h.block a.block this)];exact hc
def Grow.drew (w:World):Grow w w.drew:=⟨rfl,rfl,rfl,Nat.le_refl _,λ_ _=>rfl⟩
def Keep.grow {D:Nat->Prop}{w0 w w':World}(h:Keep D w0 w)(g:Grow w w'):Keep D w0 w':=
 ⟨g.os.trans h.os,g.tape.trans h.tape,g.output.trans h.output,Nat.le_trans h.size g.size,λi hi hD=>(g.block i (Nat.lt_of_lt_of_le hi h.size)).trans (h.block i hi hD)⟩
section
variable {k:K0} {n:Nat} {g:G} {s:St} {a:Act} {w:World}
def ZoJ {H H':List HO}{g g':G}{w w':World}(h:Grow w w'){b:Nat}{vs:Array Value}(hb:(cx k g H w).blk b vs):(cx k g' H' w').blk b vs:=by
 have h0:=Zzn hb;obtain⟨e,hb⟩:=hb;exact⟨e,(h.block b h0).trans hb⟩
def Ze5 {w w':World}(h:Grow w w'){b:Nat}{o:Obj}(hb:w.heap[b]?=some o):w'.heap[b]?=some o:=
 (h.block b (Array.getElem?_eq_some_iff.1 hb).1).trans hb
def Zq1.grow {tl:List Deferred}{w0 w w':World}{ds:List Deferred}(h:Zq1 tl w0 w ds)(hg:Grow w w'):Zq1 tl w0 w' ds:=h.mono λ_ _=>Ze5 hg
def Rel.rndG (h:Rel k n g s a w){w':World}(hg:Grow w w'):∀l,k.rd=some l->∃r,w'.heap[l]?=some (.loop r):=λl hl=>
 let ⟨r,hr⟩:=h.rnd l hl;⟨r,Ze5 hg hr⟩
def Zfl {w':World}(h:Grow w w')(H:List HO):ZbA (cx k g H w) (cx k g H w'):=
 {stay:=λa u ho hc=>⟨h.cell hc,ho⟩
  arr:=λid sz ver frz rows e=>⟨ver,frz,rows,e,Nat.le_refl _,λ_=>⟨Nat.le_refl _,rfl,λb vs _ hb=>⟨vs,ZoJ h hb,rfl⟩⟩⟩
  cells:=λid cs e=>⟨⟨cs,e⟩,rfl⟩
  lp:=λ_ _ _ st e=>⟨⟨st,e⟩,rfl⟩}
def Rel.grow (h:Rel k n g s a w){w':World}(hg:Grow w w'):Rel k n g s a w':=
 have hl:=Zfl (k:=k) (g:=g) hg s.H
 {h with
  defers:=h.defers.grow hg
  rnd:=h.rndG hg
  slots:=λt=>ZbP hl (λ_ _ e=>e) (h.tops t) (h.slots t)
  boxes:=λt cs e=>let ⟨b,hb,hr⟩:=h.boxes t cs e;⟨b,hb,hr.later hl λ_=>Ze5 hg⟩
  heap:=λid o e=>let ⟨b,hb,hr⟩:=h.heap id o e;⟨b,hb,hr.later hl λ_=>Ze5 hg⟩
  keep:=h.keep.grow hg
  hist:=h.hist.trans hl}
def β_lt (h:Rel k n g s a w){t b:Nat}(e:g.β t=some b):b<w.heap.size:=by
 obtain⟨⟨cs,hc⟩,_⟩:=h.boxed t b e;obtain⟨b',h0,_,vs,hr,_⟩:=h.boxes t cs hc;rw[e]at h0;cases h0;exact Zzn hr
def ρ_lt (h:Rel k n g s a w){id b:Nat}(e:g.ρ[id]?=some b):b<w.heap.size:=by
 have h1:id<s.H.length:=by rw[←h.len];exact(List.getElem?_eq_some_iff.1 e).1
 obtain⟨b',h0,hr⟩:=h.heap id s.H[id] (ZL h1);rw[e]at h0;cases h0;exact hr.lt
def Rel.newBox (h:Rel k n g s a w){d:Nat}(hd:d<n){cs:List AV}{vs:Array Value}(h3:ZaX cs=true)(hv:VRL (cx k g s.H w) cs vs.toList)(e:TypeId):
  ∃g',Rel k n g' ⟨Eng.put (Zgl d s.fr) d (.loc d 0),bput s.bx d cs,s.H⟩ (a.put (some d) (.pointer (some ⟨w.heap.size,0,none⟩))) (w.alloc (.cells vs e)):=by
 let g':G:=⟨g.ρ,λt=>if d=t then some w.heap.size else g.β t⟩
 have hg:=Grow.alloc w (.cells vs e);have hβ:∀t b,t≠d->g'.β t=some b->g.β t=some b:=λt b h0 e=>by
  simp only[g']at e;rw[Zau (Ne.symm h0)]at e;exact e
 have hl:ZbA (cx k g s.H w) (cx k g' s.H (w.alloc (.cells vs e))):=
  {stay:=λa u ho hc=>⟨hg.cell hc,ho.1,λt e'=>by
    have:=ZsA hc;simp only[g']at e';split at e'
    ·simp at e';exact Nat.ne_of_lt this e'.symm
    exact ho.2.1 t e',ho.2.2⟩
   arr:=λid sz ver frz rows e=>⟨ver,frz,rows,e,Nat.le_refl _,λ_=>⟨Nat.le_refl _,rfl,λb vs _ hb=>⟨vs,ZoJ hg hb,rfl⟩⟩⟩
   cells:=λid cs e=>⟨⟨cs,e⟩,rfl⟩
   lp:=λ_ _ _ st e=>⟨⟨st,e⟩,rfl⟩}
 refine⟨g',?_⟩;exact
  {defers:=h.defers.grow hg
   rnd:=h.rndG hg
   tsz:=by simp[Act.put,h.tsz]
   slots:=λt=>by
    simp only[ZbF];rw[Zu1 a d t _ (by rw[h.tsz];exact hd)];by_cases he:d=t
    ·subst he;simp only[Zaw];rw[VR];refine⟨w.heap.size,rfl,λb' hb=>?_⟩;simp only[cx_β,g',Zaw]at hb;cases hb;rfl
    simp only[he,Zat];have hs:=h.slots t;have ht:=h.tops t;rw[Zet];generalize get s.fr t=x at hs ht;cases x with
    |loc t' o=>
     simp only;split
     ·simp[VR]
     rename_i h0;rw[VR]at hs⊢;obtain⟨b0,e0,hs⟩:=hs;exact⟨b0,e0,λb hb=>hs b (hβ t' b h0 hb)⟩
    |_=>exact VR.later hl _ _ (by simpa[top]using ht) hs
   tops:=λt=>by
    simp only[ZbF,Zet];split
    ·rfl
    have ht:=h.tops t;generalize get s.fr t=x at ht;cases x with
    |loc t' o=>simp only;split<;>rfl
    |_=>simpa using ht
   boxes:=λt cs' e'=>by
    simp only[Zc5]at e';by_cases he:d=t
    ·subst he;simp only[Zaw,Zan]at e';subst e';exact⟨w.heap.size,by simp[g'],h3,vs,⟨e,heap_alloc_new w _⟩,VRL.later hl cs _ (ZaY h3) hv⟩
    simp only[he,Zat]at e';obtain⟨b,hb,hr⟩:=h.boxes t cs' e';exact⟨b,by simp only[g',he,Zat];exact hb,hr.later hl λ_=>Ze5 hg⟩
   boxed:=λt b e'=>by
    by_cases he:d=t
    ·subst he;simp only[g',Zaw,Zan]at e';subst e';exact⟨⟨cs,by simp[Zc5]⟩,h.keep.size⟩
    obtain⟨⟨cs',hc⟩,hb⟩:=h.boxed t b (hβ t b (Ne.symm he) e');exact⟨⟨cs',by simp only[Zc5,he,Zat];exact hc⟩,hb⟩
   heap:=λid o e'=>let ⟨b,hb,hr⟩:=h.heap id o e';⟨b,hb,hr.later hl λ_=>Ze5 hg⟩
   len:=h.len
   inj:=h.inj
   binj:=λt u b e1 e2=>by
    by_cases h1:d=t<;>by_cases h2:d=u
    ·omega
    ·subst h1;have:=β_lt h (hβ u b (Ne.symm h2) e2);simp only[g',Zaw,Zan]at e1;omega
    ·subst h2;have:=β_lt h (hβ t b (Ne.symm h1) e1);simp only[g',Zaw,Zan]at e2;omega
    exact h.binj t u b (hβ t b (Ne.symm h1) e1) (hβ u b (Ne.symm h2) e2)
   apart:=λt i b e1 e2=>by
    by_cases h1:d=t
    ·subst h1;have:=ρ_lt h e2;simp only[g',Zaw,Zan]at e1;omega
    exact h.apart t i b (hβ t b (Ne.symm h1) e1) e2
   own:=h.own
   keep:=h.keep.grow hg
   hist:=h.hist.trans hl}
def ρ_new (h:Rel k n g s a w)(id b:Nat)(hb:(g.ρ++[w.heap.size])[id]?=some b):g.ρ[id]?=some b∨(b=w.heap.size/\id=s.H.length):=by
 rcases Nat.lt_or_ge id g.ρ.length with h1|h2
 ·left;rwa [ZG h1]at hb
 right;rw[ZH h2]at hb;have:id-g.ρ.length=0:=by
  rcases Nat.eq_zero_or_pos (id-g.ρ.length)with h0|h0
  ·exact h0
  rw[ZM (by simp;omega)]at hb;cases hb
 rw[this]at hb;simp at hb;exact⟨hb.symm,by rw[←h.len];omega⟩
def Rel.laterNewG (h:Rel k n g s a w){o:HO}(x:Obj):
  ZbA (cx k g s.H w) (cx k ⟨g.ρ++[w.heap.size],g.β⟩ (s.H++[o]) (w.alloc x)):=by
 have hg:=Grow.alloc w x;have hH:∀(id:Nat) y,s.H[id]?=some y->(s.H++[o])[id]?=some y:=λid y hx=>by
  rw[ZG (List.getElem?_eq_some_iff.1 hx).1];exact hx
 have hρ:∀(id:Nat),id<s.H.length->(g.ρ++[w.heap.size])[id]?=g.ρ[id]?:=λid hid=>by
  rw[ZG (by rw[h.len];exact hid)]
 exact
  {stay:=λa u hk hc=>⟨hg.cell hc,hk.1,hk.2.1,λid e'=>by
    rcases ρ_new h id _ e' with e'|⟨e',_⟩
    ·obtain⟨sz,ver,rows,h1,h2⟩:=hk.2.2 id e';exact⟨sz,ver,rows,hH _ _ h1,h2⟩
    have h0:a.block<w.heap.size:=ZsA hc;omega⟩
   arr:=λid sz ver frz rows e'=>⟨ver,frz,rows,hH _ _ e',Nat.le_refl _,λ_=>⟨Nat.le_refl _,hρ id (List.getElem?_eq_some_iff.1 e').1,λb vs _ hb=>⟨vs,ZoJ hg hb,rfl⟩⟩⟩
   cells:=λid cs e'=>⟨⟨cs,hH _ _ e'⟩,hρ id (List.getElem?_eq_some_iff.1 e').1⟩
   lp:=λid _ _ st e'=>⟨⟨st,hH _ _ e'⟩,hρ id (List.getElem?_eq_some_iff.1 e').1⟩}
def Rel.newObjG (h:Rel k n g s a w){o:HO}(x:Obj)
  (ho:HoR (cx k ⟨g.ρ++[w.heap.size],g.β⟩ (s.H++[o]) (w.alloc x)) w.heap.size o):
  Rel k n ⟨g.ρ++[w.heap.size],g.β⟩ ⟨s.fr,s.bx,s.H++[o]⟩ a (w.alloc x)/\ZbA (cx k g s.H w) (cx k ⟨g.ρ++[w.heap.size],g.β⟩ (s.H++[o]) (w.alloc x)):=by
 have hg:=Grow.alloc w x;have hρ:∀(id:Nat),id<s.H.length->(g.ρ++[w.heap.size])[id]?=g.ρ[id]?:=λid hid=>by
  rw[ZG (by rw[h.len];exact hid)]
 have hρ':=ρ_new h;have hl:=h.laterNewG (o:=o) x;refine⟨?_,hl⟩;exact
  {defers:=h.defers.grow hg
   rnd:=h.rndG hg
   tsz:=h.tsz
   slots:=λt=>ZbP hl (λ_ _ e=>e) (h.tops t) (h.slots t)
   tops:=h.tops
   boxes:=λt cs e=>let ⟨b,hb,hr⟩:=h.boxes t cs e;⟨b,hb,hr.later hl λ_=>Ze5 hg⟩
   boxed:=h.boxed
   heap:=λid y e'=>by
    rcases Nat.lt_or_ge id s.H.length with h1|h2
    ·rw[ZG h1]at e';obtain⟨b,hb,hr⟩:=h.heap id y e';exact⟨b,by show(g.ρ++[w.heap.size])[id]?=_;rw[hρ id h1];exact hb,hr.later hl λ_=>Ze5 hg⟩
    rw[ZH h2]at e';have h0:id-s.H.length=0:=by
     rcases Nat.eq_zero_or_pos (id-s.H.length)with h0|h0
     ·exact h0
     rw[ZM (by simp;omega)]at e';cases e'
    rw[h0]at e';simp at e';subst e';refine⟨w.heap.size,?_,ho⟩;show(g.ρ++[w.heap.size])[id]?=_;rw[ZH (by rw[h.len];exact h2),h.len,h0];rfl
   len:=by simp[h.len]
   inj:=λi j b e1 e2=>by
    rcases hρ' i b e1 with e1|⟨e1,i1⟩<;>rcases hρ' j b e2 with e2|⟨e2,i2⟩
    ·exact h.inj i j b e1 e2
    ·have:=ρ_lt h e1;omega
    ·have:=ρ_lt h e2;omega
    omega
   binj:=h.binj
   apart:=λt i b e1 e2=>by
    rcases hρ' i b e2 with e2|⟨e2,_⟩
    ·exact h.apart t i b e1 e2
    have:=β_lt h e1;omega
   own:=λi b e1=>by
    rcases hρ' i b e1 with e1|⟨e1,_⟩
    ·exact h.own i b e1
    left;rw[e1];exact h.keep.size
   keep:=h.keep.grow hg
   hist:=h.hist.trans hl}
def Rel.laterNew (h:Rel k n g s a w){o:HO}{vs:Array Value}(e:TypeId):
  ZbA (cx k g s.H w) (cx k ⟨g.ρ++[w.heap.size],g.β⟩ (s.H++[o]) (w.alloc (.cells vs e))):=h.laterNewG _
def Rel.newObj (h:Rel k n g s a w){o:HO}{vs:Array Value}(e:TypeId)
  (ho:HoR (cx k ⟨g.ρ++[w.heap.size],g.β⟩ (s.H++[o]) (w.alloc (.cells vs e))) w.heap.size o):
  Rel k n ⟨g.ρ++[w.heap.size],g.β⟩ ⟨s.fr,s.bx,s.H++[o]⟩ a (w.alloc (.cells vs e))/\ZbA (cx k g s.H w) (cx k ⟨g.ρ++[w.heap.size],g.β⟩ (s.H++[o]) (w.alloc (.cells vs e))):=
 h.newObjG _ ho
structure Upd (w w':World) (b:Nat) (vs':Array Value):Prop where
 os:w'.os=w.os
 tape:w'.tape=w.tape
 output:w'.output=w.output
 size:w'.heap.size=w.heap.size
 here:∃e,w'.heap[b]?=some (.cells vs' e (0,0))
 block:∀i,i≠b->w'.heap[i]?=w.heap[i]?
def Upd.setRow {c:Cx}{b:Nat}{vs:Array Value}(h:c.blk b vs)(vs':Array Value):Upd c.w (c.w.setRow b vs') b vs':=by
 obtain⟨e,h⟩:=h;refine⟨rfl,rfl,rfl,by simp,⟨e,setRow_heap c.w b vs vs' e (0,0) h⟩,λi hi=>?_⟩;simp only[World.setRow,Array.getElem?_modify];rw[Zau (Ne.symm hi)]
def Keep.upd {D:Nat->Prop}{w0 w w':World}{b:Nat}{vs':Array Value}(h:Keep D w0 w)(u:Upd w w' b vs')(hb:w0.heap.size<=b∨D b):Keep D w0 w':=
 ⟨u.os.trans h.os,u.tape.trans h.tape,u.output.trans h.output,by rw[u.size];exact h.size,λi hi hD=>by
  rw[u.block i (λe=>by subst e;rcases hb with hb|hb;omega;exact hD hb)];exact h.block i hi hD⟩
def ZuP {H H':List HO}{g g':G}{w w':World}{b':Nat}{vs':Array Value}(h:Upd w w' b' vs'){b:Nat}{vs:Array Value}(h0:b≠b')(hb:(cx k g H w).blk b vs):(cx k g' H' w').blk b vs:=by
 obtain⟨e,hb⟩:=hb;exact⟨e,(h.block b h0).trans hb⟩
def Zsz {w w':World}{b:Nat}{vs':Array Value}(h:Upd w w' b vs'){a:Addr}(h0:a.block≠b):w'.cell? a=w.cell? a:=
 World.cell?_of_block (h.block a.block h0)
def Zky {w w':World}{b':Nat}{vs':Array Value}(h:Upd w w' b' vs'){b:Nat}(h0:b≠b'){o:Obj}(hb:w.heap[b]?=some o):w'.heap[b]?=some o:=
 (h.block b h0).trans hb
def Zq1.upd {H:List HO}{tl:List Deferred}{w0 w w':World}{ds:List Deferred}(h:Zq1 tl w0 w ds){b:Nat}{vs vs':Array Value}(hv:(cx k g H w).blk b vs)(u:Upd w w' b vs'):Zq1 tl w0 w' ds:=
 h.mono λD _ hD=>Zky u (λe=>by obtain⟨e',hv⟩:=hv;subst e;rw[show w.heap[D]?=_ from hv]at hD;cases hD) hD
def Rel.rndU (h:Rel k n g s a w){H:List HO}{w':World}{b:Nat}{vs vs':Array Value}(hv:(cx k g H w).blk b vs)(u:Upd w w' b vs'):∀l,k.rd=some l->∃r,w'.heap[l]?=some (.loop r):=λl hl=>
 let ⟨r,hr⟩:=h.rnd l hl;⟨r,Zky u (λe=>by obtain⟨e',hv⟩:=hv;subst e;rw[show w.heap[l]?=_ from hv]at hr;cases hr) hr⟩
def Rel.setBox (h:Rel k n g s a w){t b:Nat}(hβ:g.β t=some b){vs vs':Array Value}(hv:(cx k g s.H w).blk b vs)(h4:vs'.size=vs.size){w':World}(u:Upd w w' b vs'){cs':List AV}
  (h2:ZaX cs'=true) (hr:VRL (cx k g s.H w) cs' vs'.toList):
  Rel k n g ⟨s.fr,bput s.bx t cs',s.H⟩ a w':=by
 have hl:ZbA (cx k g s.H w) (cx k g s.H w'):=
  {stay:=λa x ho hc=>⟨(Zsz u (λe=>ho.2.1 t (by rw[e];exact hβ))).trans hc,ho⟩
   arr:=λid sz ver frz rows e=>⟨ver,frz,rows,e,Nat.le_refl _,λ_=>⟨Nat.le_refl _,rfl,λb' vs1 h0 h3=>by
    exact⟨vs1,ZuP u (λe=>h.apart t id b hβ (by rw[←e];exact h0)) h3,rfl⟩⟩⟩
   cells:=λid cs e=>⟨⟨cs,e⟩,rfl⟩
   lp:=λ_ _ _ st e=>⟨⟨st,e⟩,rfl⟩}
 exact
  {h with
   defers:=h.defers.upd hv u
   rnd:=h.rndU hv u
   slots:=λt=>ZbP hl (λ_ _ e=>e) (h.tops t) (h.slots t)
   boxes:=λt' cs e=>by
    simp only[Zc5]at e;by_cases he:t=t'
    ·subst he;simp only[Zaw,Zan]at e;subst e;exact⟨b,hβ,h2,vs',u.here,VRL.later hl cs' _ (ZaY h2) hr⟩
    simp only[he,Zat]at e;obtain⟨b',h0,h1⟩:=h.boxes t' cs e;exact⟨b',h0,h1.later hl λ_=>Zky u (λe=>he (h.binj t t' b hβ (by rw[←e];exact h0)))⟩
   boxed:=λt' b' e=>by
    obtain⟨⟨cs,hc⟩,hb⟩:=h.boxed t' b' e;refine⟨?_,hb⟩;by_cases he:t=t'
    ·exact⟨cs',by simp[Zc5,he]⟩
    exact⟨cs,by simp only[Zc5,he,Zat];exact hc⟩
   heap:=λid o e=>by
    obtain⟨b',h0,h1⟩:=h.heap id o e;exact⟨b',h0,h1.later hl λ_=>Zky u (λe=>h.apart t id b hβ (by rw[←e];exact h0))⟩
   keep:=h.keep.upd u (.inl (h.boxed t b hβ).2)
   hist:=h.hist.trans hl}
def Rel.setObj (h:Rel k n g s a w){id b:Nat}(hρ:g.ρ[id]?=some b){o o':HO}(hH:s.H[id]?=some o)
  (h3:(∃cs cs',o=.cells cs/\o'=.cells cs')∨∃sz ver rows rows',o=.arr sz ver false rows/\o'=.arr sz ver false rows'/\rows.length<=rows'.length)
  {vs vs':Array Value} (hv:(cx k g s.H w).blk b vs) (h8:vs'.size=vs.size) {w':World} (u:Upd w w' b vs')
  (hr:ZbA (cx k g s.H w) (cx k g (s.H.set id o') w')->HoR (cx k g (s.H.set id o') w') b o'):
  Rel k n g ⟨s.fr,s.bx,s.H.set id o'⟩ a w':=by
 have hid:id<s.H.length:=(List.getElem?_eq_some_iff.1 hH).1;have h0:∀(j:Nat),(s.H.set id o')[j]?=if id=j then some o' else s.H[j]?:=λj=>by
  rw[ZP];by_cases e:id=j
  ·subst e;simp[hid]
  simp[e]
 have h7:∀(sz ver:Nat) rows,o≠.arr sz ver true rows:=by
  rintro sz ver rows rfl;rcases h3 with⟨cs,cs',e,_⟩|⟨sz',ver',r1,r2,e,_⟩<;>cases e
 have hl:ZbA (cx k g s.H w) (cx k g (s.H.set id o') w'):=
  {stay:=λa x ho hc=>by
    have h9:a.block≠b:=λe=>by
     obtain⟨sz,ver,rows,h1,_⟩:=ho.2.2 id (by rw[e];exact hρ);rw[hH]at h1;cases h1;exact h7 _ _ _ rfl
    refine⟨(Zsz u h9).trans hc,ho.1,ho.2.1,λj hj=>?_⟩;obtain⟨sz,ver,rows,h1,h2⟩:=ho.2.2 j hj;refine⟨sz,ver,rows,?_,h2⟩;show(s.H.set id o')[j]?=_;rw[h0,Zau (λe=>by subst e;rw[hH]at h1;cases h1;exact h7 _ _ _ rfl)];exact h1
   arr:=λj sz ver frz rows e=>by
    by_cases he:id=j
    ·subst he;have e':s.H[id]?=some (.arr sz ver frz rows):=e;rw[hH]at e';cases e';rcases h3 with⟨cs,cs',e,_⟩|⟨sz',ver',r1,r2,e,e2,ha⟩
     ·cases e
     cases e;refine⟨ver,false,r2,?_,Nat.le_refl _,λ_=>⟨ha,rfl,λb' vs1 h4 h6=>?_⟩⟩
     ·show(s.H.set id o')[id]?=_;rw[h0,Zav rfl,e2]
     have eb:b'=b:=by
      have:g.ρ[id]?=some b':=h4;rw[hρ]at this;cases this;rfl
     subst eb;have:vs1=vs:=by
      obtain⟨e1,h1⟩:=h6;obtain⟨e2,h2⟩:=hv;have:=h1.symm.trans h2;simp at this;exact this.1
     subst this;exact⟨vs',u.here,h8⟩
    refine⟨ver,frz,rows,?_,Nat.le_refl _,λ_=>⟨Nat.le_refl _,rfl,λb' vs1 h4 h6=>⟨vs1,?_,rfl⟩⟩⟩
    ·show(s.H.set id o')[j]?=_;rw[h0,Zau he];exact e
    exact ZuP u (λe=>he (h.inj id j b hρ (by rw[←e];exact h4))) h6
   cells:=λj cs e=>by
    refine⟨?_,rfl⟩;by_cases he:id=j
    ·subst he;have e':s.H[id]?=some (.cells cs):=e;rw[hH]at e';cases e';rcases h3 with⟨cs1,cs',e,e2⟩|⟨sz',ver',r1,r2,e,_⟩
     ·exact⟨cs',by show(s.H.set id o')[id]?=_;rw[h0,Zav rfl,e2]⟩
     cases e
    exact⟨cs,by show(s.H.set id o')[j]?=_;rw[h0,Zau he];exact e⟩
   lp:=λj L fr st e=>by
    refine⟨⟨st,?_⟩,rfl⟩;show(s.H.set id o')[j]?=_;rw[h0,Zau (λhe=>by
     subst he;have e':s.H[id]?=some (.lp L fr st):=e;rw[hH]at e';cases e';rcases h3 with⟨cs,cs',e,_⟩|⟨sz',ver',r1,r2,e,_⟩<;>cases e)]
    exact e}
 exact
  {h with
   defers:=h.defers.upd hv u
   rnd:=h.rndU hv u
   slots:=λt=>ZbP hl (λ_ _ e=>e) (h.tops t) (h.slots t)
   boxes:=λt cs e=>by
    obtain⟨b',h4,h5⟩:=h.boxes t cs e;exact⟨b',h4,h5.later hl λ_=>Zky u (λe=>h.apart t id b' h4 (by rw[e];exact hρ))⟩
   heap:=λj x e=>by
    simp only[h0]at e;by_cases he:id=j
    ·subst he;simp only[Zaw,Zan]at e;subst e;exact⟨b,hρ,hr hl⟩
    simp only[he,Zat]at e;obtain⟨b',h4,h5⟩:=h.heap j x e;exact⟨b',h4,h5.later hl λ_=>Zky u (λe=>he (h.inj id j b hρ (by rw[←e];exact h4)))⟩
   len:=by simp[h.len]
   keep:=h.keep.upd u (h.own id b hρ)
   hist:=h.hist.trans hl}
def Rel.freeze (h:Rel k n g s a w){id sz ver:Nat}{frz:Bool}{rows:List (List PC)}(hH:s.H[id]?=some (.arr sz ver frz rows)):
  Rel k n g ⟨s.fr,s.bx,s.H.set id (.arr sz ver true rows)⟩ a w/\ZbA (cx k g s.H w) (cx k g (s.H.set id (.arr sz ver true rows)) w):=by
 have hid:id<s.H.length:=(List.getElem?_eq_some_iff.1 hH).1;have h0:∀(j:Nat),(s.H.set id (.arr sz ver true rows))[j]?=if id=j then some (.arr sz ver true rows)else s.H[j]?:=λj=>by
  rw[ZP];by_cases e:id=j
  ·subst e;simp[hid]
  simp[e]
 have hl:ZbA (cx k g s.H w) (cx k g (s.H.set id (.arr sz ver true rows)) w):=
  {stay:=λa x ho hc=>by
    refine⟨hc,ho.1,ho.2.1,λj hj=>?_⟩;obtain⟨sz1,ver1,rows1,h1,h2⟩:=ho.2.2 j hj;by_cases he:id=j
    ·subst he;rw[hH]at h1;cases h1;exact⟨sz,ver,rows,by rw[h0,Zav rfl],h2⟩
    exact⟨sz1,ver1,rows1,by rw[h0,Zau he];exact h1,h2⟩
   arr:=λj sz1 ver1 frz1 rows1 e=>by
    by_cases he:id=j
    ·subst he;have e':s.H[id]?=some (.arr sz1 ver1 frz1 rows1):=e;rw[hH]at e';cases e';exact⟨ver,true,rows,by show(s.H.set _ _)[_]?=_;rw[h0,Zav rfl],Nat.le_refl _,λ_=>⟨Nat.le_refl _,rfl,λb vs _ hb=>⟨vs,hb,rfl⟩⟩⟩
    exact⟨ver1,frz1,rows1,by show(s.H.set _ _)[_]?=_;rw[h0,Zau he];exact e,Nat.le_refl _,λ_=>⟨Nat.le_refl _,rfl,λb vs _ hb=>⟨vs,hb,rfl⟩⟩⟩
   cells:=λj cs e=>by
    refine⟨⟨cs,?_⟩,rfl⟩;show(s.H.set _ _)[_]?=_;rw[h0,Zau (λhe=>by subst he;have e':s.H[id]?=some (.cells cs):=e;rw[hH]at e';cases e')];exact e
   lp:=λj L fr st e=>by
    refine⟨⟨st,?_⟩,rfl⟩;show(s.H.set _ _)[_]?=_;rw[h0,Zau (λhe=>by subst he;have e':s.H[id]?=some (.lp L fr st):=e;rw[hH]at e';cases e')];exact e}
 refine⟨?_,hl⟩;exact
  {h with
   slots:=λt=>ZbP hl (λ_ _ e=>e) (h.tops t) (h.slots t)
   boxes:=λt cs e=>let ⟨b,hb,hr⟩:=h.boxes t cs e;⟨b,hb,hr.later hl λ_ hb=>hb⟩
   heap:=λj x e=>by
    simp only[h0]at e;by_cases he:id=j
    ·subst he;simp only[Zaw,Zan]at e;subst e;obtain⟨b,hb,hr⟩:=h.heap id _ hH;exact⟨b,hb,ArrR.later hl (λ_ hb=>hb) hr⟩
    simp only[he,Zat]at e;obtain⟨b,hb,hr⟩:=h.heap j x e;exact⟨b,hb,hr.later hl λ_ hb=>hb⟩
   len:=by simp[h.len]
   hist:=h.hist.trans hl}
end
end Go.Eng

namespace Go.Eng
open Go
section
variable {k:K0} {n:Nat} {g:G} {s:St} {a:Act} {w:World}
def ZkF {H:List HO}{id:Nat}{o:HO}(o':HO)(hH:H[id]?=some o)(j:Nat):(H.set id o')[j]?=if id=j then some o' else H[j]?:=by
 have hid:id<H.length:=(List.getElem?_eq_some_iff.1 hH).1;rw[ZP];by_cases e:id=j
 ·subst e;simp[hid]
 simp[e]
def Rel.appendIn (h:Rel k n g s a w){id b sz ver:Nat}{frz:Bool}{rows new:List (List PC)}(hρ:g.ρ[id]?=some b)(hH:s.H[id]?=some (.arr sz ver frz rows))
  {vs vs':Array Value} (hv:(cx k g s.H w).blk b vs) (hg:vs'.size=vs.size) {w':World} (u:Upd w w' b vs')
  (hold:∀j,j<rows.length*sz->vs'[j]?=vs[j]?)
  (hr:ZbA (cx k g s.H w) (cx k g (s.H.set id (.arr sz (ver+1) frz (rows++new))) w')->ArrR (cx k g (s.H.set id (.arr sz (ver+1) frz (rows++new))) w') b sz (rows++new)):
  Rel k n g ⟨s.fr,s.bx,s.H.set id (.arr sz (ver+1) frz (rows++new))⟩ a w':=by
 have h0:=ZkF (.arr sz (ver+1) frz (rows++new)) hH;generalize h8:HO.arr sz (ver+1) frz (rows++new)=o' at*;have hl:ZbA (cx k g s.H w) (cx k g (s.H.set id o') w'):=
  {stay:=λa x ho hc=>by
    refine⟨?_,ho.1,ho.2.1,λj hj=>?_⟩
    ·by_cases h5:a.block=b
     ·obtain⟨sz1,ver1,rows1,h1,h2⟩:=ho.2.2 id (by rw[h5];exact hρ);rw[hH]at h1;cases h1;obtain⟨e1,ha⟩:=hv;obtain⟨e2,h9⟩:=u.here;have h4:w.cell? a=some x:=hc;show w'.cell? a=some x;have h6:w.heap[b]?=some (.cells vs e1 (0,0)):=ha;unfold World.cell? at h4⊢;rw[h5,h6]at h4;rw[h5,h9];simp only at h4⊢;split at h4
      ·cases h4
      rename_i hs;rw[Zau hs,hold _ h2];exact h4
     exact(Zsz u h5).trans hc
    obtain⟨sz1,ver1,rows1,h1,h2⟩:=ho.2.2 j hj;by_cases he:id=j
    ·subst he;rw[hH]at h1;cases h1;refine⟨sz,ver+1,rows++new,?_,?_⟩
     ·rw[h0,Zav rfl,←h8]
     simp only[ZV,Zah];omega
    exact⟨sz1,ver1,rows1,by rw[h0,Zau he];exact h1,h2⟩
   arr:=λj sz1 ver1 frz1 rows1 e=>by
    by_cases he:id=j
    ·subst he;have e':s.H[id]?=some (.arr sz1 ver1 frz1 rows1):=e;rw[hH]at e';cases e';refine⟨ver+1,frz,rows++new,?_,by omega,λe=>by omega⟩;show(s.H.set id o')[id]?=_;rw[h0,Zav rfl,h8]
    refine⟨ver1,frz1,rows1,?_,Nat.le_refl _,λ_=>⟨Nat.le_refl _,rfl,λb' vs1 h3 hf=>⟨vs1,?_,rfl⟩⟩⟩
    ·show(s.H.set id o')[j]?=_;rw[h0,Zau he];exact e
    exact ZuP u (λe=>he (h.inj id j b hρ (by rw[←e];exact h3))) hf
   cells:=λj cs e=>by
    refine⟨⟨cs,?_⟩,rfl⟩;show(s.H.set id o')[j]?=_;rw[h0,Zau (λhe=>by subst he;have e':s.H[id]?=some (.cells cs):=e;rw[hH]at e';cases e')];exact e
   lp:=λj L fr st e=>by
    refine⟨⟨st,?_⟩,rfl⟩;show(s.H.set id o')[j]?=_;rw[h0,Zau (λhe=>by subst he;have e':s.H[id]?=some (.lp L fr st):=e;rw[hH]at e';cases e')];exact e}
 exact
  {h with
   defers:=h.defers.upd hv u
   rnd:=h.rndU hv u
   slots:=λt=>ZbP hl (λ_ _ e=>e) (h.tops t) (h.slots t)
   boxes:=λt cs e=>by
    obtain⟨b',h3,h7⟩:=h.boxes t cs e;exact⟨b',h3,h7.later hl λ_=>Zky u (λe=>h.apart t id b' h3 (by rw[e];exact hρ))⟩
   heap:=λj x e=>by
    simp only[h0]at e;by_cases he:id=j
    ·subst he;simp only[Zaw,Zan]at e;subst e;refine⟨b,hρ,?_⟩;rw[←h8]at hr hl⊢;exact hr hl
    simp only[he,Zat]at e;obtain⟨b',h3,h7⟩:=h.heap j x e;exact⟨b',h3,h7.later hl λ_=>Zky u (λe=>he (h.inj id j b hρ (by rw[←e];exact h3)))⟩
   len:=by simp[h.len]
   keep:=h.keep.upd u (h.own id b hρ)
   hist:=h.hist.trans hl}
def Rel.appendNew (h:Rel k n g s a w){id b sz ver:Nat}{frz:Bool}{rows new:List (List PC)}(hρ:g.ρ[id]?=some b)(hH:s.H[id]?=some (.arr sz ver frz rows))
  {vs:Array Value} (e:TypeId)
  (hr:ZbA (cx k g s.H w) (cx k ⟨g.ρ.set id w.heap.size,g.β⟩ (s.H.set id (.arr sz (ver+1) frz (rows++new))) (w.alloc (.cells vs e)))→
   ArrR (cx k ⟨g.ρ.set id w.heap.size,g.β⟩ (s.H.set id (.arr sz (ver+1) frz (rows++new))) (w.alloc (.cells vs e))) w.heap.size sz (rows++new)):
  Rel k n ⟨g.ρ.set id w.heap.size,g.β⟩ ⟨s.fr,s.bx,s.H.set id (.arr sz (ver+1) frz (rows++new))⟩ a (w.alloc (.cells vs e)):=by
 have h0:=ZkF (.arr sz (ver+1) frz (rows++new)) hH;have hg:=Grow.alloc w (.cells vs e);generalize h6:(⟨g.ρ.set id w.heap.size,g.β⟩:G)=g' at*;generalize h7:HO.arr sz (ver+1) frz (rows++new)=o' at*;generalize h9:w.alloc (.cells vs e)=w' at*;have hid:id<g.ρ.length:=(List.getElem?_eq_some_iff.1 hρ).1;have hβ:g'.β=g.β:=by rw[←h6]
 have hρ':∀(j:Nat),g'.ρ[j]?=if id=j then some w.heap.size else g.ρ[j]?:=λj=>by
  rw[←h6];show(g.ρ.set id w.heap.size)[j]?=_;rw[ZP];by_cases e:id=j
  ·subst e;simp[hid]
  simp[e]
 have hl:ZbA (cx k g s.H w) (cx k g' (s.H.set id o') w'):=
  {stay:=λa x ho hc=>by
    refine⟨hg.cell hc,ho.1,λt=>by rw[hβ];exact ho.2.1 t,λj hj=>?_⟩;rw[hρ']at hj;split at hj
    ·have ha:a.block<w.heap.size:=ZsA hc;simp at hj;omega
    rename_i he;obtain⟨sz1,ver1,rows1,h1,h2⟩:=ho.2.2 j hj;exact⟨sz1,ver1,rows1,by rw[h0,Zau he];exact h1,h2⟩
   arr:=λj sz1 ver1 frz1 rows1 e=>by
    by_cases he:id=j
    ·subst he;have e':s.H[id]?=some (.arr sz1 ver1 frz1 rows1):=e;rw[hH]at e';cases e';refine⟨ver+1,frz,rows++new,?_,by omega,λe=>by omega⟩;show(s.H.set id o')[id]?=_;rw[h0,Zav rfl,h7]
    refine⟨ver1,frz1,rows1,?_,Nat.le_refl _,λ_=>⟨Nat.le_refl _,?_,λb' vs1 h4 h8=>⟨vs1,ZoJ hg h8,rfl⟩⟩⟩
    ·show(s.H.set id o')[j]?=_;rw[h0,Zau he];exact e
    show g'.ρ[j]?=g.ρ[j]?;rw[hρ',Zau he]
   cells:=λj cs e=>by
    have h3:id≠j:=λhe=>by subst he;have e':s.H[id]?=some (.cells cs):=e;rw[hH]at e';cases e'
    refine⟨⟨cs,?_⟩,?_⟩
    ·show(s.H.set id o')[j]?=_;rw[h0,Zau h3];exact e
    show g'.ρ[j]?=g.ρ[j]?;rw[hρ',Zau h3]
   lp:=λj L fr st e=>by
    have h3:id≠j:=λhe=>by subst he;have e':s.H[id]?=some (.lp L fr st):=e;rw[hH]at e';cases e'
    refine⟨⟨st,?_⟩,?_⟩
    ·show(s.H.set id o')[j]?=_;rw[h0,Zau h3];exact e
    show g'.ρ[j]?=g.ρ[j]?;rw[hρ',Zau h3]}
 exact
  {defers:=h.defers.grow hg
   rnd:=h.rndG hg
   tsz:=h.tsz
   slots:=λt=>ZbP hl (λ_ _ e=>by rw[cx_β,hβ]at e;exact e) (h.tops t) (h.slots t)
   tops:=h.tops
   boxes:=λt cs e=>by
    obtain⟨b',h4,h5⟩:=h.boxes t cs e;exact⟨b',by rw[hβ];exact h4,h5.later hl λ_=>Ze5 hg⟩
   boxed:=λt b e=>h.boxed t b (by rw[←hβ];exact e)
   heap:=λj x e=>by
    simp only[h0]at e;by_cases he:id=j
    ·subst he;simp only[Zaw,Zan]at e;subst e;refine⟨w.heap.size,by rw[hρ',Zav rfl],?_⟩;rw[←h7]at hr hl⊢;exact hr hl
    simp only[he,Zat]at e;obtain⟨b',h4,h5⟩:=h.heap j x e;exact⟨b',by rw[hρ',Zau he];exact h4,h5.later hl λ_=>Ze5 hg⟩
   len:=by rw[←h6];simp[h.len]
   inj:=λi j b' e1 e2=>by
    rw[hρ']at e1 e2;by_cases h1:id=i<;>by_cases h2:id=j
    ·omega
    ·rw[Zav h1]at e1;rw[Zau h2]at e2;have:=ρ_lt h e2;simp at e1;omega
    ·rw[Zau h1]at e1;rw[Zav h2]at e2;have:=ρ_lt h e1;simp at e2;omega
    rw[Zau h1]at e1;rw[Zau h2]at e2;exact h.inj i j b' e1 e2
   binj:=λt u b' e1 e2=>by rw[hβ]at e1 e2;exact h.binj t u b' e1 e2
   apart:=λt i b' e1 e2=>by
    rw[hβ]at e1;rw[hρ']at e2;split at e2
    ·have:=β_lt h e1;simp at e2;omega
    exact h.apart t i b' e1 e2
   own:=λi b' e1=>by
    rw[hρ']at e1;split at e1
    ·left;have:=h.keep.size;simp at e1;omega
    exact h.own i b' e1
   keep:=h.keep.grow hg
   hist:=h.hist.trans hl}
end
end Go.Eng

namespace Go.Eng
open Go
def Znw:Value->AV->Bool
 |.int k n,.p (.int k' n')=>decide (k=k')&&decide (n=n')
 |.bool b,.p (.bool b')=>b==b'
 |.slice none 0 0,.p (.sl _ _ [])=>true
 |.slice none 0 0,.nl .nilSl=>true
 |.nilFunc,.nl .nilFunc=>true
 |.nilIface,.nl .nilIface=>true
 |.pointer none,.nl .nilPtr=>true
 |.map none,.nl .nilMap=>true
 |_,_=>false
def Zg7:List Value->List AV->Bool
 |[],[]=>true
 |v::vs,a::as=>Znw v a&&Zg7 vs as
 |_,_=>false
def ZeW:Operand->IX->Bool
 |.tmp t,.t u=>decide (t=u)
 |.const v,.k a=>Znw v a
 |.func f,.k (.fn f' [] [])=>decide (f=f')
 |_,_=>false
def Zbf:List Operand->List IX->Bool
 |[],[]=>true
 |x::xs,y::ys=>ZeW x y&&Zbf xs ys
 |_,_=>false
def ZdA (P:Program)(t:TypeId)(n:Nat):Bool:=match P.info? t with
 |some i=>decide (i.size=n)
 |none=>false
def ZsF (P:Program)(t:TypeId)(b:Bool):Bool:=match P.underlying t with
 |some (.struct _)=>b
 |some (.array ..)=>b
 |some _=>!b
 |none=>false
def Zfz (P:Program)(t:TypeId):List (Nat×Operand)->List (Nat×Nat)->Bool
 |[],[]=>true
 |(i,_)::r,(off,n)::r'=>(match P.underlying t with
   |some (.struct fs)=>(match fs[i]? with
    |some f=>decide (f.offset=off)&&ZdA P f.type n
    |none=>false)
   |some (.array _ e)=>ZdA P e n&&decide (off=i*n)
   |_=>false)&&Zfz P t r r'
 |_,_=>false
def Zj5 (P:Program)(t:TypeId)(z:List AV):Bool:=match P.info? t with
 |some i=>(match i.zero with
  |some v=>Zg7 v.cells.toList z
  |none=>false)
 |none=>false
def ZjN (P:Program)(t:TypeId):Bool:=match P.underlying t with
 |some (.struct fs)=>fs.all λf=>(P.info? f.type).isSome
 |some (.array _ e)=>(P.info? e).isSome
 |_=>false
def ZoC (lo hi mx:Option Operand):List Operand:=lo.toList++hi.toList++mx.toList
def Zd8 (P:Program):Nat->List Field->List Bool->Bool
 |_,[],[]=>true
 | off,f::fs,k::ks => !(f.name == "_")&&decide (f.offset=off)&&(match P.underlying f.type,k with
  |some (.int _),true=>true
  |some .bool,false=>true
  |_,_=>false)&&Zd8 P (off+1) fs ks
 |_,_,_=>false
def eqOK (P:Program)(t:TypeId)(ks:List Bool):Bool:=(match P.underlying t with
 |some (.struct fs)=>Zd8 P 0 fs.toList ks
 |_=>false)&&!P.stoodInHeld t&&!P.eqGuardType P.depth t
def chkV (P:Program)(n:Nat)(o:Oper)(d:Nat)(v:VI)(xs:List IX):Bool:=
 decide (o.dst=some d)&&decide (d<n)&&match v with
 |.mov=>(match o.op with
  |.move x=>Zbf [x] xs
  |.assign x=>Zbf [x] xs
  |_=>false)
 |.bin op=>(match o.op with
  |.binOp op' _ x y _=>decide (op=op')&&Zbf [x,y] xs
  |_=>false)
 |.sh op=>(match o.op with
  |.binOp op' _ x y _=>decide (op=op')&&Zbf [x,y] xs
  |_=>false)
 |.eqB neg=>(match o.op with
  |.binOp op t x y _=>decide (op=if neg then .neq else .eql)&&(match P.underlying t with|some .bool=>true|_=>false)&&Zbf [x,y] xs
  |_=>false)
 |.eqS neg ks=>(match o.op with
  |.binOp op t x y _=>decide (op=if neg then .neq else .eql)&&eqOK P t ks&&Zbf [x,y] xs
  |_=>false)
 |.not=>(match o.op with
  |.unOp .not _ x=>Zbf [x] xs
  |_=>false)
 |.neg=>(match o.op with
  |.unOp .neg _ x=>Zbf [x] xs
  |_=>false)
 |.conv k=>(match o.op with
  |.convert src dst x=>(P.underlying src).isSome&&(match P.underlying dst with|some (.int k')=>decide (k=k')|_=>false)&&Zbf [x] xs
  |_=>false)
 |.pick=>(match o.op with
  |.pick c a b=>Zbf [c,a,b] xs
  |_=>false)
 |.faddr off=>(match o.op with
  |.fieldAddr s x f=>(match P.underlying s with
   |some (.struct fs)=>(match fs[f]? with
    |some fl=>decide (fl.offset=off)&&(match P.info? fl.type with|some i=>decide (i.size≠0)|none=>false)
    |none=>false)
   |_=>false)&&Zbf [x] xs
  |_=>false)
 |.iaddr m sz=>(match o.op with
  |.indexAddr t x i=>(match P.underlying t with
   |some (.array m' e)=>decide (m=m')&&ZdA P e sz
   |_=>false)&&Zbf [x,i] xs
  |_=>false)
 |.iaddrS sz=>(match o.op with
  |.indexAddr t x i=>(match P.underlying t with
   |some (.slice e)=>ZdA P e sz
   |_=>false)&&Zbf [x,i] xs
  |_=>false)
 |.idx m sz isAgg=>(match o.op with
  |.index t x i=>(match P.underlying t with
   |some (.array m' e)=>decide (m=m')&&ZdA P e sz&&ZsF P e isAgg
   |_=>false)&&Zbf [x,i] xs
  |_=>false)
 |.fld off m isAgg=>(match o.op with
  |.field t x f=>(match P.underlying t with
   |some (.struct fs)=>(match fs[f]? with
    |some fl=>decide (fl.offset=off)&&ZdA P fl.type m&&ZsF P fl.type isAgg
    |none=>false)
   |_=>false)&&Zbf [x] xs
  |_=>false)
 |.build zero parts=>(match o.op with
  |.build t ps=>Zj5 P t zero&&Zfz P t ps.toList parts&&ZjN P t&&Zbf (ps.toList.map (·.2)) xs
  |_=>false)
 |.len=>(match o.op with
  |.call {callee:=.builtin .len,args:=args,argTypes:=ts}=>(match ts.toList with
   |[t]=>(match P.underlying t with|some (.slice _)=>true|_=>false)
   |_=>false)&&Zbf args.toList xs&&decide (xs.length=1)
  |_=>false)
 |.lenA m=>(match o.op with
  |.call {callee:=.builtin .len,args:=args,argTypes:=ts}=>(match ts.toList with
   |[t]=>(match P.underlying t with|some (.array m' _)=>decide (m=m')|_=>false)
   |_=>false)&&Zbf args.toList xs&&decide (xs.length=1)
  |_=>false)
 |.ext i=>(match o.op with
  |.extract x i'=>decide (i=i')&&Zbf [x] xs
  |_=>false)
 |.mkfn f nf=>(match o.op with
  |.makeFunc (.func f') first cap=>decide (f=f')&&decide (first.size=nf)&&Zbf (first.toList++cap.toList) xs
  |_=>false)
 |.min=>(match o.op with
  |.call {callee:=.builtin .min,args:=args,argTypes:=_}=>Zbf args.toList xs
  |_=>false)
 |.max=>(match o.op with
  |.call {callee:=.builtin .max,args:=args,argTypes:=_}=>Zbf args.toList xs
  |_=>false)
 |.slice sz lo hi mx=>(match o.op with
  |.slice t x l h m=>(match P.underlying t with
   |some (.slice e)=>ZdA P e sz
   |_=>false)&&decide (l.isSome=lo)&&decide (h.isSome=hi)&&decide (m.isSome=mx)&&Zbf (x::ZoC l h m) xs
  |_=>false)
 |.nilChk=>(match o.op with
  |.nilCheck x=>Zbf [x] xs
  |_=>false)
 |.isNil neg=>(match o.op with
  |.binOp op t x (.const (.slice none _ _)) _=>decide (op=if neg then .neq else .eql)&&(match P.underlying t with|some (.slice _)=>true|_=>false)&&Zbf [x] xs
  |_=>false)
def Zk4 {c:Cx}{v:Value}{a:AV}(h:Znw v a=true):VR c a v/\ZdX a=true:=by
 unfold Znw at h;split at h
 ·simp only[Ze,Zas]at h;obtain⟨rfl,rfl⟩:=h;exact⟨by rw[VR,PR],rfl⟩
 ·simp only[beq_iff_eq]at h;subst h;exact⟨by rw[VR,PR],rfl⟩
 ·exact⟨by rw[VR,PR];exact⟨none,0,rfl,by simp,by simp,by simp⟩,rfl⟩
 ·exact⟨by rw[VR];rfl,rfl⟩
 ·exact⟨by rw[VR];rfl,rfl⟩
 ·exact⟨by rw[VR];rfl,rfl⟩
 ·exact⟨by rw[VR];rfl,rfl⟩
 ·exact⟨by rw[VR];rfl,rfl⟩
 cases h
def Zgv {c:Cx}:∀{vs:List Value} {as:List AV},Zg7 vs as=true->VRL c as vs/\ZaX as=true
 |[],[],_=>⟨by rw[VRL],rfl⟩
 |v::vs,a::as,h=>by
  simp only[Zg7,Ze]at h;obtain⟨h1,h2⟩:=Zk4 (c:=c) h.1;obtain⟨h3,h4⟩:=Zgv (c:=c) h.2;exact⟨by rw[VRL];exact⟨v,vs,rfl,h1,h3⟩,by simp[ZaX,h2,h4]⟩
 |[],_::_,h=>by simp[Zg7]at h
 |_::_,[],h=>by simp[Zg7]at h
def ZmJ:∀{vs:List Value} {ps:List PC},Zg7 vs (ps.map .p)=true->Znl ps=true
 |_,[],_=>rfl
 |[],_::_,h=>by simp[Zg7]at h
 |v::vs,p::ps,h=>by
  simp only[Z3,Zg7,Ze]at h;rw[Znl,ZmJ h.2];cases p with
  |ow sz id ver len=>have:=h.1;unfold Znw at this;split at this<;>simp_all
  |_=>rfl
theorem Zcs {k:K0}{n:Nat}{g:G}{s:St}{a:Act}{w:World}(h:Rel k n g s a w){X:Operand}{x:IX}(hm:ZeW X x=true):
  VR (cx k g s.H w) (ev s.fr x) (a.eval X):=by
 unfold ZeW at hm;split at hm
 ·simp only[Zas]at hm;subst hm;exact h.slots _
 ·exact(Zk4 hm).1
 ·simp only[Zas]at hm;subst hm;show VR _ (AV.fn _ [] []) _;rw[VR];exact⟨[],[],rfl,by rw[VRL],by rw[VRL]⟩
 cases hm
def Zno {k:K0}{n:Nat}{g:G}{s:St}{a:Act}{w:World}(h:Rel k n g s a w){X:Operand}{x:IX}(hm:ZeW X x=true):top (ev s.fr x)=true:=by
 unfold ZeW at hm;split at hm
 ·exact h.tops _
 ·have:=Zkz (Zk4 (c:=cx k g s.H w) hm).2;rename_i v a';show top a'=true;cases a'<;>first|rfl|simpa[top]using this
 ·rfl
 cases hm
def Za5 {k:K0}{n:Nat}{g:G}{s:St}{a:Act}{w:World}(h:Rel k n g s a w):∀{Xs:List Operand} {xs:List IX},Zbf Xs xs=true→
  VRL (cx k g s.H w) (xs.map (ev s.fr)) (Xs.map a.eval)
 |[],[],_=>by simp[VRL]
 |X::Xs,x::xs,hm=>by
  simp only[Zbf,Ze]at hm;simp only[Z3];rw[VRL];exact⟨_,_,rfl,Zcs h hm.1,Za5 h hm.2⟩
 |[],_::_,h=>by simp[Zbf]at h
 |_::_,[],h=>by simp[Zbf]at h
def Zco {k:K0}{n:Nat}{g:G}{s:St}{a:Act}{w:World}(h:Rel k n g s a w):∀{Xs:List Operand} {xs:List IX},Zbf Xs xs=true→
  ∀v∈xs.map (ev s.fr),top v=true
 |[],[],_=>by simp
 |X::Xs,x::xs,hm=>by
  simp only[Zbf,Ze]at hm;intro v hv;simp only[Z3,List.mem_cons]at hv;rcases hv with rfl|hv
  ·exact Zno h hm.1
  exact Zco h hm.2 v hv
 |[],_::_,h=>by simp[Zbf]at h
 |_::_,[],h=>by simp[Zbf]at h
def ZfH {c:Cx}{x:AV}{vs:List Value}(h:VRL c [x] vs):∃v,vs=[v]/\VR c x v:=by
 rw[VRL]at h;obtain⟨u,us,rfl,h1,h2⟩:=h;rw[VRL]at h2;subst h2;exact⟨u,rfl,h1⟩
def ZgF {c:Cx}{x y:AV}{vs:List Value}(h:VRL c [x,y] vs):∃v u,vs=[v,u]/\VR c x v/\VR c y u:=by
 rw[VRL]at h;obtain⟨u,us,rfl,h1,h2⟩:=h;obtain⟨v,rfl,h3⟩:=ZfH h2;exact⟨u,v,rfl,h1,h3⟩
def ZmP {c:Cx}{x y z:AV}{vs:List Value}(h:VRL c [x,y,z] vs):∃v u t,vs=[v,u,t]/\VR c x v/\VR c y u/\VR c z t:=by
 rw[VRL]at h;obtain⟨u,us,rfl,h1,h2⟩:=h;obtain⟨v,t,rfl,h3,h4⟩:=ZgF h2;exact⟨u,v,t,rfl,h1,h3,h4⟩
def Zc8 {c:Cx}{k:IntKind}{n:Int}{v:Value}(h:VR c (.p (.int k n)) v):v=.int k n:=by rw[VR,PR]at h;exact h
def ZnA {c:Cx}{b:Bool}{v:Value}(h:VR c (.p (.bool b)) v):v=.bool b:=by rw[VR,PR]at h;exact h
def Zev {c:Cx}(k:IntKind)(n:Int):VR c (.p (.int k n)) (.int k n):=by rw[VR,PR]
def ZeL {c:Cx}(b:Bool):VR c (.p (.bool b)) (.bool b):=by rw[VR,PR]
def Zyk {P:Program}{w:World}{op:BinOp}{k:IntKind}{a b:Int}{r:PC}{t:TypeId}(h:binI op k a b=some r):
  ∃u,(binOp op t (.int k a) (.int k b)).run P w=.ok u w/\∀c:Cx,VR c (.p r) u:=by
 unfold binI at h;split at h<;>(try split at h)<;>first
  |cases h;done
  |(simp only[Zan]at h;subst h;simp_all[binOp,Op.intArith,Op.intDiv,Op.intBits,Op.intCmp,VR,PR])
def ZzQ {P:Program}{w:World}{op:BinOp}{k k':IntKind}{a b:Int}{r:PC}{t:TypeId}(h:shI op k a b=some r):
  ∃u,(binOp op t (.int k a) (.int k' b)).run P w=.ok u w/\∀c:Cx,VR c (.p r) u:=by
 unfold shI at h;split at h
 ·cases h
 rename_i hb;split at h<;>first
  |cases h;done
  |(simp only[Zan]at h;subst h;simp only[binOp,Op.shift,hb,Zat,Sem.run_pure];exact⟨_,rfl,λc=>by rw[VR,PR]⟩)
def Zt9 {c:Cx}{o:Nat}{x r:AV}{v:Value}(h:Zn6 o x=some r)(hv:VR c x v):∃a,v=.pointer (some a)/\VR c r (.pointer (some (a.add o))):=by
 unfold Zn6 at h;split at h<;>first|(cases h;done)|(simp only[Zan]at h;subst h)
 ·rw[VR]at hv;obtain⟨b,rfl,hb⟩:=hv;exact⟨_,rfl,by rw[VR];exact⟨b,by rw[ZgK],hb⟩⟩
 ·rw[VR]at hv;obtain⟨cs,b,h1,h2,rfl⟩:=hv;exact⟨_,rfl,by rw[VR];exact⟨cs,b,h1,h2,by rw[ZgK]⟩⟩
 ·rw[VR]at hv;obtain⟨ver0,frz,rows,b,h1,h2,rfl,h3⟩:=hv;exact⟨_,rfl,by rw[VR];exact⟨ver0,frz,rows,b,h1,h2,by rw[ZgK,Zag],h3⟩⟩
 rw[VR]at hv;obtain⟨a,rfl,h1⟩:=hv;exact⟨_,rfl,by rw[VR];exact⟨a,by rw[ZfG,Zag],h1⟩⟩
theorem Zk7 {o:Nat}{x r:AV}(h:Zn6 o x=some r):top r=true:=by
 unfold Zn6 at h;split at h<;>first|(cases h;done)|(simp only[Zan]at h;subst h;rfl)
def ZnB {c:Cx}{cs:List AV}{vs:List Value}(h:VRL c cs vs)(off m:Nat):VRL c ((cs.drop off).take m) ((vs.drop off).take m):=by
 have hl:=h.length;rw[Zew]at h⊢;refine⟨by simp[hl],λj x u hj hu=>?_⟩;rw[ZS]at hj hu;split at hj
 ·rename_i h0;rw[Zav h0]at hu;rw[ZK]at hj hu;exact h.2 _ x u hj hu
 cases hj
def ZiU {c:Cx}{xs ys:List AV}{us vs:List Value}(h:VRL c xs us)(h':VRL c ys vs):VRL c (xs++ys) (us++vs):=by
 have hl:=h.length;have h1:=h'.length;rw[Zew]at h h'⊢;refine⟨by simp[hl,h1],λj x u hj hu=>?_⟩;by_cases h0:j<xs.length
 ·rw[ZG h0]at hj;rw[ZG (by omega)]at hu;exact h.2 j x u hj hu
 rw[ZH (by omega)]at hj;rw[ZH (by omega),hl]at hu;exact h'.2 _ x u hj hu
def ZvA {c:Cx}{cs:List AV}{vs:List Value}(h:VRL c cs vs)(m:Nat):VRL c (cs.take m) (vs.take m):=by
 simpa using ZnB h 0 m
def ZvB {c:Cx}{cs:List AV}{vs:List Value}(h:VRL c cs vs)(m:Nat):VRL c (cs.drop m) (vs.drop m):=by
 have:=ZnB h m (cs.length-m);rw[Zae (by simp)]at this
 rwa [Zae (by simp[h.length])]at this
def ZnC {c:Cx}{cs l l':List AV}{us vs:List Value}{off:Nat}(hs:Zb3 off cs l=some l')(h:VRL c cs us)(h':VRL c l vs):
  VRL c l' (vs.take off++us++vs.drop (off+us.length)):=by
 unfold Zb3 at hs;split at hs
 ·simp only[Zan]at hs;subst hs;rw[h.length];exact ZiU (ZiU (ZvA h' off) h) (ZvB h' _)
 cases hs
def ZqU {xs ys:List AV}:ZaX (xs++ys)=(ZaX xs&&ZaX ys):=by
 induction xs with
 |nil=>simp[ZaX]
 |cons x xs ih=>simp[ZaX,ih,Bool.and_assoc]
def Zty {xs:List AV}(h:ZaX xs=true)(m:Nat):ZaX (xs.take m)=true:=by
 rw[ZpM]at h⊢;exact λx hx=>h x (List.mem_of_mem_take hx)
def Ztz {xs:List AV}(h:ZaX xs=true)(m:Nat):ZaX (xs.drop m)=true:=by
 rw[ZpM]at h⊢;exact λx hx=>h x (List.mem_of_mem_drop hx)
def ZeV {cs l l':List AV}{off:Nat}(hs:Zb3 off cs l=some l')(h:ZaX cs=true)(h':ZaX l=true):ZaX l'=true:=by
 unfold Zb3 at hs;split at hs
 ·simp only[Zan]at hs;subst hs;simp[ZqU,Zty h',Ztz h',h]
 cases hs
def ZyK {c:Cx}{isAgg:Bool}{cs:List AV}{vs:List Value}{r:AV}(h:mk isAgg cs=some r)(hv:VRL c cs vs):
  VR c r (if isAgg then .agg vs.toArray else vs.getD 0 undef):=by
 unfold mk at h;split at h
 ·rename_i hb;simp only[Zan]at h;subst h;rw[Zav hb,VR];exact⟨vs,rfl,hv⟩
 rename_i hb;rw[Zau hb];split at h
 ·simp only[Zan]at h;subst h;obtain⟨v,rfl,h⟩:=ZfH hv;exact h
 cases h
theorem ZlD {isAgg:Bool}{cs:List AV}{r:AV}(h:mk isAgg cs=some r)(hn:noLocL cs=true):Za7 r=true:=by
 unfold mk at h;split at h
 ·simp only[Zan]at h;subst h;simpa[Za7]using hn
 split at h
 ·simp only[Zan]at h;subst h;simpa[Za7.noLocL]using hn
 cases h
theorem ZcA {xs:List AV}:noLocL xs=true↔∀x∈xs,Za7 x=true:=by
 induction xs with
 |nil=>simp[Za7.noLocL]
 |cons y ys ih=>simp[Za7.noLocL,ih]
theorem Zhd {xs r:List AV}{off m:Nat}(h:noLocL xs=true)(hs:sub off m xs=some r):noLocL r=true:=by
 unfold sub at hs;split at hs
 ·simp only[Zan]at hs;subst hs;rw[ZcA]at h⊢;exact λx hx=>h x (List.mem_of_mem_drop (List.mem_of_mem_take hx))
 cases hs
theorem Za1 {x:AV}(h:Za7 x=true):top x=true:=by
 cases x<;>first|rfl|simpa[top]using h
def Zdq {P:Program}{w:World}{t:TypeId}{n:Nat}(h:ZdA P t n=true):(sizeOf t).run P w=.ok n w:=by
 unfold ZdA at h;split at h
 ·rename_i i hi;simp only[Zas]at h;simp[sizeOf,typeInfo,hi,h]
 cases h
def Zs7 {P:Program}{w:World}{t:TypeId}{b:Bool}(h:ZsF P t b=true):(isAgg t).run P w=.ok b w:=by
 unfold ZsF at h;split at h
 ·rename_i hu;simp[isAgg,run_underlying hu,h]
 ·rename_i hu;simp[isAgg,run_underlying hu,h]
 ·rename_i d h1 h2 hu;simp only[Zh]at h;subst h;unfold isAgg;simp only[Sem.run_bind,run_underlying hu,Result.andThen_ok];rfl
 cases h
def Zu5 {P:Program}{w:World}{t:TypeId}{off m:Nat}{isA:Bool}{cs:List Value}(h1:ZdA P t m=true)(h2:ZsF P t isA=true)(h3:off+m<=cs.length)(hm:isA=false->m=1):
  (part t cs.toArray off).run P w=.ok (if isA then .agg ((cs.drop off).take m).toArray else((cs.drop off).take m).getD 0 undef) w:=by
 unfold part;simp only[Sem.run_bind,Zs7 h2,Result.andThen_ok];cases isA with
 |true=>
  simp only[Zaw,Sem.run_bind,Zdq h1,Result.andThen_ok,Sem.run_pure]
  congr 2
  apply Array.ext';simp[List.extract_eq_take_drop]
 |false=>
  have hm:=hm rfl;subst hm;have h0:off<cs.length:=by omega
  simp[h0,List.getD,ZS,ZK]
end Go.Eng

namespace Go.Eng
open Go
def Zp1 (off:Nat):∀(vs:List Value) (i:Nat) (cells:Array Value),off+i+vs.length<=cells.size→
  ((vs.zipIdx i).foldl (λcs (p:Value×Nat)=>cs.setIfInBounds (off+p.2) p.1) cells).toList=cells.toList.take (off+i)++vs++cells.toList.drop (off+i+vs.length)
 |[],i,cells,_=>by simp
 |v::vs,i,cells,h=>by
  simp only[List.zipIdx_cons,ZE];rw[Zp1 off vs (i+1) _ (by simp at h⊢;omega)];have e:=list_seg_step cells.toList (off+i) v vs (by simp at h⊢;omega);simpa[Array.toList_setIfInBounds,Zag]using e
def ZrX {c:Cx}{place:Nat->Option (Nat×Nat)}:∀(ps:List (Nat×Operand)) (parts:List (Nat×Nat)) (xs:List AV) (us:List Value) (cells:Array Value) (cs out:List AV),
  VRL c xs us->VRL c cs cells.toList->ZaX cs=true->Zc3 cs parts xs=some out->(∀(i:Nat) (p:Nat×Operand),ps[i]?=some p->place p.1=parts[i]?)->ps.length=us.length→
  ∃arr,Instr.fill place cells ((ps.map (·.1)).zip us)=some arr/\VRL c out arr.toList/\ZaX out=true
 |[],parts,xs,us,cells,cs,out,hx,hc,h3,hf,hp,hl=>by
  cases us with
  |cons=>simp at hl
  |nil=>
   have he:xs=[]:=by have:=hx.length;simp at this;exact List.eq_nil_of_length_eq_zero this.symm
   subst he;cases parts with
   |nil=>simp only[Zc3,Zan]at hf;subst hf;exact⟨cells,rfl,hc,h3⟩
   |cons=>simp[Zc3]at hf
 |p::ps,parts,xs,us,cells,cs,out,hx,hc,h3,hf,hp,hl=>by
  cases us with
  |nil=>simp at hl
  |cons u us=>
   cases xs with
   |nil=>have:=hx.length;simp at this
   |cons x xs=>
    rw[VRL]at hx;obtain⟨u',us',e,h9,h8⟩:=hx;cases e;cases parts with
    |nil=>simp[Zc3]at hf
    |cons q parts=>
     obtain⟨off,m⟩:=q;simp only[Zc3]at hf;split at hf
     ·rename_i h0;cases hs:Zb3 off (cellsOf x) cs with
      |none=>simp[hs]at hf
      |some cs'=>
       simp only[hs,Zak]at hf;have h6:=hp 0 p rfl;simp at h6;have h7:=ZhH h0.2 h9;have h4:=h7.length;simp only[Zd]at h4;have hg:=hc.length;simp only[Zd]at hg;have hh:off+(cellsOf x).length<=cs.length:=by
        unfold Zb3 at hs;split at hs
        ·assumption
        cases hs
       have h2:=Zp1 off u.cells.toList 0 cells (by simp;omega);have h1:(u.cells.zipIdx.foldl (λcs (p:Value×Nat)=>cs.setIfInBounds (off+p.2) p.1) cells).toList=cells.toList.take off++u.cells.toList++cells.toList.drop (off+u.cells.toList.length):=by
        rw[←Array.foldl_toList,Array.toList_zipIdx];simpa using h2
       have h5:=ZnC hs h7 hc;rw[←h1]at h5;obtain⟨arr,ha,hb,hd⟩:=ZrX ps parts xs us _ cs' out h8 h5 (ZeV hs h0.2 h3) hf (λi q hq=>by simpa using hp (i+1) q (by simpa using hq)) (by simpa using hl);refine⟨arr,?_,hb,hd⟩;simp only[Z3,List.zip_cons_cons,Instr.fill,h6];rw[Zau (by simp;omega)];exact ha
     cases hf
def ZuD {P:Program}{w:World}(fs:Array Field)(h:(fs.all λf=>(P.info? f.type).isSome)=true):
  (fs.mapM (m:=Sem) λf=>do pure (f.offset,←sizeOf f.type)).run P w=.ok (fs.map λf=>(f.offset,P.cellsOf f.type)) w:=by
 rw[←Array.toArray_toList (xs:=fs)]at h⊢;simp only[List.all_toArray,Zu]at h;rw[List.mapM_toArray];have key:∀l:List Field,(∀f∈l,(P.info? f.type).isSome=true)->(l.mapM (m:=Sem) λf=>do pure (f.offset,←sizeOf f.type)).run P w=.ok (l.map λf=>(f.offset,P.cellsOf f.type)) w:=by
  intro l;induction l with
  |nil=>intro _;rfl
  |cons f l ih=>
   intro h;have h1:=h f (by simp);obtain⟨i,hi⟩:=Option.isSome_iff_exists.1 h1;have h2:(sizeOf f.type).run P w=.ok (P.cellsOf f.type) w:=by simp[sizeOf,typeInfo,hi,Program.cellsOf]
   rw[List.mapM_cons];simp only[Sem.run_bind,h2,Result.andThen_ok,Sem.run_pure,ih (λx hx=>h x (by simp[hx]))];rfl
 rw[Sem.run_map,key _ h];simp only[Result.andThen_ok]
 congr 1
 apply Array.ext';simp
def Zn4 {P:Program}{t:TypeId}{n:Nat}(h:ZdA P t n=true):P.cellsOf t=n:=by
 unfold ZdA at h;split at h
 ·rename_i i hi;simp only[Zas]at h;simp[Program.cellsOf,hi,h]
 cases h
def ZnV {P:Program}{t:TypeId}{fs:Array Field}(ht:P.underlying t=some (.struct fs)):∀{ps:List (Nat×Operand)} {parts:List (Nat×Nat)},Zfz P t ps parts=true→
  ∀(i:Nat) (p:Nat×Operand),ps[i]?=some p->(fs.map λf=>(f.offset,P.cellsOf f.type))[p.1]?=parts[i]?
 |[],[],_,i,p,hp=>by simp at hp
 |(j,X)::ps,(off,m)::parts,h,i,p,hp=>by
  simp only[Zfz,ht,Ze]at h;cases i with
  |zero=>
   simp at hp;subst hp;simp only[ZJ];have h1:=h.1;split at h1
   ·rename_i f hf;simp only[Ze,Zas]at h1;simp[hf,h1.1,Zn4 h1.2]
   cases h1
  |succ i=>simpa using ZnV ht h.2 i p (by simpa using hp)
 |[],_::_,h,_,_,_=>by simp[Zfz]at h
 |_::_,[],h,_,_,_=>by simp[Zfz]at h
def ZnW {P:Program}{t:TypeId}{m0:Nat}{e:TypeId}(ht:P.underlying t=some (.array m0 e)):∀{ps:List (Nat×Operand)} {parts:List (Nat×Nat)},Zfz P t ps parts=true→
  ∀(i:Nat) (p:Nat×Operand),ps[i]?=some p->some (p.1*P.cellsOf e,P.cellsOf e)=parts[i]?
 |[],[],_,i,p,hp=>by simp at hp
 |(j,X)::ps,(off,m)::parts,h,i,p,hp=>by
  simp only[Zfz,ht,Ze,Zas]at h;cases i with
  |zero=>
   simp at hp;subst hp;simp only[ZJ];rw[Zn4 h.1.1,h.1.2]
  |succ i=>simpa using ZnW ht h.2 i p (by simpa using hp)
 |[],_::_,h,_,_,_=>by simp[Zfz]at h
 |_::_,[],h,_,_,_=>by simp[Zfz]at h
def ZmR {P:Program}{t:TypeId}{z:List AV}(h:Zj5 P t z=true)(c:Cx)(w:World):∃v,(zeroValue t).run P w=.ok v w/\VRL c z v.cells.toList/\ZaX z=true:=by
 unfold Zj5 at h;split at h
 ·rename_i i hi;split at h
  ·rename_i v hz;refine⟨v,by simp[zeroValue,typeInfo,hi,hz],Zgv h⟩
  cases h
 cases h
def Zs9 {P:Program}{c:Cx}{w:World}{t:TypeId}{ps:Array (Nat×Operand)}{zero:List AV}{parts:List (Nat×Nat)}{xs out:List AV}{ρ:Operand->Value}
  (h1:Zj5 P t zero=true) (h2:Zfz P t ps.toList parts=true) (h3:ZjN P t=true) (hx:VRL c xs (ps.toList.map λp=>ρ p.2)) (hf:Zc3 zero parts xs=some out):
  ∃u,(Instr.build t (ps.map λ(i,x)=>(i,ρ x))).run P w=.ok u w/\VR c (.agg out) u/\ZaX out=true:=by
 obtain⟨z,h5,h4,h0⟩:=ZmR h1 c w;have elist:(ps.map λ(p:Nat×Operand)=>(p.1,ρ p.2)).toList=(ps.toList.map (·.1)).zip (ps.toList.map λp=>ρ p.2):=by
  rw[Array.toList_map,List.zip_map']
 unfold ZjN at h3;split at h3
 ·rename_i fs hu;obtain⟨arr,ha,hb,hd⟩:=ZrX (c:=c) (place:=((fs.map λf=>(f.offset,P.cellsOf f.type))[·]?)) ps.toList parts xs _ z.cells zero out hx h4 h0 hf (ZnV hu h2) (by simp);refine⟨.agg arr,?_,by rw[VR];exact⟨arr.toList,by simp,hb⟩,hd⟩;unfold Instr.build;simp only[Sem.run_bind,h5,Result.andThen_ok,run_underlying hu,ZuD fs h3];rw[show(ps.map λ(x:Nat×Operand)=>match x with|(i,x)=>(i,ρ x))=ps.map λ(p:Nat×Operand)=>(p.1,ρ p.2)from rfl,elist,ha];rfl
 ·rename_i m0 e hu;obtain⟨arr,ha,hb,hd⟩:=ZrX (c:=c) (place:=λi=>some (i*P.cellsOf e,P.cellsOf e)) ps.toList parts xs _ z.cells zero out hx h4 h0 hf (ZnW hu h2) (by simp);refine⟨.agg arr,?_,by rw[VR];exact⟨arr.toList,by simp,hb⟩,hd⟩;obtain⟨i,hi⟩:=Option.isSome_iff_exists.1 h3;have hs:(sizeOf e).run P w=.ok (P.cellsOf e) w:=by simp[sizeOf,typeInfo,hi,Program.cellsOf]
  unfold Instr.build;simp only[Sem.run_bind,h5,Result.andThen_ok,run_underlying hu,hs];rw[show(ps.map λ(x:Nat×Operand)=>match x with|(i,x)=>(i,ρ x))=ps.map λ(p:Nat×Operand)=>(p.1,ρ p.2)from rfl,elist,ha];rfl
 cases h3
def ZcC {P:Program}{w:World}{k:IntKind}{i:Int}{y:Nat}{code:BoundsCode}(h0:0<=i)(h1:i.toNat<=y):(Instr.sliceBound (.int k i) y code).run P w=.ok i.toNat w:=by
 unfold Instr.sliceBound;have:i<=y:=by omega
 simp[asIntOf,h0,this]
def Zk5 {c:Cx}{given:Bool}{dflt:Nat}{vs vs':List AV}{m:Nat}{us:List Value}(h:ZfI given dflt vs=some (m,vs'))(hv:VRL c vs us):
  (given=true/\∃k i us',us=.int k i::us'/\0<=i/\m=i.toNat/\VRL c vs' us')∨(given=false/\m=dflt/\vs'=vs):=by
 unfold ZfI at h;split at h
 ·rename_i hg;split at h
  ·rename_i k i r;split at h
   ·rename_i h0;simp only[Zan,Zao]at h;obtain⟨rfl,rfl⟩:=h;rw[VRL]at hv;obtain⟨u,us',rfl,h1,h2⟩:=hv;rw[Zc8 h1];exact .inl ⟨hg,k,i,us',rfl,h0,rfl,h2⟩
   cases h
  cases h
 rename_i hg;simp only[Zan,Zao]at h;exact .inr ⟨by simpa using hg,h.1.symm,h.2.symm⟩
def Zhk {P:Program}{w:World}{len cap:Nat}{lo hi mx:Option Value}{l h m:Nat}(h7:len<=cap)
  (hl:(lo=none/\l=0)∨∃k i,lo=some (.int k i)/\0<=i/\l=i.toNat)
  (hh:(hi=none/\h=len)∨∃k i,hi=some (.int k i)/\0<=i/\h=i.toNat)
  (hm:(mx=none/\m=cap)∨∃k i,mx=some (.int k i)/\0<=i/\m=i.toNat) (h6:mx.isSome->hi.isSome)
  (h1:l<=h) (h2:h<=m) (h3:m<=cap):(Instr.sliceBounds true len cap lo hi mx).run P w=.ok (l,h,m) w:=by
 unfold Instr.sliceBounds;rcases hm with⟨rfl,rfl⟩|⟨km,im,rfl,h5,rfl⟩
 ·rcases hh with⟨rfl,rfl⟩|⟨kh,ih,rfl,h4,rfl⟩
  ·rcases hl with⟨rfl,rfl⟩|⟨kl,il,rfl,h0,rfl⟩
   ·simp
   simp[ZcC h0 h1]
  rcases hl with⟨rfl,rfl⟩|⟨kl,il,rfl,h0,rfl⟩
  ·simp[ZcC h4 h2]
  simp[ZcC h4 h2,ZcC h0 h1]
 rcases hh with⟨rfl,rfl⟩|⟨kh,ih,rfl,h4,rfl⟩
 ·simp at h6
 rcases hl with⟨rfl,rfl⟩|⟨kl,il,rfl,h0,rfl⟩
 ·simp[ZcC h5 h3,ZcC h4 h2]
 simp[ZcC h5 h3,ZcC h4 h2,ZcC h0 h1]
def ZxQ {ok:Addr->Prop}{w:World}{sz:Nat}{rows:List (List PC)}{a:Addr}(h:ZkM ok w sz rows a)(l m:Nat):ZkM ok w sz ((rows.take m).drop l) (a.add (l*sz)):=by
 rw[Zgw]at h⊢;intro i r hi;rw[ZK,ZS]at hi;split at hi
 ·obtain⟨h1,h2⟩:=h (l+i) r hi;refine⟨h1,?_⟩;rw[ZfG,←Zah];exact h2
 cases hi
end Go.Eng

namespace Go.Eng
open Go
def Zjc {P:Program}{w:World}{t e ty:TypeId}(ht:P.underlying t=some (.slice e))(A:Option Addr)(m cap:Nat):
  (Builtin.len_ #[t] ty #[.slice A m cap]).run P w=.ok (.int .i64 m) w:=by
 simp[Builtin.len_,run_underlying ht,goInt]
def ZrW {P:Program}{w:World}{t e ty:TypeId}{m:Nat}(ht:P.underlying t=some (.array m e))(x:Value):
  (Builtin.len_ #[t] ty #[x]).run P w=.ok (.int .i64 m) w:=by
 unfold Builtin.len_;simp[run_underlying ht,goInt]
def Zn9 {P:Program}{w:World}{t:TypeId}(ht:P.underlying t=some .bool)(d:Nat)(x y:Bool):(Op.equalIn (d+1) t (.bool x) (.bool y)).run P w=.ok (x==y) w:=by
 simp[Op.equalIn,run_underlying ht]
def Zlj {P:Program}{w:World}{t:TypeId}(ht:P.underlying t=some .bool)(x y:Bool):(Op.equal t (.bool x) (.bool y)).run P w=.ok (x==y) w:=by
 unfold Op.equal Op.maxDepth;exact Zn9 ht 9999 x y
def Zo7 {P:Program}{w:World}{t el:TypeId}(hu:P.underlying t=some (.slice el))(d:Nat)(A:Option Addr)(l1 c1 l0 c0:Nat):
  (Op.equalIn (d+1) t (.slice A l1 c1) (.slice none l0 c0)).run P w=.ok A.isNone w:=by
 cases A<;>simp[Op.equalIn,run_underlying hu]
def ZoN {c:Cx}{x:AV}{xs:List AV}{vs:List Value}(h:VRL c (x::xs) vs):∃u us,vs=u::us/\VR c x u/\VRL c xs us:=by
 rw[VRL]at h;exact h
def ZjO {P:Program}{w:World}{c:Cx}{d:Nat}{xs ys:Array Value}:∀{fs:List Field} {ks:List Bool} {off:Nat} {as bs:List AV} {vs us:List Value} {e:Bool},
  Zd8 P off fs ks=true->ZcQ ks as bs=some e->VRL c as vs->VRL c bs us->xs.toList.drop off=vs->ys.toList.drop off=us->(Op.eqFields (d+1) xs ys fs).run P w=.ok e w
 |[],[],off,as,bs,vs,us,e,_,he,_,_,_,_=>by
  cases as<;>cases bs<;>simp[ZcQ]at he;subst he;rfl
 |f::fs,k::ks,off,as,bs,vs,us,e,hf,he,ha,hb,hx,hy=>by
  simp only[Zd8,Ze,Zh,Zas,beq_eq_false_iff_ne]at hf;obtain⟨⟨⟨hn,ho⟩,hk⟩,hf⟩:=hf;cases as with
  |nil=>cases k<;>simp[ZcQ]at he
  |cons a as=>
   cases bs with
   |nil=>
    exfalso;cases k<;>cases a<;>simp[ZcQ]at he
   |cons b bs=>
    obtain⟨u,us',rfl,hu,hh⟩:=ZoN ha;obtain⟨v,vs',rfl,hv,hg⟩:=ZoN hb;have h8:xs[f.offset]?=some u:=by
     have:=congrArg (·[0]?) hx;simpa[ho]using this
    have h6:ys[f.offset]?=some v:=by
     have:=congrArg (·[0]?) hy;simpa[ho]using this
    have h9:xs.toList.drop (off+1)=us':=by
     have:=congrArg List.tail hx;simpa using this
    have h7:ys.toList.drop (off+1)=vs':=by
     have:=congrArg List.tail hy;simpa using this
    cases k with
    |true=>
     cases h0:P.underlying f.type with
     |none=>simp[h0]at hk
     |some T=>
      cases T<;>simp[h0]at hk;rename_i kk;have h4:P.plainKey f.type=true:=by simp[Program.plainKey,h0]
      have h1:=run_part_plain (P:=P) w h4 h8;have h2:=run_part_plain (P:=P) w h4 h6;cases a<;>try (simp[ZcQ]at he;done)
      rename_i pa;cases pa<;>try (simp[ZcQ]at he;done)
      rename_i ka na;cases b<;>try (simp[ZcQ]at he;done)
      rename_i pb;cases pb<;>try (simp[ZcQ]at he;done)
      rename_i kb nb;simp only[ZcQ]at he;split at he
      ·rename_i hj;subst hj;cases hr:ZcQ ks as bs with
       |none=>simp[hr]at he
       |some e'=>
        simp only[hr,Zam,Zan]at he;have ih:=ZjO (P:=P) (w:=w) (d:=d) hf hr hh hg h9 h7;rw[VR,PR]at hu hv;subst hu hv;have h3:(Op.equalIn (d+1) f.type (.int ka na) (.int ka nb)).run P w=.ok (na==nb) w:=by simp[Op.equalIn,run_underlying h0]
        simp only[Op.eqFields,hn,ne_eq,not_false_eq_true,Zaw,Sem.run_bind,h1,h2,h3,Result.andThen_ok];subst he;by_cases h5:na=nb
        ·simp[h5,ih]
        have:(na==nb)=false:=by simpa using h5
        simp[this]
      cases he
    |false=>
     cases h0:P.underlying f.type with
     |none=>simp[h0]at hk
     |some T=>
      cases T<;>simp[h0]at hk;have h4:P.plainKey f.type=true:=by simp[Program.plainKey,h0]
      have h1:=run_part_plain (P:=P) w h4 h8;have h2:=run_part_plain (P:=P) w h4 h6;cases a<;>try (simp[ZcQ]at he;done)
      rename_i pa;cases pa<;>try (simp[ZcQ]at he;done)
      rename_i na;cases b<;>try (simp[ZcQ]at he;done)
      rename_i pb;cases pb<;>try (simp[ZcQ]at he;done)
      rename_i nb;simp only[ZcQ]at he;cases hr:ZcQ ks as bs with
      |none=>simp[hr]at he
      |some e'=>
       simp only[hr,Zam,Zan]at he;have ih:=ZjO (P:=P) (w:=w) (d:=d) hf hr hh hg h9 h7;rw[VR,PR]at hu hv;subst hu hv;have h3:(Op.equalIn (d+1) f.type (.bool na) (.bool nb)).run P w=.ok (na==nb) w:=by simp[Op.equalIn,run_underlying h0]
       simp only[Op.eqFields,hn,ne_eq,not_false_eq_true,Zaw,Sem.run_bind,h1,h2,h3,Result.andThen_ok];subst he;by_cases h5:na=nb
       ·simp[h5,ih]
       have:(na==nb)=false:=by simpa using h5
       simp[this]
 |[],_::_,_,_,_,_,_,_,hf,_,_,_,_,_=>by simp[Zd8]at hf
 |_::_,[],_,_,_,_,_,_,hf,_,_,_,_,_=>by simp[Zd8]at hf
def Zli {P:Program}{w:World}{c:Cx}{t:TypeId}{ks:List Bool}{as bs:List AV}{vs us:List Value}{e:Bool}(h:eqOK P t ks=true)(he:ZcQ ks as bs=some e)(ha:VRL c as vs)(hb:VRL c bs us):
  (Op.equal t (.agg vs.toArray) (.agg us.toArray)).run P w=.ok e w:=by
 simp only[eqOK,Ze,Zh]at h;obtain⟨⟨h1,h2⟩,_⟩:=h;split at h1
 ·rename_i fs hu;have h0:P.fieldsOf t=fs:=by simp[Program.fieldsOf,hu]
  unfold Op.equal Op.maxDepth;rw[run_equalIn_struct w 9999 t vs.toArray us.toArray (by rw[h0];exact hu) h2,h0];exact ZjO (d:=9998) h1 he ha hb (by simp) (by simp)
 cases h1
def ZiR {α:Type}{a:Array α}{l:List α}(h:a.toList=l):a=l.toArray:=by subst h;simp
section
variable {P:Program} {k:K0} {n:Nat} {g:G} {s:St} {a:Act} {w:World} {ts:Array TypeId} {ty:TypeId}
def Zqg {c:Cx}{vs vs1 vs2:List AV}{lo hi:Bool}{d1 d2 l h:Nat}(h1:ZfI lo d1 vs=some (l,vs1))(h2:ZfI hi d2 vs1=some (h,vs2))
  {L Hi M:Option Operand} {f:Operand->Value} (hL:L.isSome=lo) (h7:Hi.isSome=hi) (h3:VRL c vs ((ZoC L Hi M).map f)):
  ((L.map f=none/\l=d1)∨∃k i,L.map f=some (.int k i)/\0<=i/\l=i.toNat)∧
  ((Hi.map f=none/\h=d2)∨∃k i,Hi.map f=some (.int k i)/\0<=i/\h=i.toNat)∧
  VRL c vs2 (M.toList.map f):=by
 subst hL h7;unfold ZoC at h3;rw[Z2,Z2]at h3;rcases Zk5 h1 h3 with⟨e1,k1,i1,us1,ha,hb,hc,hd⟩|⟨e1,rfl,rfl⟩
 ·cases L with
  |none=>simp at e1
  |some L=>
   simp only[Option.toList_some,Z3,Z4,Zz,Z7,Zy]at ha;obtain⟨ha,rfl⟩:=ha;rcases Zk5 h2 hd with⟨e2,k2,i2,us2,h0,h6,h5,h4⟩|⟨e2,rfl,rfl⟩
   ·cases Hi with
    |none=>simp at e2
    |some Hi=>
     simp only[Option.toList_some,Z3,Z4,Zz,Z7,Zy]at h0;obtain⟨h0,rfl⟩:=h0;exact⟨.inr ⟨k1,i1,by simp[ha],hb,hc⟩,.inr ⟨k2,i2,by simp[h0],h6,h5⟩,h4⟩
   cases Hi with
   |some Hi=>simp at e2
   |none=>exact⟨.inr ⟨k1,i1,by simp[ha],hb,hc⟩,.inl ⟨rfl,rfl⟩,by simpa using hd⟩
 cases L with
 |some L=>simp at e1
 |none=>
  simp only[Option.toList_none,Z4,Z7]at h3;rcases Zk5 h2 h3 with⟨e2,k2,i2,us2,h0,h6,h5,h4⟩|⟨e2,rfl,rfl⟩
  ·cases Hi with
   |none=>simp at e2
   |some Hi=>
    simp only[Option.toList_some,Z3,Z4,Zz,Z7,Zy]at h0;obtain⟨h0,rfl⟩:=h0;exact⟨.inl ⟨rfl,rfl⟩,.inr ⟨k2,i2,by simp[h0],h6,h5⟩,h4⟩
  cases Hi with
  |some Hi=>simp at e2
  |none=>exact⟨.inl ⟨rfl,rfl⟩,.inl ⟨rfl,rfl⟩,by simpa using h3⟩
def Zs2 {x r:AV}{vs:List AV}{sz:Nat}{lo hi mx:Bool}{c:Cx}(hv:Zlg sz lo hi mx x vs=some r){X:Operand}{L Hi M:Option Operand}{t e:TypeId}{f:Operand->Value}(ht:P.underlying t=some (.slice e))(he:ZdA P e sz=true)
  (hL:L.isSome=lo) (hj:Hi.isSome=hi) (hM:M.isSome=mx) (hx:VR c x (f X)) (hh:VRL c vs ((ZoC L Hi M).map f)):
  ∃u,(Instr.sliceAt t (f X) (L.map f) (Hi.map f) (M.map f)).run P w=.ok u w/\VR c r u/\Za7 r=true:=by
 have hs:(sizeOf e).run P w=.ok sz w:=Zdq he;unfold Zlg at hv;split at hv
 ·rename_i sz' full rows;rw[VR,PR]at hx;obtain⟨A,cap,hX,h5,hz,ha⟩:=hx;cases h7:ZfI lo 0 vs with
  |none=>simp[h7]at hv
  |some p1=>
   obtain⟨l,vs1⟩:=p1;simp only[h7,Zak]at hv;cases h6:ZfI hi rows.length vs1 with
   |none=>simp[h6]at hv
   |some p2=>
    obtain⟨h,vs2⟩:=p2;simp only[h6,Zak]at hv;cases hu:ZfI mx h vs2 with
    |none=>simp[hu]at hv
    |some p3=>
     obtain⟨m,vs3⟩:=p3;simp only[hu,Zak]at hv;split at hv
     ·rename_i h0;obtain⟨g3,hg,h9,hm,g0,hf⟩:=h0;subst hm g0;simp only[Zan]at hv;subst hv;obtain⟨b1,b2,b3⟩:=Zqg h7 h6 hL hj hh;have g7:∃mm,((M.map f=none/\mm=cap)∨∃k i,M.map f=some (.int k i)/\0<=i/\mm=i.toNat)/\m<=mm/\mm<=cap/\(mx=true->mm=m):=by
       rcases Zk5 hu b3 with⟨e3,k3,i3,us3,g4,hq,hn,_⟩|⟨e3,_,_⟩
       ·cases M with
        |none=>simp at hM;rw[e3]at hM;cases hM
        |some M=>
         simp only[Option.toList_some,Z3,Z4,Zy]at g4;exact⟨m,.inr ⟨k3,i3,by simp[g4.1],hq,hn⟩,Nat.le_refl _,by omega,λ_=>rfl⟩
       cases M with
       |some M=>simp at hM;rw[e3]at hM;cases hM
       |none=>exact⟨cap,.inl ⟨rfl,rfl⟩,by omega,Nat.le_refl _,λe=>by rw[e3]at e;cases e⟩
      obtain⟨mm,m1,m2,m3,m4⟩:=g7;have h8:=Zhk (P:=P) (w:=w) (len:=rows.length) (cap:=cap) h5 b1 b2 m1 (by rw[Option.isSome_map,Option.isSome_map,hM,hj];exact hf) hg m2 m3;refine⟨.slice (if mm=l then A else A.map (·.add (l*sz'))) (m-l) (mm-l),?_,?_,rfl⟩
      ·unfold Instr.sliceAt;simp only[Sem.run_bind,run_underlying ht,Result.andThen_ok];unfold Instr.slice;simp only[Sem.run_bind,run_underlying ht,Result.andThen_ok,hX,h8,hs,Sem.run_pure]
      rw[VR,PR];refine⟨if mm=l then A else A.map (·.add (l*sz')),mm-l,?_,?_,?_,?_⟩
      ·simp only[List.length_drop,Z1,Nat.min_eq_left h9]
      ·simp only[List.length_drop,Z1,Nat.min_eq_left h9];omega
      ·intro e;simp only[List.length_drop,Z1,Nat.min_eq_left h9];rw[m4 e]
      intro g5;have g8:l<m:=by
       rcases Nat.lt_or_ge l m with h|h
       ·exact h
       exact absurd (List.drop_eq_nil_of_le (by simp;omega)) g5
      obtain⟨a0,rfl,hr⟩:=ha (by intro e0;subst e0;simp at h9;omega);rw[Zau (by omega)];exact⟨_,rfl,ZxQ hr l m⟩
     cases hv
 ·rename_i sz' id ver off len;rw[VR]at hx;obtain⟨ver0,frz,rows,b,cap,hH,g6,hX,h5,hk⟩:=hx;cases h7:ZfI lo 0 vs with
  |none=>simp[h7]at hv
  |some p1=>
   obtain⟨l,vs1⟩:=p1;simp only[h7,Zak]at hv;cases h6:ZfI hi len vs1 with
   |none=>simp[h6]at hv
   |some p2=>
    obtain⟨h,vs2⟩:=p2;simp only[h6,Zak]at hv;split at hv
    ·rename_i h0;obtain⟨g3,hg,h9,hm,g0,hf⟩:=h0;subst hf;simp only[Zan]at hv;subst hv;obtain⟨b1,b2,b3⟩:=Zqg h7 h6 hL hj hh;have hy:M=none:=by
      cases M with
      |none=>rfl
      |some M=>simp at hM;rw[hg]at hM;cases hM
     subst hy;have h8:=Zhk (P:=P) (w:=w) (len:=len) (cap:=cap) (mx:=none) (m:=cap) h5 b1 b2 (.inl ⟨rfl,rfl⟩) (by simp) h9 (Nat.le_trans hm h5) (Nat.le_refl _);refine⟨.slice (if cap=l then some ⟨b,off*sz',none⟩else(some (⟨b,off*sz',none⟩:Addr)).map (·.add (l*sz'))) (h-l) (cap-l),?_,?_,rfl⟩
     ·unfold Instr.sliceAt;simp only[Sem.run_bind,run_underlying ht,Result.andThen_ok];unfold Instr.slice;simp only[Sem.run_bind,run_underlying ht,Result.andThen_ok,hX,Option.map_none,h8,hs,Sem.run_pure]
     rw[VR];clear b1 b2 b3 h8 h7 h6 hh;refine⟨ver0,frz,rows,b,cap-l,hH,g6,?_,by omega,?_⟩
     ·congr 1
      by_cases e:cap=l
      ·have:l=0:=by omega
       subst this;simp[e]
      rw[Zau e];simp only[Zam,ZgK,Zah]
     intro e;obtain⟨vs',h1,h2,h3,h4⟩:=hk e;refine⟨vs',h1,by omega,h3,?_⟩
     rwa [show off+l+(cap-l)=off+cap by omega]
    split at hv
    ·rename_i h0;obtain⟨g3,hg,rfl,rfl,hf⟩:=h0;subst hf;simp only[Zan]at hv;subst hv;obtain⟨b1,b2,b3⟩:=Zqg h7 h6 hL hj hh;have hy:M=none:=by
      cases M with
      |none=>rfl
      |some M=>simp at hM;rw[hg]at hM;cases hM
     subst hy;have h8:=Zhk (P:=P) (w:=w) (len:=h) (cap:=cap) (mx:=none) (m:=cap) h5 b1 b2 (.inl ⟨rfl,rfl⟩) (by simp) (Nat.le_refl _) h5 (Nat.le_refl _);refine⟨.slice (if cap=h then some ⟨b,off*sz',none⟩else(some (⟨b,off*sz',none⟩:Addr)).map (·.add (h*sz'))) (h-h) (cap-h),?_,?_,rfl⟩
     ·unfold Instr.sliceAt;simp only[Sem.run_bind,run_underlying ht,Result.andThen_ok];unfold Instr.slice;simp only[Sem.run_bind,run_underlying ht,Result.andThen_ok,hX,Option.map_none,h8,hs,Sem.run_pure]
     rw[VR,PR];exact⟨_,cap-h,(by rw[Nat.sub_self];rfl),Nat.zero_le _,(λe=>by cases e),(λe=>absurd rfl e)⟩
    cases hv
 cases hv
def Zv5 {c:Cx}{xs:List AV}{us:List Value}{r:AV}(h:minI xs=some r)(hx:VRL c xs us):∃u,(Builtin.min_ ts ty us.toArray).run P w=.ok u w/\VR c r u/\Za7 r=true:=by
 unfold minI at h;split at h
 ·simp only[Zan]at h;subst h;obtain⟨v,u,rfl,h1,h2⟩:=ZgF hx;rw[Zc8 h1,Zc8 h2];exact⟨_,by simp[Builtin.min_,Builtin.min2],Zev _ _,rfl⟩
 ·simp only[Zan]at h;subst h;obtain⟨v,u,t,rfl,h1,h2,h3⟩:=ZmP hx;rw[Zc8 h1,Zc8 h2,Zc8 h3];exact⟨_,by simp[Builtin.min_,Builtin.min2],Zev _ _,rfl⟩
 cases h
def Zv7 {c:Cx}{xs:List AV}{us:List Value}{r:AV}(h:maxI xs=some r)(hx:VRL c xs us):∃u,(Builtin.max_ ts ty us.toArray).run P w=.ok u w/\VR c r u/\Za7 r=true:=by
 unfold maxI at h;split at h
 ·simp only[Zan]at h;subst h;obtain⟨v,u,rfl,h1,h2⟩:=ZgF hx;rw[Zc8 h1,Zc8 h2];exact⟨_,by simp[Builtin.max_,Builtin.max2],Zev _ _,rfl⟩
 ·simp only[Zan]at h;subst h;obtain⟨v,u,t,rfl,h1,h2,h3⟩:=ZmP hx;rw[Zc8 h1,Zc8 h2,Zc8 h3];exact⟨_,by simp[Builtin.max_,Builtin.max2],Zev _ _,rfl⟩
 cases h
def Zj9 {α:Type}{off m:Nat}{l r:List α}(h:sub off m l=some r):off+m<=l.length/\r=(l.drop off).take m:=by
 unfold sub at h;split at h
 ·simp only[Zan]at h;exact⟨by assumption,h.symm⟩
 cases h
def Zvd {isA:Bool}{cs:List AV}{r:AV}(h:mk isA cs=some r)(he:isA=false):cs.length=1:=by
 subst he;simp only[mk,Zg,Zat]at h;split at h
 ·rfl
 cases h
set_option maxHeartbeats 1000000 in
def ZAO (h:Rel k n g s a w){o:Oper}{d:Nat}{v:VI}{xs:List IX}(hc:chkV P n o d v xs=true){r:AV}(hv:Zbc v (xs.map (ev s.fr))=some r):
  ∃u,(execOp a.eval o).run P w=.ok (.value u) w/\VR (cx k g s.H w) r u/\top r=true:=by
 simp only[chkV,Ze]at hc;obtain⟨_,hc⟩:=hc;cases v with
 |mov=>
  simp only at hc;split at hc
  ·rename_i x h0;have hm:=Za5 h hc;have ht:=Zco h hc;simp only[Zbc]at hv;split at hv
   ·rename_i y hy;simp only[Zan]at hv;subst hv;rw[hy]at hm ht;obtain⟨u,e,hu⟩:=ZfH hm;simp only[Z3,Z4,Zy,Zap]at e;exact⟨u,by simp[execOp,h0,e],hu,ht _ (by simp)⟩
   cases hv
  ·rename_i x h0;have hm:=Za5 h hc;have ht:=Zco h hc;simp only[Zbc]at hv;split at hv
   ·rename_i y hy;simp only[Zan]at hv;subst hv;rw[hy]at hm ht;obtain⟨u,e,hu⟩:=ZfH hm;simp only[Z3,Z4,Zy,Zap]at e;exact⟨u,by simp[execOp,h0,e],hu,ht _ (by simp)⟩
   cases hv
  cases hc
 |bin op=>
  simp only at hc;split at hc
  ·rename_i op' t x y yt h0;simp only[Ze,Zas]at hc;obtain⟨rfl,hc⟩:=hc;have hm:=Za5 h hc;simp only[Zbc]at hv;split at hv
   ·rename_i k1 a1 k2 b1 hy;split at hv
    ·rename_i hk;subst hk;rw[hy]at hm;obtain⟨u1,u2,e,h1,h2⟩:=ZgF hm;simp only[Z3,Z4,Zy,Zap]at e;have e1:=Zc8 h1;have e2:=Zc8 h2;cases hb:binI op k1 a1 b1 with
     |none=>simp[hb]at hv
     |some pc=>
      simp only[hb,Zam,Zan]at hv;subst hv;obtain⟨u,h9,h8⟩:=Zyk (P:=P) (w:=w) (t:=t) hb;refine⟨u,?_,h8 _,rfl⟩;have hg:(eqGuard op t x y (.int k1 a1) (.int k1 b1)).run P w=.ok () w:=by unfold eqGuard;split<;>rfl
      simp[execOp,h0,e.1,e.2,e1,e2,hg,h9]
    cases hv
   cases hv
  cases hc
 |sh op=>
  simp only at hc;split at hc
  ·rename_i op' t x y yt h0;simp only[Ze,Zas]at hc;obtain⟨rfl,hc⟩:=hc;have hm:=Za5 h hc;simp only[Zbc]at hv;split at hv
   ·rename_i k1 a1 k2 b1 hy;rw[hy]at hm;obtain⟨u1,u2,e,h1,h2⟩:=ZgF hm;simp only[Z3,Z4,Zy,Zap]at e;have e1:=Zc8 h1;have e2:=Zc8 h2;cases hb:shI op k1 a1 b1 with
    |none=>simp[hb]at hv
    |some pc=>
     simp only[hb,Zam,Zan]at hv;subst hv;obtain⟨u,h9,h8⟩:=ZzQ (P:=P) (w:=w) (t:=t) (k':=k2) hb;refine⟨u,?_,h8 _,rfl⟩;have hg:(eqGuard op t x y (.int k1 a1) (.int k2 b1)).run P w=.ok () w:=by unfold eqGuard;split<;>rfl
     simp[execOp,h0,e.1,e.2,e1,e2,hg,h9]
   cases hv
  cases hc
 |eqB neg=>
  simp only at hc;split at hc
  ·rename_i op t x y yt h0;simp only[Ze,Zas]at hc;obtain⟨⟨h5,h4⟩,hc⟩:=hc;have hm:=Za5 h hc;simp only[Zbc]at hv;split at hv
   ·rename_i a1 b1 hy;simp only[Zan]at hv;subst hv;rw[hy]at hm;obtain⟨u1,u2,e,h1,h2⟩:=ZgF hm;simp only[Z3,Z4,Zy,Zap]at e;have e1:=ZnA h1;have e2:=ZnA h2;have ha:P.underlying t=some .bool:=by
     split at h4
     ·assumption
     cases h4
    have hg:(eqGuard op t x y (.bool a1) (.bool b1)).run P w=.ok () w:=by unfold eqGuard;split<;>rfl
    cases neg with
    |true=>
     simp only[Zaw]at h5;subst h5;refine⟨_,?_,ZeL _,rfl⟩;simp[execOp,h0,e.1,e.2,e1,e2,hg,binOp,Zlj ha];cases a1<;>cases b1<;>rfl
    |false=>
     simp only[Zg,Zat]at h5;subst h5;refine⟨_,?_,ZeL _,rfl⟩;simp[execOp,h0,e.1,e.2,e1,e2,hg,binOp,Zlj ha]
   cases hv
  cases hc
 |eqS neg ks=>
  simp only at hc;split at hc
  ·rename_i op t x y ty' h0;simp only[Ze,Zas]at hc;obtain⟨⟨h5,gc⟩,hm⟩:=hc;have hm:=Za5 h hm;simp only[Zbc]at hv;split at hv
   ·rename_i ca cb gi;cases he:ZcQ ks ca cb with
    |none=>simp[he]at hv
    |some e=>
     simp only[he,Zam,Zan]at hv;subst hv;rw[gi]at hm;simp only[Z3,Z4]at hm;obtain⟨u1,us1,e1,v1,hm⟩:=ZoN hm;obtain⟨u2,us2,e2,v2,hm⟩:=ZoN hm;simp only[Zy]at e1;obtain⟨rfl,e1⟩:=e1;rw[←e1]at e2;simp only[Zy]at e2;obtain⟨rfl,e2⟩:=e2;rw[VR]at v1 v2;obtain⟨vs,ev,v1⟩:=v1;obtain⟨us,eu,v2⟩:=v2;have g5:=Zli (w:=w) gc he v1 v2;have go:P.eqGuardType P.depth t=false:=by
      simp only[eqOK,Ze,Zh]at gc;exact gc.2
     have hg:(eqGuard op t x y (.agg vs.toArray) (.agg us.toArray)).run P w=.ok () w:=by
      unfold eqGuard;split<;>simp[run_program,go]
     cases neg with
     |true=>
      simp only[Zaw]at h5;subst h5;refine⟨_,?_,ZeL _,rfl⟩;simp[execOp,h0,ev,eu,hg,binOp,g5]
     |false=>
      simp only[Zg,Zat]at h5;subst h5;refine⟨_,?_,ZeL _,rfl⟩;simp[execOp,h0,ev,eu,hg,binOp,g5]
   cases hv
  cases hc
 |not=>
  simp only at hc;split at hc
  ·rename_i t x h0;have hm:=Za5 h hc;simp only[Zbc]at hv;split at hv
   ·rename_i b hy;simp only[Zan]at hv;subst hv;rw[hy]at hm;obtain⟨u,e,hu⟩:=ZfH hm;simp only[Z3,Z4,Zy,Zap]at e;have e1:=ZnA hu;exact⟨_,by simp[execOp,h0,e,e1,Op.unary],ZeL _,rfl⟩
   cases hv
  cases hc
 |neg=>
  simp only at hc;split at hc
  ·rename_i t x h0;have hm:=Za5 h hc;simp only[Zbc]at hv;split at hv
   ·rename_i k1 b hy;simp only[Zan]at hv;subst hv;rw[hy]at hm;obtain⟨u,e,hu⟩:=ZfH hm;simp only[Z3,Z4,Zy,Zap]at e;have e1:=Zc8 hu;exact⟨_,by simp only[execOp,h0,e,e1,Op.unary,Op.intArith,Sem.run_bind,Sem.run_pure,Result.andThen_ok],Zev _ _,rfl⟩
   cases hv
  cases hc
 |conv k1=>
  simp only at hc;split at hc
  ·rename_i src dst x h0;simp only[Ze]at hc;obtain⟨⟨g9,hj⟩,hc⟩:=hc;have hm:=Za5 h hc;simp only[Zbc]at hv;split at hv
   ·rename_i k2 b hy;simp only[Zan]at hv;subst hv;rw[hy]at hm;obtain⟨u,e,hu⟩:=ZfH hm;simp only[Z3,Z4,Zy,Zap]at e;have e1:=Zc8 hu;obtain⟨ds,gp⟩:=Option.isSome_iff_exists.1 g9;have g7:P.underlying dst=some (.int k1):=by
     split at hj
     ·simp only[Zas]at hj;subst hj;assumption
     cases hj
    exact⟨_,by simp[execOp,h0,e,e1,convert,run_underlying gp,run_underlying g7,Conv.intToInt],Zev _ _,rfl⟩
   cases hv
  cases hc
 |pick=>
  simp only at hc;split at hc
  ·rename_i c1 x y h0;have hm:=Za5 h hc;have ht:=Zco h hc;simp only[Zbc]at hv;split at hv
   ·rename_i b a1 b1 hy;simp only[Zan]at hv;subst hv;rw[hy]at hm ht;obtain⟨u1,u2,u3,e,h1,h2,h3⟩:=ZmP hm;simp only[Z3,Z4,Zy,Zap]at e;have e1:=ZnA h1;refine⟨if b then u2 else u3,?_,?_,?_⟩
    ·simp[execOp,h0,e.1,e.2.1,e.2.2,e1,asBool]
    ·cases b<;>simp[h2,h3]
    cases b<;>exact ht _ (by simp)
   cases hv
  cases hc
 |faddr off=>
  simp only at hc;split at hc
  ·rename_i st x f h0;simp only[Ze]at hc;obtain⟨hf,hc⟩:=hc;have hm:=Za5 h hc;simp only[Zbc]at hv;split at hv
   ·rename_i y hy;rw[hy]at hm;obtain⟨u,e,hu⟩:=ZfH hm;simp only[Z3,Z4,Zy,Zap]at e;obtain⟨a0,rfl,hr⟩:=Zt9 hv hu;split at hf
    ·rename_i fs gj;split at hf
     ·rename_i fl gb;simp only[Ze,Zas]at hf;obtain⟨rfl,h7⟩:=hf;split at h7
      ·rename_i i hi;simp only[Zas]at h7;exact⟨_,by simp[execOp,h0,e,Instr.fieldAt,run_underlying gj,gb,Instr.sureAddr,fieldPlace,sizeOf,typeInfo,hi,h7],hr,Zk7 hv⟩
      cases h7
     cases hf
    cases hf
   cases hv
  cases hc
 |iaddr m sz=>
  simp only at hc;split at hc
  ·rename_i t x i h0;simp only[Ze]at hc;obtain⟨h4,hc⟩:=hc;have hm:=Za5 h hc;simp only[Zbc]at hv;split at hv
   ·rename_i y k1 i1 hy;split at hv
    ·rename_i hi;rw[hy]at hm;obtain⟨u1,u2,e,h1,h2⟩:=ZgF hm;simp only[Z3,Z4,Zy,Zap]at e;obtain⟨a0,rfl,hr⟩:=Zt9 hv h1;have e2:=Zc8 h2;split at h4
     ·rename_i m' el hu;simp only[Ze,Zas]at h4;obtain⟨rfl,h7⟩:=h4;exact⟨_,by simp[execOp,h0,e.1,e.2,e2,Instr.indexAt,asIntOf,run_underlying hu,Instr.sureAddr,hi,Zdq h7],hr,Zk7 hv⟩
     cases h4
    cases hv
   cases hv
  cases hc
 |iaddrS sz=>
  simp only at hc;split at hc
  ·rename_i t x i h0;simp only[Ze]at hc;obtain⟨h4,hc⟩:=hc;have hm:=Za5 h hc;split at h4
   ·rename_i el hu;simp only[Zbc]at hv;split at hv
    ·rename_i sz' full rows k1 i1 hy;split at hv
     ·rename_i hi;simp only[Zan]at hv;subst hv;obtain⟨rfl,g6,g3⟩:=hi;rw[hy]at hm;obtain⟨u1,u2,e,h1,h2⟩:=ZgF hm;simp only[Z3,Z4,Zy,Zap]at e;have e2:=Zc8 h2;rw[VR,PR]at h1;obtain⟨A,cap,rfl,_,_,hA⟩:=h1;obtain⟨a0,rfl,hr⟩:=hA (by intro e;subst e;simp at g3;omega);refine⟨_,by simp[execOp,h0,e.1,e.2,e2,Instr.indexAt,asIntOf,run_underlying hu,g6,g3,Zdq h4];rfl,?_,rfl⟩;rw[VR];exact⟨a0,rfl,hr⟩
     cases hv
    ·rename_i sz' id ver off len k1 i1 hy;split at hv
     ·rename_i hi;simp only[Zan]at hv;subst hv;obtain⟨rfl,g6,g3⟩:=hi;rw[hy]at hm;obtain⟨u1,u2,e,h1,h2⟩:=ZgF hm;simp only[Z3,Z4,Zy,Zap]at e;have e2:=Zc8 h2;rw[VR]at h1;obtain⟨ver0,frz,rows,b,cap,hH,g0,rfl,gq,gd⟩:=h1;refine⟨_,by simp[execOp,h0,e.1,e.2,e2,Instr.indexAt,asIntOf,run_underlying hu,g6,g3,Zdq h4];rfl,?_,rfl⟩;rw[VR];refine⟨ver0,frz,rows,b,hH,g0,by rw[ZgK,Zah];rfl,λe=>?_⟩;obtain⟨_,hb,_⟩:=gd e;exact hb
     cases hv
    ·rename_i id m k1 i1 hy;split at hv
     ·rename_i hi;simp only[Zan]at hv;subst hv;obtain⟨rfl,g6,g3⟩:=hi;rw[hy]at hm;obtain⟨u1,u2,e,h1,h2⟩:=ZgF hm;simp only[Z3,Z4,Zy,Zap]at e;have e2:=Zc8 h2;rw[VR]at h1;obtain⟨cs,b,hH,hb,rfl⟩:=h1;refine⟨_,by simp[execOp,h0,e.1,e.2,e2,Instr.indexAt,asIntOf,run_underlying hu,g6,g3,Zdq h4];rfl,?_,rfl⟩;rw[VR];exact⟨cs,b,hH,hb,by rw[ZgK];simp⟩
     cases hv
    cases hv
   cases h4
  cases hc
 |idx m sz isA=>
  simp only at hc;split at hc
  ·rename_i t x i h0;simp only[Ze]at hc;obtain⟨h4,hc⟩:=hc;have hm:=Za5 h hc;have ht:=Zco h hc;simp only[Zbc]at hv;split at hv
   ·rename_i cs k1 i1 hy;split at hv
    ·rename_i hi;rw[hy]at hm ht;obtain⟨u1,u2,e,h1,h2⟩:=ZgF hm;simp only[Z3,Z4,Zy,Zap]at e;have e2:=Zc8 h2;rw[VR]at h1;obtain⟨vs,rfl,h1⟩:=h1;split at h4
     ·rename_i m' el hu;simp only[Ze,Zas]at h4;obtain⟨⟨rfl,h7⟩,gf⟩:=h4;cases hs:sub (i1.toNat*sz) sz cs with
      |none=>simp[hs]at hv
      |some cs'=>
       simp only[hs,Zak]at hv;obtain⟨g0,rfl⟩:=Zj9 hs;have hz:isA=false->sz=1:=λe=>by
        have:=Zvd hv e;simp at this;omega
       have hp:=Zu5 (P:=P) (w:=w) (cs:=vs) (off:=i1.toNat*sz) h7 gf (by rw[h1.length];exact g0) hz;refine⟨_,by simp only[execOp,h0,e.1,e.2,e2,Instr.index,asIntOf,Sem.run_bind,Sem.run_pure,Result.andThen_ok,run_underlying hu,hi,and_self,Zaw,Zdq h7,hp],ZyK hv (ZnB h1 _ _),?_⟩;have h6:=ht (.agg cs) (by simp);exact Za1 (ZlD hv (Zhd (by simpa[top,Za7]using h6) hs))
     cases h4
    cases hv
   cases hv
  cases hc
 |fld off m isA=>
  simp only at hc;split at hc
  ·rename_i t x f h0;simp only[Ze]at hc;obtain⟨h4,hc⟩:=hc;have hm:=Za5 h hc;have ht:=Zco h hc;simp only[Zbc]at hv;split at hv
   ·rename_i cs hy;rw[hy]at hm ht;obtain⟨u1,e,h1⟩:=ZfH hm;simp only[Z3,Z4,Zy,Zap]at e;rw[VR]at h1;obtain⟨vs,rfl,h1⟩:=h1;split at h4
    ·rename_i fs hu;split at h4
     ·rename_i fl gb;simp only[Ze,Zas]at h4;obtain⟨⟨rfl,h7⟩,gf⟩:=h4;cases hs:sub fl.offset m cs with
      |none=>simp[hs]at hv
      |some cs'=>
       simp only[hs,Zak]at hv;obtain⟨g0,rfl⟩:=Zj9 hs;have hz:isA=false->m=1:=λe=>by
        have:=Zvd hv e;simp at this;omega
       have hp:=Zu5 (P:=P) (w:=w) (cs:=vs) (off:=fl.offset) h7 gf (by rw[h1.length];exact g0) hz;refine⟨_,by simp only[execOp,h0,e,Instr.field,asAgg,Sem.run_bind,Sem.run_pure,Result.andThen_ok,run_underlying hu,gb,hp],ZyK hv (ZnB h1 _ _),?_⟩;have h6:=ht (.agg cs) (by simp);exact Za1 (ZlD hv (Zhd (by simpa[top,Za7]using h6) hs))
     cases h4
    cases h4
   cases hv
  cases hc
 |build zero parts=>
  simp only at hc;split at hc
  ·rename_i t ps h0;simp only[Ze]at hc;obtain⟨⟨⟨h1,h2⟩,h3⟩,hc⟩:=hc;have hm:=Za5 h hc;simp only[Zbc]at hv;cases hf:Zc3 zero parts (xs.map (ev s.fr))with
   |none=>simp[hf]at hv
   |some out=>
    simp only[hf,Zam,Zan]at hv;subst hv;obtain⟨u,h9,h8,g4⟩:=Zs9 (P:=P) (w:=w) (ρ:=a.eval) h1 h2 h3 (by simpa[List.map_map,Function.comp_def]using hm) hf;refine⟨u,?_,h8,by simpa[top,Za7]using ZaY g4⟩;simp only[execOp,h0,Sem.run_bind];rw[h9];rfl
  cases hc
 |len=>
  simp only at hc;split at hc
  ·rename_i args ts h0;simp only[Ze,Zas]at hc;obtain⟨⟨h4,hc⟩,ga⟩:=hc;have hm:=Za5 h hc;split at h4
   ·rename_i t g8;have hq:ts=#[t]:=ZiR g8;subst hq;split at h4
    ·rename_i el hu;simp only[Zbc]at hv;have key:∀y,xs.map (ev s.fr)=[y]->∃X,args=#[X]/\VR (cx k g s.H w) y (a.eval X):=by
      intro y hy;rw[hy]at hm;obtain⟨u1,e,h1⟩:=ZfH hm;cases hl:args.toList with
      |nil=>rw[hl]at e;simp at e
      |cons X l=>
       rw[hl]at e;simp only[Z3,Zy,List.map_eq_nil_iff]at e;obtain⟨e1,rfl⟩:=e;exact⟨X,ZiR hl,by rw[e1];exact h1⟩
     split at hv
     ·rename_i sz full rows hy;simp only[Zan]at hv;subst hv;obtain⟨X,rfl,h1⟩:=key _ hy;rw[VR,PR]at h1;obtain⟨A,cap,e1,_⟩:=h1;exact⟨_,by simp[execOp,h0,resolve,invoke,builtin,e1,Zjc hu],Zev _ _,rfl⟩
     ·rename_i sz id ver off ln hy;simp only[Zan]at hv;subst hv;obtain⟨X,rfl,h1⟩:=key _ hy;rw[VR]at h1;obtain⟨ver0,frz,rows,b,cap,hH,g0,e1,_⟩:=h1;exact⟨_,by simp[execOp,h0,resolve,invoke,builtin,e1,Zjc hu],Zev _ _,rfl⟩
     ·rename_i id m hy;simp only[Zan]at hv;subst hv;obtain⟨X,rfl,h1⟩:=key _ hy;rw[VR]at h1;obtain⟨cs,b,hH,hb,e1⟩:=h1;exact⟨_,by simp[execOp,h0,resolve,invoke,builtin,e1,Zjc hu],Zev _ _,rfl⟩
     cases hv
    cases h4
   cases h4
  cases hc
 |lenA m=>
  simp only at hc;split at hc
  ·rename_i args ts h0;simp only[Ze,Zas]at hc;obtain⟨⟨h4,hc⟩,ga⟩:=hc;have hm:=(Za5 h hc).length;simp only[ZX]at hm;split at h4
   ·rename_i t g8;have hq:ts=#[t]:=ZiR g8;subst hq;split at h4
    ·rename_i m' el hu;simp only[Zas]at h4;subst h4;simp only[Zbc,Zan]at hv;subst hv;obtain⟨X,hX⟩:∃X,args=#[X]:=by
      cases hl:args.toList with
      |nil=>rw[hl]at hm;simp at hm;omega
      |cons X l=>
       cases l with
       |nil=>exact⟨X,ZiR hl⟩
       |cons=>rw[hl]at hm;simp at hm;omega
     subst hX;exact⟨_,by simp[execOp,h0,resolve,invoke,builtin,ZrW hu],Zev _ _,rfl⟩
    cases h4
   cases h4
  cases hc
 |ext i=>
  simp only at hc;split at hc
  ·rename_i x i' h0;simp only[Ze,Zas]at hc;obtain⟨rfl,hc⟩:=hc;have hm:=Za5 h hc;have ht:=Zco h hc;simp only[Zbc]at hv;split at hv
   ·rename_i cs hy;rw[hy]at hm ht;obtain⟨u1,e,h1⟩:=ZfH hm;simp only[Z3,Z4,Zy,Zap]at e;rw[VR]at h1;obtain⟨vs,rfl,h1⟩:=h1;have gh:i<vs.length:=by rw[h1.length];exact(List.getElem?_eq_some_iff.1 hv).1
    rw[Zew]at h1;refine⟨vs[i],by simp[execOp,h0,e,Instr.extract,gh],h1.2 i r _ hv (ZL gh),?_⟩;have h6:=ht (.tup cs) (by simp);have:noLocL cs=true:=by simpa[top,Za7]using h6
    exact Za1 (ZcA.1 this r (List.mem_of_getElem? hv))
   cases hv
  cases hc
 |mkfn f nf=>
  simp only at hc;split at hc
  ·rename_i f' first cap h0
   simp only[Ze,Zas]at hc;obtain⟨⟨rfl,gg⟩,hc⟩:=hc;have hm:=Za5 h hc;simp only[Zbc]at hv;split at hv
   ·rename_i hn;simp only[Zan]at hv;subst hv;refine⟨_,by simp[execOp,h0,Instr.makeFunc];rfl,?_,?_⟩
    ·rw[VR];have h1:=ZvA hm nf;have h2:=ZvB hm nf;refine⟨first.toList.map a.eval,cap.toList.map a.eval,?_,?_,?_⟩
     ·congr 1
      ·apply Array.ext';simp
      apply Array.ext';simp
     ·rw[Z2,List.take_left' (by simp[gg])]at h1;exact h1
     rw[Z2,List.drop_left' (by simp[gg])]at h2;exact h2
    simp only[top,Za7,Ze];rw[ZcA]at hn;exact⟨ZcA.2 λx hx=>hn x (List.mem_of_mem_take hx),ZcA.2 λx hx=>hn x (List.mem_of_mem_drop hx)⟩
   cases hv
  cases hc
 |min=>
  simp only at hc;split at hc
  ·rename_i args ts h0;have hm:=Za5 h hc;obtain⟨u,h9,h8,g4⟩:=Zv5 (P:=P) (w:=w) (ts:=ts) (ty:=o.type) hv hm;refine⟨u,?_,h8,Za1 g4⟩;simp only[execOp,h0,resolve,invoke,builtin,Sem.run_bind,Sem.run_pure,Result.andThen_ok];rw[show args.map a.eval=(args.toList.map a.eval).toArray by apply Array.ext';simp,h9];rfl
  cases hc
 |max=>
  simp only at hc;split at hc
  ·rename_i args ts h0;have hm:=Za5 h hc;obtain⟨u,h9,h8,g4⟩:=Zv7 (P:=P) (w:=w) (ts:=ts) (ty:=o.type) hv hm;refine⟨u,?_,h8,Za1 g4⟩;simp only[execOp,h0,resolve,invoke,builtin,Sem.run_bind,Sem.run_pure,Result.andThen_ok];rw[show args.map a.eval=(args.toList.map a.eval).toArray by apply Array.ext';simp,h9];rfl
  cases hc
 |slice sz lo hi mx=>
  simp only at hc;split at hc
  ·rename_i t x l h' m h0;simp only[Ze,Zas]at hc;obtain⟨⟨⟨⟨h4,hl⟩,hh⟩,gn⟩,hc⟩:=hc;have hm:=Za5 h hc;simp only[Zbc]at hv;split at hv
   ·rename_i y vs hy;rw[hy]at hm;simp only[Z3]at hm;rw[VRL]at hm;obtain⟨u,us,e,h1,h2⟩:=hm;simp only[Zy]at e;obtain⟨rfl,rfl⟩:=e;split at h4
    ·rename_i el hu;obtain⟨r',gm,gl,gk⟩:=Zs2 (P:=P) (w:=w) hv hu h4 hl hh gn h1 h2;refine⟨r',?_,gl,Za1 gk⟩;simp only[execOp,h0,Sem.run_bind];rw[gm];rfl
    cases h4
   cases hv
  cases hc
 |nilChk=>
  simp only at hc;split at hc
  ·rename_i x h0;have hm:=Za5 h hc;have ht:=Zco h hc;simp only[Zbc]at hv;have key:∀y,xs.map (ev s.fr)=[y]->VR (cx k g s.H w) y (a.eval x)/\top y=true:=by
    intro y hy;rw[hy]at hm ht;obtain⟨u1,e,h1⟩:=ZfH hm;simp only[Z3,Z4,Zy,Zap]at e;exact⟨by rw[e];exact h1,ht y (by simp)⟩
   split at hv
   all_goals try (cases hv;done)
   all_goals
    rename_i hy;simp only[Zan]at hv;subst hv;obtain⟨h1,h2⟩:=key _ hy;refine⟨_,?_,h1,h2⟩;rw[VR]at h1
   ·obtain⟨b,e,_⟩:=h1;simp[execOp,h0,e]
   ·obtain⟨cs,b,_,_,e⟩:=h1;simp[execOp,h0,e]
   ·obtain⟨ver0,frz,rows,b,_,_,e,_⟩:=h1;simp[execOp,h0,e]
   ·obtain⟨xs',ys',e,_,_⟩:=h1;simp[execOp,h0,e]
   obtain⟨L,fr,st,b,_,_,e⟩:=h1;simp[execOp,h0,e]
  cases hc
 |isNil neg=>
  simp only at hc;split at hc
  ·rename_i op t x l0 c0 yt h0;simp only[Ze,Zas]at hc;obtain⟨⟨h5,h4⟩,hc⟩:=hc;have hm:=Za5 h hc;have ha:∃el,P.underlying t=some (.slice el):=by
    split at h4
    ·rename_i el hu;exact⟨el,hu⟩
    cases h4
   obtain⟨el,hu⟩:=ha;have key:∀y,xs.map (ev s.fr)=[y]->VR (cx k g s.H w) y (a.eval x):=by
    intro y hy;rw[hy]at hm;obtain⟨u1,e,h1⟩:=ZfH hm;simp only[Z3,Z4,Zy,Zap]at e;rw[e];exact h1
   have run:∀(A:Option Addr) (l1 c1:Nat),(Op.equal t (.slice A l1 c1) (.slice none l0 c0)).run P w=.ok A.isNone w:=λA l1 c1=>by
    exact Zo7 hu 9999 A l1 c1 l0 c0
   have fin:∀(A:Option Addr) (l1 c1:Nat),a.eval x=.slice A l1 c1->(execOp a.eval o).run P w=.ok (.value (.bool (if neg then !A.isNone else A.isNone))) w:=λA l1 c1 e1=>by
    have hg:(eqGuard op t x (.const (.slice none l0 c0)) (.slice A l1 c1) (.slice none l0 c0)).run P w=.ok () w:=by unfold eqGuard;split<;>rfl
    have e2:a.eval (.const (.slice none l0 c0))=.slice none l0 c0:=rfl;cases neg with
    |true=>
     simp only[Zaw]at h5;subst h5;simp[execOp,h0,e1,e2,hg,binOp,run]
    |false=>
     simp only[Zg,Zat]at h5;subst h5;simp[execOp,h0,e1,e2,hg,binOp,run]
   simp only[Zbc]at hv;split at hv
   ·rename_i hy;simp only[Zan]at hv;subst hv;have h1:=key _ hy;rw[VR]at h1;refine⟨_,fin none 0 0 h1,?_,rfl⟩;cases neg<;>exact ZeL _
   ·rename_i sz full r rs hy;simp only[Zan]at hv;subst hv;have h1:=key _ hy;rw[VR,PR]at h1;obtain⟨A,cap,e1,_,_,hA⟩:=h1;obtain⟨a0,rfl,_⟩:=hA (by simp);refine⟨_,fin _ _ _ e1,?_,rfl⟩;cases neg<;>exact ZeL _
   cases hv
  cases hc
end
end Go.Eng

namespace Go.Eng
open Go
def Did (P:Program)(k:K0)(n:Nat)(s':St)(a:Act)(w:World)(o:Oper):Prop:=
 ∃u w' g',((execOp a.eval o).run P w=.ok (.value u) w'∨((execOp a.eval o).run P w=.ok .skip w'/\u=undef))/\Rel k n g' s' (a.put o.dst u) w'
def chkM (P:Program)(n:Nat)(o:Oper):Ins->Bool
 |.load d x m isAgg=>decide (o.dst=some d)&&decide (d<n)&&(match o.op with
  |.load t X=>ZdA P t m&&ZsF P t isAgg&&ZeW X x
  |_=>false)
 |.loadL d x m isAgg=>decide (o.dst=some d)&&decide (d<n)&&(match o.op with
  |.load t X=>ZdA P t m&&ZsF P t isAgg&&ZeW X x
  |_=>false)
 |.store x y m=>decide (o.dst=none)&&(match o.op with
  |.store t X Y=>ZdA P t m&&ZeW X x&&ZeW Y y
  |_=>false)
 |.storeH x y m=>decide (o.dst=none)&&(match o.op with
  |.store t X Y=>ZdA P t m&&ZeW X x&&ZeW Y y
  |_=>false)
 |.newL d zero=>decide (o.dst=some d)&&decide (d<n)&&(match o.op with
  |.alloc t=>Zj5 P t zero
  |_=>false)
 |.boxL d x=>decide (o.dst=some d)&&decide (d<n)&&(match o.op with
  |.box _ X=>ZeW X x
  |_=>false)
 |.newH d zero=>decide (o.dst=some d)&&decide (d<n)&&(match o.op with
  |.alloc t=>Zj5 P t zero
  |_=>false)
 |.boxH d x=>decide (o.dst=some d)&&decide (d<n)&&(match o.op with
  |.box _ X=>ZeW X x
  |_=>false)
 |_=>false
section
variable {P:Program} {k:K0} {n:Nat} {g:G} {s:St} {a:Act} {w:World}
def Zo6 {t:TypeId}{m:Nat}{isA:Bool}{A:Addr}{us:List Value}(h1:ZdA P t m=true)(h2:ZsF P t isA=true)(hl:us.length=m)(h0:isA=false->m=1)
  (hc:∀j u,us[j]?=some u->w.cell? (A.add j)=some u):(loadVar t A).run P w=.ok (if isA then .agg us.toArray else us.getD 0 undef) w:=by
 unfold loadVar;simp only[Sem.run_bind,Zs7 h2,Result.andThen_ok];cases isA with
 |true=>
  simp only[Zaw,Sem.run_bind,Zdq h1,Result.andThen_ok,Sem.run_pure];rw[←hl,run_loadCells_list w A us hc];rfl
 |false=>
  have hm:=h0 rfl;subst hm
  match us,hl with
  |[u],_=>
   have:=hc 0 u rfl;rw[add_zero]at this;simp[this]
def Zt4 {c:Cx}{b:Nat}{vs:Array Value}(h:c.blk b vs){off m:Nat}:∀(j:Nat) u,((vs.toList.drop off).take m)[j]?=some u->c.w.cell? ((⟨b,off,none⟩:Addr).add j)=some u:=by
 intro j u hj;rw[ZS]at hj;split at hj
 ·rw[ZK]at hj;rw[ZgK,ZmM h];simpa using hj
 cases hj
def ZuS {c:Cx}:∀(ps:List PC) (us:List Value),us.length=ps.length->(∀(j:Nat) x u,ps[j]?=some x->us[j]?=some u->PR c.ok c.w x u)->VRL c (ps.map .p) us:=by
 intro ps us hl h;rw[Zew];refine⟨by simp[hl],λj x u hj hu=>?_⟩;rw[ZN]at hj;cases hp:ps[j]? with
 |none=>simp[hp]at hj
 |some p=>
  simp only[hp,Zam,Zan]at hj;subst hj;rw[VR];exact h j p u hp hu
def Zwt {c:Cx}:∀(ps:List PC) (us:List Value),us.length=ps.length->(∀(j:Nat) x u,ps[j]?=some x->us[j]?=some u->VR c (up x) u)->VRL c (ps.map up) us:=by
 intro ps us hl h;rw[Zew];refine⟨by simp[hl],λj x u hj hu=>?_⟩;rw[ZN]at hj;cases hp:ps[j]? with
 |none=>simp[hp]at hj
 |some p=>
  simp only[hp,Zam,Zan]at hj;subst hj;exact h j p u hp hu
def Zsi (ps:List PC):noLocL (ps.map up)=true:=by
 rw[ZcA];intro x hx;obtain⟨p,_,rfl⟩:=List.mem_map.1 hx;exact Zg2 p
def ZtD (ps:List PC):noLocL (ps.map .p)=true:=by
 rw[ZcA];intro x hx;obtain⟨p,_,rfl⟩:=List.mem_map.1 hx;rfl
def ZrY {R:PC->Value->Prop}{Q:Nat->Value->Prop}{ps:List PC}(h:∀(j:Nat) x,ps[j]?=some x->∃u,Q j u/\R x u):
  ∃us:List Value,us.length=ps.length/\(∀(j:Nat) u,us[j]?=some u->Q j u)/\∀(j:Nat) x u,ps[j]?=some x->us[j]?=some u->R x u:=by
 induction ps generalizing Q with
 |nil=>exact⟨[],rfl,by simp,by simp⟩
 |cons p ps ih=>
  obtain⟨u0,hq,hp⟩:=h 0 p rfl;obtain⟨us,h1,h2,h3⟩:=ih (Q:=λj=>Q (j+1)) (λj x hj=>h (j+1) x (by simpa using hj));refine⟨u0::us,by simp[h1],λj u hj=>?_,λj x u hj hu=>?_⟩
  ·cases j with
   |zero=>simp at hj;subst hj;exact hq
   |succ j=>exact h2 j u (by simpa using hj)
  cases j with
  |zero=>simp at hj hu;subst hj hu;exact hp
  |succ j=>exact h3 j x u (by simpa using hj) (by simpa using hu)
def Zu7 (h:Rel k n g s a w){m:Nat}{x:AV}{cs:List AV}{v:Value}(hr:rd s.bx s.H m x=some cs)(hv:VR (cx k g s.H w) x v):
  ∃A us,v=.pointer (some A)/\VRL (cx k g s.H w) cs us/\us.length=m/\noLocL cs=true/\∀(j:Nat) u,us[j]?=some u->w.cell? (A.add j)=some u:=by
 unfold rd at hr;split at hr
 ·rename_i t off;cases hb:bget s.bx t with
  |none=>simp[hb]at hr
  |some bs=>
   simp only[hb,Zak]at hr;obtain⟨b,hβ,h7,vs,h0,h2⟩:=h.boxes t bs hb;rw[VR]at hv;obtain⟨b',rfl,h3⟩:=hv;have:=h3 b hβ;subst this;obtain⟨h6,rfl⟩:=Zj9 hr;refine⟨_,(vs.toList.drop off).take m,rfl,ZnB h2 off m,?_,Zhd (ZaY h7) hr,Zt4 h0⟩;simp[h2.length]at h6⊢;have:=h2.length;simp at this;omega
 ·rename_i id off;split at hr
  ·rename_i bs hH;obtain⟨b,hρ,h7,vs,h0,h2⟩:=h.heap id _ hH;rw[VR]at hv;obtain⟨cs',b',_,h3,rfl⟩:=hv;have:b'=b:=by
    have:g.ρ[id]?=some b':=h3;rw[hρ]at this;cases this;rfl
   subst this;obtain⟨h6,rfl⟩:=Zj9 hr;refine⟨_,(vs.toList.drop off).take m,rfl,ZnB h2 off m,?_,Zhd (ZaY h7) hr,Zt4 h0⟩;have:=h2.length;simp at this;simp;omega
  cases hr
 ·rename_i sz id ver i off;split at hr
  ·rename_i sz' ver' frz rows hH;split at hr
   ·rename_i h5;obtain⟨rfl,rfl⟩:=h5;cases hi:rows[i]? with
    |none=>simp[hi]at hr
    |some r=>
     simp only[hi,Zak]at hr;cases hs:sub off m r with
     |none=>simp[hs]at hr
     |some ps=>
      simp only[hs,Zam,Zan]at hr;subst hr;obtain⟨b,hρ,vs,h0,hg,h1⟩:=h.heap id _ hH;rw[VR]at hv;obtain⟨ver0,frz',rows',b',hf,_,rfl,h8⟩:=hv;have e:some (HO.arr sz' ver' frz rows)=some (HO.arr sz' ver0 frz' rows'):=by
       have:s.H[id]?=some (HO.arr sz' ver0 frz' rows'):=hf;rw[hH]at this;exact this
      simp only[Zan,HO.arr.injEq]at e;have h3:g.ρ[id]?=some b':=h8 e.2.1;rw[hρ]at h3;cases h3;obtain⟨h6,rfl⟩:=Zj9 hs;obtain⟨us,u1,u2,u3⟩:=ZrY (R:=λx u=>VR (cx k g s.H w) (up x) u) (Q:=λj u=>vs[i*sz'+(off+j)]?=some u) (ps:=(r.drop off).take m) (λj x hj=>by
       rw[ZS]at hj;split at hj
       ·rw[ZK]at hj;exact(h1 i r hi).2 (off+j) x hj
       cases hj)
      refine⟨_,us,rfl,Zwt _ us u1 u3,?_,Zsi _,λj u hj=>?_⟩
      ·simp at u1;omega
      have he:w.cell? ⟨b,i*sz'+off+j,none⟩=_:=ZmM h0 (i*sz'+off+j);rw[ZgK,he,Zag];exact u2 j u hj
   cases hr
  cases hr
 ·rename_i sz rows i off;cases hi:rows[i]? with
  |none=>simp[hi]at hr
  |some r=>
   simp only[hi,Zak]at hr;cases hs:sub off m r with
   |none=>simp[hs]at hr
   |some ps=>
    simp only[hs,Zam,Zan]at hr;subst hr;rw[VR]at hv;obtain⟨a0,rfl,h4⟩:=hv;obtain⟨h6,rfl⟩:=Zj9 hs;have h1:=(ZjQ _ _).1 ((Zgw _ _).1 h4 i r hi).2;obtain⟨us,u1,u2,u3⟩:=ZrY (R:=PR (okOf k s.H g) w) (Q:=λj u=>w.cell? (a0.add (i*sz+(off+j)))=some u) (ps:=(r.drop off).take m) (λj x hj=>by
     rw[ZS]at hj;split at hj
     ·rw[ZK]at hj;obtain⟨u,h9,_,ha⟩:=h1 (off+j) x hj;rw[ZfG]at h9;exact⟨u,h9,ha⟩
     cases hj)
    refine⟨_,us,rfl,ZuS _ us u1 u3,?_,ZtD _,λj u hj=>?_⟩
    ·simp at u1;omega
    rw[ZfG,Zag];exact u2 j u hj
 cases hr
def ZiO (h:Rel k n g s a w){o:Oper}{d:Nat}{x:IX}{m:Nat}{isA:Bool}(hc:chkM P n o (.load d x m isA)=true){s':St}(hx:Zbb (.load d x m isA) s=some s'):Did P k n s' a w o:=by
 simp only[chkM,Ze,Zas]at hc;obtain⟨⟨hd,hn⟩,hc⟩:=hc;split at hc
 ·rename_i t X h8;simp only[Ze]at hc;obtain⟨⟨h7,h9⟩,hm⟩:=hc;simp only[Zbb]at hx;cases hr:rd s.bx s.H m (ev s.fr x)with
  |none=>simp[hr]at hx
  |some cs=>
   simp only[hr,Zak]at hx;split at hx
   rotate_left
   ·cases hx
   cases h0:mk isA cs with
   |none=>simp[h0]at hx
   |some r=>
    simp only[h0,Zam,Zan]at hx;subst hx;obtain⟨A,us,e,h1,h2,h3,h4⟩:=Zu7 h hr (Zcs h hm);have h6:isA=false->m=1:=λe=>by
     have:=Zvd h0 e;rw[←h2,h1.length];exact this
    have h5:=Zo6 (P:=P) (w:=w) h7 h9 h2 h6 h4;refine⟨_,w,g,.inl (by simp[execOp,h8,Instr.loadAt,e,Instr.sureAddr,h5];rfl),?_⟩;rw[hd];exact h.put hn (ZyK h0 h1) (Za1 (ZlD h0 h3))
 cases hc
def Zv9 {d:Nat}{x:IX}{m:Nat}{isA:Bool}{s':St}(hx:Zbb (.loadL d x m isA) s=some s'):Zbb (.load d x m isA) s=some s':=by
 simp only[Zbb]at hx⊢;split at hx
 ·rename_i t off e;rw[e];exact hx
 cases hx
def ZuF (h:Rel k n g s a w){o:Oper}{d:Nat}{x:IX}{m:Nat}{isA:Bool}(hc:chkM P n o (.loadL d x m isA)=true){s':St}(hx:Zbb (.loadL d x m isA) s=some s'):Did P k n s' a w o:=
 ZiO h hc (Zv9 hx)
def ZkQ {t:TypeId}{v:Value}:(newVar t v).run P w=.ok ⟨w.heap.size,0,none⟩ (w.alloc (.cells v.cells t)):=by
 simp[newVar,newRow]
def Zv1 (h:Rel k n g s a w){o:Oper}{d:Nat}{zero:List AV}(hc:chkM P n o (.newL d zero)=true){s':St}(hx:Zbb (.newL d zero) s=some s'):Did P k n s' a w o:=by
 simp only[chkM,Ze,Zas]at hc;obtain⟨⟨hd,hn⟩,hc⟩:=hc;split at hc
 ·rename_i t h3;simp only[Zbb,Zan]at hx;subst hx;obtain⟨v,h2,h1,h0⟩:=ZmR hc (cx k g s.H w) w;obtain⟨g',h4⟩:=h.newBox hn h0 h1 t;refine⟨.pointer (some ⟨w.heap.size,0,none⟩),w.alloc (.cells v.cells t),g',.inl ?_,by rw[hd];exact h4⟩;simp[execOp,h3,Instr.alloc,h2,ZkQ]
 cases hc
def Zwo (h:Rel k n g s a w){o:Oper}{d:Nat}{x:IX}(hc:chkM P n o (.boxL d x)=true){s':St}(hx:Zbb (.boxL d x) s=some s'):Did P k n s' a w o:=by
 simp only[chkM,Ze,Zas]at hc;obtain⟨⟨hd,hn⟩,hc⟩:=hc;split at hc
 ·rename_i t X h1;simp only[Zbb]at hx;split at hx
  ·rename_i h0;simp only[Zan]at hx;subst hx;obtain⟨g',h2⟩:=h.newBox hn h0 (ZhH h0 (Zcs h hc)) t;refine⟨.pointer (some ⟨w.heap.size,0,none⟩),w.alloc (.cells (a.eval X).cells t),g',.inl ?_,by rw[hd];exact h2⟩;simp[execOp,h1,Instr.box,ZkQ]
  cases hx
 cases hc
def Rel.newCells (h:Rel k n g s a w){d:Nat}(hn:d<n){cs:List AV}{vs:Array Value}(h2:ZaX cs=true)(hv:VRL (cx k g s.H w) cs vs.toList)(e:TypeId):
  ∃g',Rel k n g' ⟨Eng.put s.fr d (.ptr s.H.length 0),s.bx,s.H++[.cells cs]⟩ (a.put (some d) (.pointer (some ⟨w.heap.size,0,none⟩))) (w.alloc (.cells vs e)):=by
 have hg:=Grow.alloc w (.cells vs e);refine⟨⟨g.ρ++[w.heap.size],g.β⟩,?_⟩;have h0:∀hl:ZbA (cx k g s.H w) (cx k ⟨g.ρ++[w.heap.size],g.β⟩ (s.H++[.cells cs]) (w.alloc (.cells vs e))),HoR (cx k ⟨g.ρ++[w.heap.size],g.β⟩ (s.H++[.cells cs]) (w.alloc (.cells vs e))) w.heap.size (.cells cs):=
  λhl=>⟨h2,vs,⟨e,heap_alloc_new w _⟩,VRL.later hl cs _ (ZaY h2) hv⟩
 have hl:=h.laterNew (o:=.cells cs) (vs:=vs) e;obtain⟨h1,_⟩:=h.newObj e (h0 hl);refine h1.put hn ?_ rfl;rw[VR];refine⟨cs,w.heap.size,?_,?_,rfl⟩
 ·show(s.H++[.cells cs])[s.H.length]?=_;simp
 show(g.ρ++[w.heap.size])[s.H.length]?=_;rw[←h.len];simp
def Zv2 (h:Rel k n g s a w){o:Oper}{d:Nat}{zero:List AV}(hc:chkM P n o (.newH d zero)=true){s':St}(hx:Zbb (.newH d zero) s=some s'):Did P k n s' a w o:=by
 simp only[chkM,Ze,Zas]at hc;obtain⟨⟨hd,hn⟩,hc⟩:=hc;split at hc
 ·rename_i t h3;simp only[Zbb,Zan]at hx;subst hx;obtain⟨v,h2,h1,h0⟩:=ZmR hc (cx k g s.H w) w;obtain⟨g',h4⟩:=h.newCells hn h0 h1 t;refine⟨.pointer (some ⟨w.heap.size,0,none⟩),w.alloc (.cells v.cells t),g',.inl ?_,by rw[hd];exact h4⟩;simp[execOp,h3,Instr.alloc,h2,ZkQ]
 cases hc
def Zwp (h:Rel k n g s a w){o:Oper}{d:Nat}{x:IX}(hc:chkM P n o (.boxH d x)=true){s':St}(hx:Zbb (.boxH d x) s=some s'):Did P k n s' a w o:=by
 simp only[chkM,Ze,Zas]at hc;obtain⟨⟨hd,hn⟩,hc⟩:=hc;split at hc
 ·rename_i t X h1;simp only[Zbb]at hx;split at hx
  ·rename_i h0;simp only[Zan]at hx;subst hx;obtain⟨g',h2⟩:=h.newCells hn h0 (ZhH h0 (Zcs h hc)) t;refine⟨.pointer (some ⟨w.heap.size,0,none⟩),w.alloc (.cells (a.eval X).cells t),g',.inl ?_,by rw[hd];exact h2⟩;simp[execOp,h1,Instr.box,ZkQ]
  cases hx
 cases hc
def Zu0 (wk:PC->PC)(un:List AV->Option (List PC))(h4:∀c x u,VR c (.p x) u->isOw x=false->VR c (up (wk x)) u)(h0:un []=some [])(hp:∀x r,un (.p x::r)=if isOw x then none else(un r).map (wk x:: ·))
  (ho:∀sz id ver off len r,un (.osl sz id ver off len::r)=if off=0 then(un r).map (.ow sz id ver len:: ·)else none) (h5:∀a r,(∀x,a≠.p x)->(∀sz id ver off len,a≠.osl sz id ver off len)->un (a::r)=none)
  {cs:List AV} {ps:List PC} (h:un cs=some ps):cs.length=ps.length/\ZaX cs=true/\∀(c:Cx) (us:List Value),VRL c cs us->VRL c (ps.map up) us:=by
 induction cs generalizing ps with
 |nil=>rw[h0,Zan]at h;subst h;exact⟨rfl,rfl,λ_ _ h=>h⟩
 |cons c cs ih=>
  cases c with
  |p x=>
   rw[hp]at h;split at h
   ·cases h
   rename_i hx;cases hu:un cs with
   |none=>simp[hu]at h
   |some r=>
    simp only[hu,Zam,Zan]at h;subst h;obtain⟨h1,h2,h3⟩:=ih hu;refine⟨by simp[h1],by simp[ZaX,ZdX,h2],λc us hv=>?_⟩;rw[VRL]at hv;obtain⟨u,us,rfl,v1,v2⟩:=hv;rw[Z3,VRL];exact⟨u,us,rfl,h4 c x u v1 (by simpa using hx),h3 c us v2⟩
  |osl sz id ver off len=>
   rw[ho]at h;split at h
   ·rename_i hx;subst hx;cases hu:un cs with
    |none=>simp[hu]at h
    |some r=>
     simp only[hu,Zam,Zan]at h;subst h;obtain⟨h1,h2,h3⟩:=ih hu;refine⟨by simp[h1],by simp[ZaX,ZdX,h2],λc us hv=>?_⟩;rw[VRL]at hv;obtain⟨u,us,rfl,v1,v2⟩:=hv;rw[Z3,VRL];exact⟨u,us,rfl,v1,h3 c us v2⟩
   cases h
  |_=>rw[h5 _ _ (λ_ e=>by cases e) (λ_ _ _ _ _ e=>by cases e)]at h;cases h
def Zwf {x:PC}:isOw (weakP x)=isOw x:=by cases x<;>rfl
def ZoR {cs:List AV}{ps:List PC}(h:unP cs=some ps):cs.length=ps.length/\ZaX cs=true/\∀(c:Cx) (us:List Value),VRL c cs us->VRL c (ps.map up) us:=by
 refine Zu0 weakP unP (λc x u hv hx=>?_) rfl (λ_ _=>rfl) (λ_ _ _ _ _ _=>rfl) (λa r h1 h2=>?_) h
 ·rw[VR]at hv;exact ZoL (by rw[Zwf];exact hx) hv.weak
 cases a<;>first|rfl|exact absurd rfl (h1 _)|exact absurd rfl (h2 _ _ _ _ _)
def ZwM {cs:List AV}{ps:List PC}(h:unF cs=some ps):cs.length=ps.length/\ZaX cs=true/\∀(c:Cx) (us:List Value),VRL c cs us->VRL c (ps.map up) us:=by
 refine Zu0 (λx=>x) unF (λc x u hv hx=>?_) rfl (λ_ _=>rfl) (λ_ _ _ _ _ _=>rfl) (λa r h1 h2=>?_) h
 ·rw[VR]at hv;exact ZoL hx hv
 cases a<;>first|rfl|exact absurd rfl (h1 _)|exact absurd rfl (h2 _ _ _ _ _)
def Ziy {α:Type}{off:Nat}{cs l l':List α}(h:Zb3 off cs l=some l'):off+cs.length<=l.length/\l'=l.take off++cs++l.drop (off+cs.length):=by
 unfold Zb3 at h;split at h
 ·simp only[Zan]at h;exact⟨by assumption,h.symm⟩
 cases h
def Zf6 {α:Type}{off:Nat}{cs l l':List α}(h:Zb3 off cs l=some l')(j:Nat):l'[j]?=if j<off then l[j]? else if j<off+cs.length then cs[j-off]? else l[j]?:=by
 obtain⟨h0,rfl⟩:=Ziy h;have e1:(l.take off).length=off:=by simp;omega
 split
 ·rename_i hj;rw[Zx,ZG (by omega),List.getElem?_take_of_lt hj]
 rename_i hj;rw[Zx,ZH (by omega),e1];split
 ·rw[ZG (by omega)]
 rw[ZH (by omega),ZK]
 congr 1;omega
def Zo2 (h:Rel k n g s a w){o:Oper}{x y:IX}{m:Nat}(hc:chkM P n o (.store x y m)=true){s':St}(hx:Zbb (.store x y m) s=some s'):Did P k n s' a w o:=by
 simp only[chkM,Ze,Zas]at hc;obtain⟨hd,hc⟩:=hc;split at hc
 ·rename_i t X Y gg;simp only[Ze]at hc;obtain⟨⟨gd,gi⟩,gh⟩:=hc;have hh:=Zcs h gi;have gb:=Zcs h gh;simp only[Zbb]at hx;split at hx
  ·rename_i h7;obtain⟨g3,hu⟩:=h7;have h2:=ZhH hu gb;have hg:=Zkw hu h2;have he:=h2.length;generalize gp:cellsOf (ev s.fr y)=cs at*;generalize g7:(a.eval Y).cells.toList=us at*;have ht:(a.eval Y).cells.size=m:=by
    have:(a.eval Y).cells.toList.length=m:=by rw[g7,he,g3]
    simpa using this
   have hf:∀A w',a.eval X=.pointer (some A)->(storeCells A us).run P w=.ok () w'->(execOp a.eval o).run P w=.ok .skip w':=by
    intro A w' e h8;simp[execOp,gg,Instr.storeAt,e,Instr.sureAddr,storeVar,Zdq gd,ht,g7,h8]
   unfold wrt at hx;split at hx
   ·rename_i t' off hv;rw[hv,VR]at hh;obtain⟨b',eX,g6⟩:=hh;cases hb:bget s.bx t' with
    |none=>simp[hb]at hx
    |some bs=>
     simp only[hb,Zak]at hx;cases h3:Zb3 off cs bs with
     |none=>simp[h3]at hx
     |some bs'=>
      simp only[h3,Zam,Zan]at hx;subst hx;obtain⟨b,hβ,h9,vs,h0,hm⟩:=h.boxes t' bs hb;have:=g6 b hβ;subst this;obtain⟨e,h4⟩:=id h0;have hy:=hm.length;simp only[Zd]at hy;have g8:=(Ziy h3).1;have h8:=run_storeCells_at P b' off e us 0 vs w h4 (by omega) hg;simp only[Zai]at h8;refine⟨undef,_,g,.inr ⟨hf _ _ eX h8,rfl⟩,?_⟩;rw[hd];refine h.setBox hβ h0 ?_ (Upd.setRow (c:=cx k g s.H w) h0 _) (ZeV h3 hu h9) ?_
      ·simp;omega
      simpa using ZnC h3 h2 hm
   ·rename_i id' off hv;rw[hv,VR]at hh;obtain⟨cs0,b',_,g6,eX⟩:=hh;split at hx
    ·rename_i bs hH;cases h3:Zb3 off cs bs with
     |none=>simp[h3]at hx
     |some bs'=>
      simp only[h3,Zam,Zan]at hx;subst hx;obtain⟨b,hρ,h9,vs,h0,hm⟩:=h.heap id' _ hH;have:b'=b:=by
       have:g.ρ[id']?=some b':=g6;rw[hρ]at this;cases this;rfl
      subst this;obtain⟨e,h4⟩:=id h0;have hy:=hm.length;simp only[Zd]at hy;have g8:=(Ziy h3).1;have h8:=run_storeCells_at P b' off e us 0 vs w h4 (by omega) hg;simp only[Zai]at h8;refine⟨undef,_,g,.inr ⟨hf _ _ eX h8,rfl⟩,?_⟩;rw[hd];refine h.setObj hρ hH (.inl ⟨bs,bs',rfl,rfl⟩) h0 ?_ (Upd.setRow (c:=cx k g s.H w) h0 _) (λhl=>?_)
      ·simp;omega
      refine⟨ZeV h3 hu h9,_,(Upd.setRow (c:=cx k g s.H w) h0 _).here,?_⟩;have:=ZnC h3 h2 hm;exact VRL.later hl bs' _ (ZaY (ZeV h3 hu h9)) (by simpa using this)
    cases hx
   ·rename_i sz id' ver i off hv;rw[hv,VR]at hh;obtain⟨ver0,frz0,rows0,b',gl,_,eX,g5⟩:=hh;split at hx
    ·rename_i sz' ver' rows hH;split at hx
     ·rename_i h7;obtain⟨rfl,rfl⟩:=h7;cases hi:rows[i]? with
      |none=>simp[hi]at hx
      |some r=>
       simp only[hi,Zak]at hx;cases hz:unP cs with
       |none=>simp[hz]at hx
       |some ps=>
        simp only[hz,Zak]at hx;cases h3:Zb3 off ps r with
        |none=>simp[h3]at hx
        |some r'=>
         simp only[h3,Zam,Zan]at hx;subst hx;obtain⟨ecl,_,ecs⟩:=ZoR hz;have e0:s.H[id']?=some (HO.arr sz' ver0 frz0 rows0):=gl;rw[hH]at e0;simp only[Zan,HO.arr.injEq]at e0;have hρ:g.ρ[id']?=some b':=g5 e0.2.1;obtain⟨b,hρ',vs,h0,gc,h6⟩:=h.heap id' _ hH;rw[hρ]at hρ';cases hρ';obtain⟨e,h4⟩:=id h0;have gm:=(h6 i r hi).1;have g8:=(Ziy h3).1;have ga:i<rows.length:=(List.getElem?_eq_some_iff.1 hi).1;have gn:ps.length=us.length:=by rw[he];exact ecl.symm
         have g4:i*sz'+off+us.length<=vs.size:=by
          have h1:(i+1)*sz'<=rows.length*sz':=Nat.mul_le_mul_right _ ga;rw[Zah]at h1;omega
         have h8:=run_storeCells_at P b' (i*sz'+off) e us 0 vs w h4 (by omega) hg;simp only[Zai]at h8;refine⟨undef,_,g,.inr ⟨hf _ _ eX h8,rfl⟩,?_⟩;rw[hd];refine h.setObj hρ hH (.inr ⟨sz',ver',rows,rows.set i r',rfl,rfl,by simp⟩) h0 ?_ (Upd.setRow (c:=cx k g s.H w) h0 _) (λhl=>?_)
         ·simp;omega
         have h5:VRL (cx k g s.H w) (ps.map up) us:=ecs _ _ h2;rw[Zew]at h5;refine⟨_,(Upd.setRow (c:=cx k g s.H w) h0 _).here,?_,λq r1 hq=>?_⟩
         ·simp;omega
         have ha:∀(j:Nat),(vs.toList.take (i*sz'+off)++us++vs.toList.drop (i*sz'+off+us.length)).toArray[j]?=if j<i*sz'+off then vs[j]? else if j<i*sz'+off+us.length then us[j-(i*sz'+off)]? else vs[j]?:=by
          intro j;have gf:Zb3 (i*sz'+off) us vs.toList=some (vs.toList.take (i*sz'+off)++us++vs.toList.drop (i*sz'+off+us.length)):=by
           unfold Zb3;rw[Zav (by simpa using g4)]
          have:=Zf6 gf j;simpa using this
         rw[ZP]at hq;by_cases g0:i=q
         ·subst g0;simp only[ga,Zaw,Zan]at hq;subst hq;refine⟨?_,λj x hj=>?_⟩
          ·rw[(Ziy h3).2];simp;omega
          rw[Zf6 h3]at hj;split at hj
          ·obtain⟨u,hk,hn⟩:=(h6 i r hi).2 j x hj;exact⟨u,by rw[ha,Zav (by omega)];exact hk,VR.later hl _ u (Zg2 x) hn⟩
          split at hj
          ·have g9:us[j-off]?=some (us[j-off]'(by omega)):=ZL (by omega);refine⟨us[j-off]'(by omega),?_,?_⟩
           ·rw[ha,Zau (by omega),Zav (by omega),show i*sz'+j-(i*sz'+off)=j-off by omega];exact g9
           have:=h5.2 (j-off) (up x) _ (by simp[hj]) g9;exact VR.later hl _ _ (Zg2 x) this
          obtain⟨u,hk,hn⟩:=(h6 i r hi).2 j x hj;exact⟨u,by rw[ha,Zau (by omega),Zau (by omega)];exact hk,VR.later hl _ u (Zg2 x) hn⟩
         rw[Zau g0]at hq;refine⟨(h6 q r1 hq).1,λj x hj=>?_⟩;obtain⟨u,hk,hn⟩:=(h6 q r1 hq).2 j x hj;refine⟨u,?_,VR.later hl _ u (Zg2 x) hn⟩;have go:j<sz':=by rw[←(h6 q r1 hq).1];exact(List.getElem?_eq_some_iff.1 hj).1
         rw[ha];rcases Nat.lt_or_gt_of_ne g0 with gj|gk
         ·have h1:(i+1)*sz'<=q*sz':=Nat.mul_le_mul_right _ gj;rw[Zah]at h1;rw[Zau (by omega),Zau (by omega)];exact hk
         have h1:(q+1)*sz'<=i*sz':=Nat.mul_le_mul_right _ gk;rw[Zah]at h1;rw[Zav (by omega)];exact hk
     cases hx
    cases hx
   cases hx
  cases hx
 cases hc
end
end Go.Eng

