/- The abstract machine: values, memory, instructions (definitions only). -/
import GoSem.Step
set_option linter.unusedVariables false
set_option linter.unusedSimpArgs false
namespace Go.Eng

/-- A pure cell: an integer, a bool, or an immutable slice (rows of cells; 'full': the capacity is the length). -/
inductive PC where
  | int (k : IntKind) (n : Int)
  | bool (b : Bool)
  | sl (sz : Nat) (full : Bool) (rows : List (List PC))

inductive NL where
  | nilFunc | nilIface | nilPtr | nilMap | unit

def NL.val : NL → Value
  | .nilFunc => .nilFunc
  | .nilIface => .nilIface
  | .nilPtr => .pointer none
  | .nilMap => .map none
  | .unit => .tuple #[]

inductive AV where
  | any
  | p (x : PC)
  | nl (x : NL)
  | agg (cs : List AV)
  | tup (vs : List AV)
  | osl (sz id ver off len : Nat)
  | optr (sz id ver i off : Nat)
  | ppt (sz : Nat) (rows : List (List PC)) (i off : Nat)
  | ptr (id off : Nat)
  | loc (t off : Nat)
  | fn (f : Nat) (first cap : List AV)
  | map (id : Nat)

inductive HO where
  | arr (sz ver : Nat) (frz : Bool) (rows : List (List PC))
  | cells (cs : List AV)

structure St where
  fr : List (Nat × AV)
  bx : List (Nat × List AV)
  H : List HO

def get : List (Nat × AV) → Nat → AV
  | [], _ => .any
  | (u, v) :: r, t => if u = t then v else get r t

def put : List (Nat × AV) → Nat → AV → List (Nat × AV)
  | [], t, v => [(t, v)]
  | (u, x) :: r, t, v => if t < u then (t, v) :: (u, x) :: r else if t = u then (t, v) :: r else (u, x) :: put r t v

def bget : List (Nat × List AV) → Nat → Option (List AV)
  | [], _ => none
  | (u, v) :: r, t => if u = t then some v else bget r t

def bput : List (Nat × List AV) → Nat → List AV → List (Nat × List AV)
  | [], t, v => [(t, v)]
  | (u, x) :: r, t, v => if t < u then (t, v) :: (u, x) :: r else if t = u then (t, v) :: r else (u, x) :: bput r t v

/-- Pointers into the old box of slot t go. -/
def unloc (t : Nat) : List (Nat × AV) → List (Nat × AV)
  | [] => []
  | (u, v) :: r => match v with
    | .loc t' _ => if t' = t then (u, .any) :: unloc t r else (u, v) :: unloc t r
    | _ => (u, v) :: unloc t r

def keepF (ks : List Nat) : List (Nat × AV) → List (Nat × AV)
  | [] => []
  | (u, v) :: r => if ks.elem u then (u, v) :: keepF ks r else keepF ks r

def keepB (ks : List Nat) : List (Nat × List AV) → List (Nat × List AV)
  | [] => []
  | (u, v) :: r => if ks.elem u then (u, v) :: keepB ks r else keepB ks r

def sub {α : Type} (off n : Nat) (l : List α) : Option (List α) :=
  if off + n ≤ l.length then some ((l.drop off).take n) else none

def splice {α : Type} (off : Nat) (cs l : List α) : Option (List α) :=
  if off + cs.length ≤ l.length then some (l.take off ++ cs ++ l.drop (off + cs.length)) else none

/-- No pointer into a box of the frame, anywhere. -/
def noLoc : AV → Bool
  | .loc .. => false
  | .agg cs => noLocL cs
  | .tup cs => noLocL cs
  | .fn _ a b => noLocL a && noLocL b
  | _ => true
 where noLocL : List AV → Bool
  | [] => true
  | c :: cs => noLoc c && noLocL cs
abbrev noLocL := noLoc.noLocL

/-- Cells that may lie in memory. -/
def okCell : AV → Bool
  | .p _ | .nl .nilFunc | .nl .nilIface | .nl .nilPtr | .nl .nilMap | .osl .. | .ptr .. | .map _ => true
  | .fn _ a b => noLocL a && noLocL b
  | _ => false

def okCells : List AV → Bool
  | [] => true
  | c :: cs => okCell c && okCells cs

def cellsOf : AV → List AV
  | .agg cs => cs
  | v => [v]

def mk (isAgg : Bool) (cs : List AV) : Option AV :=
  if isAgg then some (.agg cs) else match cs with
    | [c] => some c
    | _ => none

/-- A slice of which nothing is known about the capacity. -/
def weakP : PC → PC
  | .sl sz _ rows => .sl sz false rows
  | x => x

def weak1 : AV → AV
  | .p x => .p (weakP x)
  | x => x

def weakL : List AV → List AV
  | [] => []
  | c :: cs => weak1 c :: weakL cs

def weakV : AV → AV
  | .agg cs => .agg (weakL cs)
  | v => weak1 v

def weakVs : List AV → List AV
  | [] => []
  | c :: cs => weakV c :: weakVs cs

def unP : List AV → Option (List PC)
  | [] => some []
  | .p x :: r => (unP r).map (weakP x :: ·)
  | _ :: _ => none

inductive IX where
  | t (n : Nat)
  | k (v : AV)

def ev (fr : List (Nat × AV)) : IX → AV
  | .t n => get fr n
  | .k v => v

/-- Integer and bool operators. -/
def binI (op : BinOp) (k : IntKind) (a b : Int) : Option PC :=
  match op with
  | .add => some (.int k (k.wrap (a + b)))
  | .sub => some (.int k (k.wrap (a - b)))
  | .mul => some (.int k (k.wrap (a * b)))
  | .quo => if b = 0 then none else some (.int k (k.wrap (a.tdiv b)))
  | .rem => if b = 0 then none else some (.int k (a.tmod b))
  | .and => some (.int k (k.wrap (BitVec.ofInt k.bits a &&& BitVec.ofInt k.bits b).toNat))
  | .or => some (.int k (k.wrap (BitVec.ofInt k.bits a ||| BitVec.ofInt k.bits b).toNat))
  | .xor => some (.int k (k.wrap (BitVec.ofInt k.bits a ^^^ BitVec.ofInt k.bits b).toNat))
  | .eql => some (.bool (a == b))
  | .neq => some (.bool (a != b))
  | .lss => some (.bool (a < b))
  | .leq => some (.bool (a ≤ b))
  | .gtr => some (.bool (a > b))
  | .geq => some (.bool (a ≥ b))
  | _ => none

def shI (op : BinOp) (k : IntKind) (a b : Int) : Option PC :=
  if b < 0 then none else match op with
    | .shl => some (.int k (k.wrap (a * 2 ^ (min b.toNat k.bits))))
    | .shr => some (.int k (a.fdiv (2 ^ (min b.toNat k.bits))))
    | _ => none

inductive VI where
  | mov
  | bin (op : BinOp)
  | sh (op : BinOp)
  | eqB (neg : Bool)
  | eqS (neg : Bool) (ks : List Bool)
  | not
  | neg
  | conv (k : IntKind)
  | pick
  | faddr (off : Nat)
  | iaddr (n sz : Nat)
  | iaddrS (sz : Nat)
  | idx (n sz : Nat) (isAgg : Bool)
  | fld (off n : Nat) (isAgg : Bool)
  | build (zero : List AV) (parts : List (Nat × Nat))
  | len
  | lenA (n : Nat)
  | ext (i : Nat)
  | mkfn (f : Nat) (nfirst : Nat)
  | min | max
  | slice (sz : Nat) (lo hi mx : Bool)
  | nilChk

def addOff (o : Nat) : AV → Option AV
  | .loc t off => some (.loc t (off + o))
  | .ptr id off => some (.ptr id (off + o))
  | .optr sz id ver i off => some (.optr sz id ver i (off + o))
  | .ppt sz rows i off => some (.ppt sz rows i (off + o))
  | _ => none

/-- Equality of structs of ints (true) and bools (false), cell by cell. -/
def eqCells : List Bool → List AV → List AV → Option Bool
  | [], [], [] => some true
  | true :: ks, .p (.int k a) :: r, .p (.int k' b) :: r' => if k = k' then (eqCells ks r r').map ((a == b) && ·) else none
  | false :: ks, .p (.bool a) :: r, .p (.bool b) :: r' => (eqCells ks r r').map ((a == b) && ·)
  | _, _, _ => none

def fillParts (cells : List AV) : List (Nat × Nat) → List AV → Option (List AV)
  | [], [] => some cells
  | (off, n) :: ps, v :: vs =>
    if (cellsOf v).length = n ∧ okCells (cellsOf v) = true then (splice off (cellsOf v) cells).bind fun c => fillParts c ps vs else none
  | _, _ => none

/-- A slice literal: every element given, in order. -/
def slRows (sz : Nat) : List AV → Option (List (List PC))
  | [] => some []
  | v :: vs => if (cellsOf v).length = sz then (unP (cellsOf v)).bind fun r => (slRows sz vs).map (r :: ·) else none

def minI : List AV → Option AV
  | [.p (.int k a), .p (.int _ b)] => some (.p (.int k (if b < a then b else a)))
  | [.p (.int k a), .p (.int _ b), .p (.int _ c)] => some (.p (.int k (if c < (if b < a then b else a) then c else (if b < a then b else a))))
  | _ => none

def maxI : List AV → Option AV
  | [.p (.int k a), .p (.int _ b)] => some (.p (.int k (if b > a then b else a)))
  | [.p (.int k a), .p (.int _ b), .p (.int _ c)] => some (.p (.int k (if c > (if b > a then b else a) then c else (if b > a then b else a))))
  | _ => none

/-- The bounds of a slice expression: what was given, or the default. -/
def bound (given : Bool) (dflt : Nat) (vs : List AV) : Option (Nat × List AV) :=
  if given then match vs with
    | .p (.int _ n) :: r => if 0 ≤ n then some (n.toNat, r) else none
    | _ => none
  else some (dflt, vs)

def sliceV (sz : Nat) (lo hi mx : Bool) (x : AV) (vs : List AV) : Option AV :=
  match x with
  | .p (.sl sz' _ rows) =>
    (bound lo 0 vs).bind fun (l, vs) => (bound hi rows.length vs).bind fun (h, vs) => (bound mx h vs).bind fun (m, vs) =>
    if vs.isEmpty ∧ l ≤ h ∧ h ≤ rows.length ∧ m = h ∧ sz' = sz ∧ (mx = true → hi = true) then some (.p (.sl sz mx ((rows.take h).drop l))) else none
  | .osl sz' id ver off len =>
    (bound lo 0 vs).bind fun (l, vs) => (bound hi len vs).bind fun (h, vs) =>
    if vs.isEmpty ∧ mx = false ∧ l ≤ h ∧ h ≤ len ∧ (l = 0 ∨ l < len) ∧ sz' = sz then some (.osl sz id ver (off + l) (h - l)) else none
  | _ => none

def vexec (v : VI) (xs : List AV) : Option AV :=
  match v with
  | .mov => match xs with
    | [x] => some x
    | _ => none
  | .bin op => match xs with
    | [.p (.int k a), .p (.int k' b)] => if k = k' then (binI op k a b).map .p else none
    | _ => none
  | .sh op => match xs with
    | [.p (.int k a), .p (.int _ b)] => (shI op k a b).map .p
    | _ => none
  | .eqB neg => match xs with
    | [.p (.bool a), .p (.bool b)] => some (.p (.bool (if neg then a != b else a == b)))
    | _ => none
  | .eqS neg ks => match xs with
    | [.agg a, .agg b] => (eqCells ks a b).map fun e => .p (.bool (if neg then !e else e))
    | _ => none
  | .not => match xs with
    | [.p (.bool a)] => some (.p (.bool !a))
    | _ => none
  | .neg => match xs with
    | [.p (.int k a)] => some (.p (.int k (k.wrap (0 - a))))
    | _ => none
  | .conv k => match xs with
    | [.p (.int _ a)] => some (.p (.int k (k.wrap a)))
    | _ => none
  | .pick => match xs with
    | [.p (.bool c), a, b] => some (if c then a else b)
    | _ => none
  | .faddr off => match xs with
    | [x] => addOff off x
    | _ => none
  | .iaddr n sz => match xs with
    | [x, .p (.int _ i)] => if 0 ≤ i ∧ i < n then addOff (i.toNat * sz) x else none
    | _ => none
  | .iaddrS sz => match xs with
    | [.p (.sl sz' _ rows), .p (.int _ i)] => if sz' = sz ∧ 0 ≤ i ∧ i < rows.length then some (.ppt sz rows i.toNat 0) else none
    | [.osl sz' id ver off len, .p (.int _ i)] => if sz' = sz ∧ 0 ≤ i ∧ i < len then some (.optr sz id ver (off + i.toNat) 0) else none
    | _ => none
  | .idx n sz isAgg => match xs with
    | [.agg cs, .p (.int _ i)] => if 0 ≤ i ∧ i < n then (sub (i.toNat * sz) sz cs).bind (mk isAgg) else none
    | _ => none
  | .fld off n isAgg => match xs with
    | [.agg cs] => (sub off n cs).bind (mk isAgg)
    | _ => none
  | .build zero parts => (fillParts zero parts xs).map .agg
  | .len => match xs with
    | [.p (.sl _ _ rows)] => some (.p (.int .i64 rows.length))
    | [.osl _ _ _ _ len] => some (.p (.int .i64 len))
    | _ => none
  | .lenA n => some (.p (.int .i64 n))
  | .ext i => match xs with
    | [.tup vs] => vs[i]?
    | _ => none
  | .mkfn f nfirst => if noLocL xs then some (.fn f (xs.take nfirst) (xs.drop nfirst)) else none
  | .min => minI xs
  | .max => maxI xs
  | .slice sz lo hi mx => match xs with
    | x :: vs => sliceV sz lo hi mx x vs
    | _ => none
  | .nilChk => match xs with
    | [.loc t o] => some (.loc t o)
    | [.ptr i o] => some (.ptr i o)
    | [.optr sz i v j o] => some (.optr sz i v j o)
    | [.fn f a b] => some (.fn f a b)
    | _ => none

inductive Ins where
  | val (d : Nat) (v : VI) (xs : List IX)
  | load (d : Nat) (x : IX) (n : Nat) (isAgg : Bool)
  | loadL (d : Nat) (x : IX) (n : Nat) (isAgg : Bool)
  | store (x y : IX) (n : Nat)
  | newL (d : Nat) (zero : List AV)
  | boxL (d : Nat) (x : IX)
  | newH (d : Nat) (zero : List AV)
  | boxH (d : Nat) (x : IX)
  | mkSl (d : Nat) (n c : IX) (zero : List PC) (bytes : Nat)
  | app (d : Nat) (s x : IX) (sz bytes : Nat)
  | litSl (d : Nat) (sz : Nat) (xs : List IX)
  | litP (d : Nat) (sz : Nat) (xs : List IX)
  | call (d : Option Nat) (f : Nat) (xs : List IX)
  | callP (d : Nat) (f : Nat) (xs : List IX)
  | callV (d : Option Nat) (f : IX) (xs : List IX)

/-- An operation: its guard (a slot, and what it must hold); the operations that surely come first (where the order is open). -/
structure IOp where
  g : Option (Nat × Bool)
  i : Ins
  pre : List Nat := []

inductive IC where
  | skip
  | reg (ops : List IOp) (keep : List Nat)
  | regD (ops : List IOp) (keep : List Nat)
  | regF (fs : List Nat) (ops : List IOp) (keep : List Nat)
  | seq (a b : IC)
  | cond (x : IX) (a b : IC)
  | block (id : Nat) (a : IC)
  | loop (a : IC)
  | exit (id : Nat)
  | scope (a : IC)
  | label (l : Nat)
  | goto (l : Nat)
  | ret
  | kp (ks : List Nat) (a : IC)

/-- Reading memory. -/
def rd (bx : List (Nat × List AV)) (H : List HO) (n : Nat) : AV → Option (List AV)
  | .loc t off => (bget bx t).bind (sub off n)
  | .ptr id off => match H[id]? with
    | some (.cells cs) => sub off n cs
    | _ => none
  | .optr sz id ver i off => match H[id]? with
    | some (.arr sz' ver' _ rows) => if sz' = sz ∧ ver' = ver then (rows[i]?).bind fun r => (sub off n r).map (·.map .p) else none
    | _ => none
  | .ppt _ rows i off => (rows[i]?).bind fun r => (sub off n r).map (·.map .p)
  | _ => none

structure Mem where
  bx : List (Nat × List AV)
  H : List HO

/-- Writing memory. -/
def wrt (bx : List (Nat × List AV)) (H : List HO) (cs : List AV) : AV → Option Mem
  | .loc t off => (bget bx t).bind fun b => (splice off cs b).map fun b' => ⟨bput bx t b', H⟩
  | .ptr id off => match H[id]? with
    | some (.cells b) => (splice off cs b).map fun b' => ⟨bx, H.set id (.cells b')⟩
    | _ => none
  | .optr sz id ver i off => match H[id]? with
    | some (.arr sz' ver' false rows) =>
      if sz' = sz ∧ ver' = ver then (rows[i]?).bind fun r => (unP cs).bind fun ps => (splice off ps r).map fun r' => ⟨bx, H.set id (.arr sz ver false (rows.set i r'))⟩
      else none
    | _ => none
  | _ => none

/-- The rows that a slice value holds. -/
def rowsOf (H : List HO) (sz : Nat) : AV → Option (List (List PC))
  | .p (.sl sz' _ rows) => if sz' = sz then some rows else none
  | .osl sz0 id ver off len => match H[id]? with
    | some (.arr sz' ver' _ rows) => if sz0 = sz ∧ sz' = sz ∧ ver' = ver then sub off len rows else none
    | _ => none
  | _ => none

def appV (H : List HO) (sz bytes : Nat) (s : AV) (new : List (List PC)) : Option (AV × List HO) :=
  match s with
  | .p (.sl sz' full rows) =>
    if sz' = sz ∧ full = true ∧ (rows.length + new.length) * bytes ≤ 140737488355328 ∧ rows.length + new.length ≤ 140737488355328 then
      if new = [] then some (s, H) else some (.osl sz H.length 0 0 (rows.length + new.length), H ++ [.arr sz 0 false (rows ++ new)])
    else none
  | .osl sz0 id ver off len => match H[id]? with
    | some (.arr sz' ver' frz rows) =>
      if sz0 = sz ∧ sz' = sz ∧ ver' = ver ∧ off = 0 ∧ (len + new.length) * bytes ≤ 140737488355328 ∧ len + new.length ≤ 140737488355328 ∧ len = rows.length then
        some (.osl sz id (ver + 1) 0 (len + new.length), H.set id (.arr sz (ver + 1) frz (rows ++ new)))
      else none
    | _ => none
  | _ => none

def putO (fr : List (Nat × AV)) : Option Nat → AV → List (Nat × AV)
  | some d, v => put fr d v
  | none, _ => fr

def dstI : Ins → Option Nat
  | .val d _ _ | .load d _ _ _ | .loadL d _ _ _ | .newL d _ | .boxL d _ | .newH d _ | .boxH d _ | .mkSl d _ _ _ _ | .app d _ _ _ _ | .litSl d _ _ | .litP d _ _ | .callP d _ _ => some d
  | .store .. => none
  | .call d _ _ | .callV d _ _ => d

/-- The instructions that call nothing. -/
def iexec (i : Ins) (s : St) : Option St :=
  match i with
  | .val d v xs => (vexec v (xs.map (ev s.fr))).map fun r => { s with fr := put s.fr d r }
  | .load d x n isAgg => (rd s.bx s.H n (ev s.fr x)).bind fun cs => if okCells cs = true then (mk isAgg cs).map fun r => { s with fr := put s.fr d r } else none
  | .loadL d x n isAgg => match ev s.fr x with
    | .loc t off => (rd s.bx [] n (.loc t off)).bind fun cs => if okCells cs = true then (mk isAgg cs).map fun r => { s with fr := put s.fr d r } else none
    | _ => none
  | .store x y n =>
    if (cellsOf (ev s.fr y)).length = n ∧ okCells (cellsOf (ev s.fr y)) = true then
      (wrt s.bx s.H (cellsOf (ev s.fr y)) (ev s.fr x)).map fun m => ⟨s.fr, m.bx, m.H⟩
    else none
  | .newL d zero => some ⟨put (unloc d s.fr) d (.loc d 0), bput s.bx d zero, s.H⟩
  | .boxL d x =>
    if okCells (cellsOf (ev s.fr x)) = true then some ⟨put (unloc d s.fr) d (.loc d 0), bput s.bx d (cellsOf (ev s.fr x)), s.H⟩ else none
  | .newH d zero => some ⟨put s.fr d (.ptr s.H.length 0), s.bx, s.H ++ [.cells zero]⟩
  | .boxH d x =>
    if okCells (cellsOf (ev s.fr x)) = true then some ⟨put s.fr d (.ptr s.H.length 0), s.bx, s.H ++ [.cells (cellsOf (ev s.fr x))]⟩ else none
  | .mkSl d n c zero bytes => match ev s.fr n, ev s.fr c with
    | .p (.int .i64 n), .p (.int .i64 c) =>
      if 0 ≤ n ∧ n ≤ c ∧ c * bytes ≤ 140737488355328 ∧ c ≤ 140737488355328 then
        some ⟨put s.fr d (.osl zero.length s.H.length 0 0 n.toNat), s.bx, s.H ++ [.arr zero.length 0 false (List.replicate n.toNat zero)]⟩
      else none
    | _, _ => none
  | .app d x y sz bytes =>
    (rowsOf s.H sz (ev s.fr y)).bind fun new => (appV s.H sz bytes (ev s.fr x) new).map fun (v, H) => ⟨put s.fr d v, s.bx, H⟩
  | .litSl d sz xs => (slRows sz (xs.map (ev s.fr))).map fun rows => ⟨put s.fr d (.osl sz s.H.length 0 0 rows.length), s.bx, s.H ++ [.arr sz 0 false rows]⟩
  | .litP d sz xs => (slRows sz (xs.map (ev s.fr))).map fun rows => ⟨put s.fr d (.p (.sl sz true rows)), s.bx, s.H⟩
  | .call .. | .callP .. | .callV .. => none

/-- What a value reads as when the call that made it is over: owned slices become immutable ones. -/
def pure1 (H : List HO) : AV → Option AV
  | .p x => some (.p (weakP x))
  | .nl x => some (.nl x)
  | .osl sz id ver off len => match H[id]? with
    | some (.arr sz' ver' _ rows) => if sz' = sz ∧ ver' = ver then (sub off len rows).map fun r => .p (.sl sz false r) else none
    | _ => none
  | _ => none

def pureL (H : List HO) : List AV → Option (List AV)
  | [] => some []
  | c :: cs => (pure1 H c).bind fun x => (pureL H cs).map (x :: ·)

def pureV (H : List HO) : AV → Option AV
  | .agg cs => (pureL H cs).map .agg
  | v => pure1 H v

inductive RV where
  | tmp (t : Nat)
  | cell (t n : Nat) (isAgg : Bool)

def resV (s : St) : RV → Option AV
  | .tmp t => pureV s.H (get s.fr t)
  | .cell t n isAgg => ((rd s.bx s.H n (get s.fr t)).bind (mk isAgg)).bind (pureV s.H)

def resL (s : St) : List RV → Option (List AV)
  | [] => some []
  | r :: rs => (resV s r).bind fun v => (resL s rs).map (v :: ·)


def argsFr : List AV → Nat → List (Nat × AV)
  | [], _ => []
  | v :: vs, i => (i, v) :: argsFr vs (i + 1)

/-- Results as they are (the heap goes back to the caller). -/
def rawV (s : St) : RV → Option AV
  | .tmp t => some (get s.fr t)
  | .cell t n isAgg => (rd s.bx s.H n (get s.fr t)).bind (mk isAgg)

def rawL (s : St) : List RV → Option (List AV)
  | [] => some []
  | r :: rs => (rawV s r).bind fun v => (rawL s rs).map (v :: ·)

def tupOf : List AV → AV
  | [v] => v
  | vs => .tup vs

structure IFn where
  nargs : Nat
  nt : Nat
  body : IC
  res : List RV

/-- An owned slice that is handed on is written no more. -/
def frz1 (H : List HO) : AV → Option (AV × List HO)
  | .p x => some (.p (weakP x), H)
  | .nl x => some (.nl x, H)
  | .ptr id off => some (.ptr id off, H)
  | .fn f a b => if noLocL a && noLocL b then some (.fn f a b, H) else none
  | .osl sz id ver off len => match H[id]? with
    | some (.arr sz' ver' _ rows) => if sz' = sz ∧ ver' = ver then (sub off len rows).map fun r => (.p (.sl sz false r), H.set id (.arr sz ver true rows)) else none
    | _ => none
  | _ => none

def frzC (H : List HO) : List AV → Option (List AV × List HO)
  | [] => some ([], H)
  | c :: cs => (frz1 H c).bind fun (x, H) => (frzC H cs).map fun (xs, H) => (x :: xs, H)

def frzV (H : List HO) : AV → Option (AV × List HO)
  | .agg cs => (frzC H cs).map fun (cs, H) => (.agg cs, H)
  | v => frz1 H v

def frzL (H : List HO) : List AV → Option (List AV × List HO)
  | [] => some ([], H)
  | c :: cs => (frzV H c).bind fun (x, H) => (frzL H cs).map fun (xs, H) => (x :: xs, H)

/-- Pure values: nothing in them names memory of a running call. -/
def isPure1 : AV → Bool
  | .p _ | .nl _ => true
  | _ => false

def isPureL : List AV → Bool
  | [] => true
  | c :: cs => isPure1 c && isPureL cs

def isPure : AV → Bool
  | .agg cs => isPureL cs
  | v => isPure1 v

def arePure : List AV → Bool
  | [] => true
  | c :: cs => isPure c && arePure cs

def isPureT : AV → Bool
  | .tup vs => arePure vs
  | v => isPure v

end Go.Eng
