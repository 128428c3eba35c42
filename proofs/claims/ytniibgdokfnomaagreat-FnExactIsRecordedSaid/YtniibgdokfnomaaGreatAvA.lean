/- ABSTRACT VALUES: a walk of a loaded function over data instead of memory; here the definitions alone. -/
import Derived.Orders
import Derived.Below
import Derived.Laws.AppendOwn
namespace Go.Av
open Go

/-- Data: a scalar, or a slice of rows of cells. -/
inductive D where
 | v (x:Value)
 | sl (k:Nat) (rows:List (List D))

instance:Inhabited D:=⟨.v (.bool false)⟩

/-- What passes a call. -/
inductive DV where
 | one (d:D)
 | agg (ds:List D)
 | tup (vs:List DV)
 | dp (row:List D)
 | fn (f:FuncId) (caps:List (List D))

instance:Inhabited DV:=⟨.one default⟩

inductive AV where
 | any
 | nil (k:Nat)
 | d (x:D)
 | dp (row:List D) (j:Nat)
 | ptr (o i j:Nat)
 | sl (o:Nat)
 | sub (o lo n:Nat)
 | cel (o i j:Nat)
 | agg (cs:List AV)
 | tup (vs:List AV)
 | fn (f:FuncId) (caps:List AV)

instance:Inhabited AV:=⟨.any⟩

inductive AO where
 | box (cs:List AV)
 | arr (k:Nat) (rows:List (List D)) (own:Bool)
 | fro (k:Nat) (rows:List (List D))
 | pin (cs:List AV)
 | mp (l:List (Int×Int))
 | deep (k:Nat) (rows:List (List D))

abbrev D.i (n:Int):D:=.v (.int .i64 n)
abbrev D.b (b:Bool):D:=.v (.bool b)
abbrev D.s (l:List UInt8):D:=.v (.string ⟨⟨l⟩⟩)
abbrev D.u8 (n:Int):D:=.v (.int .u8 n)
abbrev DV.i (n:Int):DV:=.one (.i n)
abbrev DV.b (b:Bool):DV:=.one (.b b)
abbrev DV.s (l:List UInt8):DV:=.one (.s l)

structure St where
 env:List (Nat×AV)
 mem:List (Nat×Option AO)
 next:Nat

inductive Ex where
 | normal
 | exit (id:Nat)
 | ret

def look:List (Nat×AV)→Nat→AV
 | [],_=>.any
 | (u,v)::r,t=>match Nat.beq u t with | true=>v | false=>look r t

def find:List (Nat×Option AO)→Nat→Option AO
 | [],_=>none
 | (u,v)::r,t=>match Nat.beq u t with | true=>v | false=>find r t

/-- A type, as far as the walk needs it: 'ks': of each cell that is a slice the size of its element's row. -/
inductive TD where
 | int (k:IntKind) | bool | str | sl (e:TypeId) | struct (fs:List (Nat×TypeId)) | map (k e:TypeId) | other

structure TI where
 size:Nat
 bytes:Nat
 zero:List Value
 ks:List Nat
 td:TD

/-- the types, in a tree by their numbers -/
inductive Tab where
 | nil
 | node (l:Tab) (t:TypeId) (i:TI) (r:Tab)
def Tab.get:Tab→TypeId→Option TI
 | .nil,_=>none
 | .node l u i r,t=>match Nat.beq u t with
  | true=>some i
  | false=>match Nat.blt t u with
   | true=>Tab.get l t
   | false=>Tab.get r t

def TI.isAgg (i:TI):Bool:=match i.td with | .struct _=>true | _=>false
/-- no cell of it is a slice -/
def TI.flat (i:TI):Bool:=i.ks.all (Nat.beq 0)

def br (b:Bool) (x y:Prop):Prop:=match b with | true=>x | false=>y
theorem br_intro {b:Bool} {x y:Prop} (h1:b=true→x) (h2:b=false→y):br b x y:=by cases b <;> simp [br,h1,h2]

/-- a constant cell; k: the row's size where it is a slice -/
def avC1 (k:Nat):Value→AV
 | .slice none 0 0=>.nil k
 | .slice _ _ _=>.any
 | .agg _=>.any
 | .tuple _=>.any
 | v=>.d (.v v)

def zipC:List Nat→List Value→List AV
 | k::ks,v::vs=>avC1 k v::zipC ks vs
 | [],v::vs=>avC1 0 v::zipC [] vs
 | _,[]=>[]

def TI.zeroA (i:TI):List AV:=zipC i.ks i.zero

def avC (T:Tab) (t:TypeId) (v:Value):AV:=
 match T.get t with
 | some i=>match v with
  | .agg ⟨cs⟩=>match cs.all Value.oneCell' with | true=>.agg (zipC i.ks cs) | false=>.any
  | v=>match i.ks with | k::_=>avC1 k v | []=>avC1 0 v
 | none=>match v with
  | .agg _=>.any
  | v=>avC1 0 v

/-- an operand of type t -/
def evA (T:Tab) (s:St) (t:TypeId):Operand→AV
 | .tmp x=>look s.env x
 | .const v=>avC T t v
 | .global g=>.d (.v (.pointer (some ⟨g,0,none⟩)))
 | .func f=>.fn f []

abbrev Ups:=List (Nat×Option AO)

/-- both; reckoned on the first -/
def andB:Bool→Bool→Bool
 | true,b=>b
 | false,_=>false

/-- updates over a lookup -/
def ovr:Ups→(Nat→Option AO)→Nat→Option AO
 | [],m,x=>m x
 | (o,a)::r,m,x=>match Nat.beq o x with | true=>a | false=>ovr r m x

/-- a cell read as data -/
def readC (m:Nat→Option AO):AV→Option D
 | .d x=>some x
 | .nil k=>some (.sl k [])
 | .sl o=>match m o with
  | some (.arr k rows _)=>some (.sl k rows)
  | some (.fro k rows)=>some (.sl k rows)
  | some (.deep k rows)=>some (.sl k rows)
  | _=>none
 | .sub o lo n=>match m o with
  | some (.arr k rows _)=>some (.sl k ((rows.drop lo).take n))
  | some (.fro k rows)=>some (.sl k ((rows.drop lo).take n))
  | _=>none
 | _=>none

def readRow (m:Nat→Option AO):List AV→Option (List D)
 | []=>some []
 | c::cs=>match readC m c with
  | some d=>match readRow m cs with
   | some ds=>some (d::ds)
   | none=>none
  | none=>none

/-- a cell given away: the datum; what becomes of the object that goes with it; whether it is owned -/
def moveC (m:Nat→Option AO):AV→Option (D×Ups×Bool)
 | .d (.v x)=>some (.v x,[],true)
 | .d (.sl k rows)=>some (.sl k rows,[],false)
 | .nil k=>some (.sl k [],[],true)
 | .sl o=>match m o with
  | some (.arr k rows own)=>some (.sl k rows,[(o,some (.fro k rows))],own)
  | some (.fro k rows)=>some (.sl k rows,[],false)
  | _=>none
 | .sub o lo n=>match m o with
  | some (.arr k rows _)=>some (.sl k ((rows.drop lo).take n),[(o,some (.fro k rows))],false)
  | some (.fro k rows)=>some (.sl k ((rows.drop lo).take n),[],false)
  | _=>none
 | _=>none

def moveRow (m:Nat→Option AO):List AV→Option (List D×Ups×Bool)
 | []=>some ([],[],true)
 | c::cs=>match moveC m c with
  | some (d,u,o)=>match moveRow (ovr u m) cs with
   | some (ds,us,os)=>some (d::ds,us++u,andB o os)
   | none=>none
  | none=>none

/-- a value's cells as AVs -/
def cellsA:AV→Option (List AV)
 | .agg cs=>some cs
 | .tup _=>none
 | .any=>none
 | v=>some [v]

def readCaps (m:Nat→Option AO):List AV→Option (List (List D))
 | []=>some []
 | .dp row 0::r=>match readCaps m r with | some rs=>some (row::rs) | none=>none
 | .ptr o 0 0::r=>match m o with
  | some (.box cs)=>match readRow m cs with
   | some ds=>match readCaps m r with | some rs=>some (ds::rs) | none=>none
   | none=>none
  | _=>none
 | _=>none

/-- an argument: read alone -/
def readA (m:Nat→Option AO):AV→Option DV
 | .agg cs=>match readRow m cs with | some ds=>some (.agg ds) | none=>none
 | .dp row 0=>some (.dp row)
 | .ptr o 0 0=>match m o with
  | some (.box cs)=>match readRow m cs with | some ds=>some (.dp ds) | none=>none
  | _=>none
 | .fn f caps=>match readCaps m caps with | some r=>some (.fn f r) | none=>none
 | v=>match readC m v with | some d=>some (.one d) | none=>none

def readArgs (m:Nat→Option AO):List AV→Option (List DV)
 | []=>some []
 | a::r=>match readA m a with
  | some d=>match readArgs m r with | some ds=>some (d::ds) | none=>none
  | none=>none

/-- a result comes in: its slices become objects -/
def impO (dp:Bool) (k:Nat) (rows:List (List D)):AO:=match dp with | true=>.deep k rows | false=>.arr k rows true
def importC (dp:Bool) (id:Nat):D→AV×Ups
 | .v x=>(.d (.v x),[])
 | .sl k rows=>match Nat.ble 1 k with | true=>(.sl id,[(id,some (impO dp k rows))]) | false=>(.any,[])

def importR (dp:Bool) (id:Nat):List D→List AV×Ups
 | []=>([],[])
 | d::ds=>match importC dp id d,importR dp (id+1) ds with
  | (a,u),(as,us)=>(a::as,us++u)

def importT (dp:Bool) (id:Nat):List DV→Option (List AV×Ups)
 | []=>some ([],[])
 | .one d::r=>match importC dp id d,importT dp (id+1) r with
  | (a,u),some (as,us)=>some (a::as,us++u)
  | _,none=>none
 | .agg ds::r=>match importR dp id ds,importT dp (id+ds.length) r with
  | (as1,u),some (as,us)=>some (.agg as1::as,us++u)
  | _,none=>none
 | _=>none

/-- how many names an operation may lay -/
def stride:Nat:=32

def DV.count:DV→Nat
 | .one _=>1
 | .agg ds=>ds.length
 | .tup vs=>go vs
 | _=>0
where go:List DV→Nat
 | []=>0
 | .agg ds::r=>ds.length+go r
 | _::r=>1+go r

def importV (dp:Bool) (id:Nat) (res:DV):Option (AV×Ups):=
 match Nat.ble res.count stride with
 | true=>match res with
  | .one d=>some (importC dp id d)
  | .agg ds=>match importR dp id ds with | (as,u)=>some (.agg as,u)
  | .tup vs=>match importT dp id vs with | some (as,u)=>some (.tup as,u) | none=>none
  | _=>none
 | false=>none

def paramA:DV→AV
 | .one d=>.d d
 | .agg ds=>.agg (ds.map .d)
 | .tup _=>.any
 | .dp row=>.dp row 0
 | .fn f caps=>.fn f (caps.map (.dp · 0))

def eqVal (td:TD) (x y:Value):Option Bool:=
 match td with
 | .int _=>match x,y with
  | .int k a,.int k' b=>match decide (k=k') with | true=>some (a == b) | false=>none
  | _,_=>none
 | .bool=>match x,y with
  | .bool a,.bool b=>some (a == b)
  | _,_=>none
 | .str=>match x,y with
  | .string ⟨⟨a⟩⟩,.string ⟨⟨b⟩⟩=>some (a == b)
  | _,_=>none
 | _=>none

def eqF (T:Tab) (xs ys:List AV):List (Nat×TypeId)→Option Bool
 | []=>some true
 | (off,t)::fs=>match T.get t,xs[off]?,ys[off]? with
  | some i,some (.d (.v a)),some (.d (.v b))=>match eqVal i.td a b,eqF T xs ys fs with
   | some p,some q=>some (p && q)
   | _,_=>none
  | _,_,_=>none

def binV (op:BinOp) (td:TD) (x y:Value) (K:Value→Prop):Prop:=
 match x,y with
 | .int k a,.int k' b=>match decide (k=k') with
  | true=>match op with
   | .add=>K (.int k (k.wrap (a+b)))
   | .sub=>K (.int k (k.wrap (a - b)))
   | .mul=>K (.int k (k.wrap (a * b)))
   | .quo=>b≠0∧K (.int k (k.wrap (a.tdiv b)))
   | .rem=>b≠0∧K (.int k (a.tmod b))
   | .eql=>K (.bool (a == b))
   | .neq=>K (.bool (a != b))
   | .lss=>K (.bool (decide (a<b)))
   | .leq=>K (.bool (decide (a≤b)))
   | .gtr=>K (.bool (decide (a>b)))
   | .geq=>K (.bool (decide (a≥b)))
   | _=>False
  | false=>False
 | .string ⟨⟨a⟩⟩,.string ⟨⟨b⟩⟩=>match op with
  | .add=>a.length+b.length≤4611686018427387904∧K (.string ⟨⟨a++b⟩⟩)
  | .eql=>K (.bool (a == b))
  | .neq=>K (.bool (a != b))
  | .lss=>K (.bool (Op.bytesLess a b))
  | .leq=>K (.bool (Op.bytesLess a b || a == b))
  | .gtr=>K (.bool (!(Op.bytesLess a b || a == b)))
  | .geq=>K (.bool (!(Op.bytesLess a b)))
  | _=>False
 | .bool a,.bool b=>match td with
  | .bool=>match op with
   | .eql=>K (.bool (a == b))
   | .neq=>K (.bool (a != b))
   | _=>False
  | _=>False
 | _,_=>False

def binA (T:Tab) (op:BinOp) (td:TD) (x y:AV) (K:AV→Prop):Prop:=
 match x,y with
 | .d (.v a),.d (.v b)=>binV op td a b fun v=>K (.d (.v v))
 | .agg a,.agg b=>match td with
  | .struct fs=>match eqF T a b fs with
   | some r=>match op with
    | .eql=>K (.d (.b r))
    | .neq=>K (.d (.b (!r)))
    | _=>False
   | none=>False
  | _=>False
 | _,_=>False

/-- the cells of a part replaced -/
def splice:List AV→Nat→List AV→List AV
 | cs,0,new=>new++cs.drop new.length
 | c::cs,j+1,new=>c::splice cs j new
 | [],_+1,_=>[]

def splitAtA {α:Type} (cs:List α) (j n:Nat):Option (List α):=
 match Nat.ble (j+n) cs.length with
 | true=>some ((cs.drop j).take n)
 | false=>none

/-- parts of a struct laid over its zero -/
def fillA (fs:List (Nat×TypeId)) (T:Tab) (ρ:TypeId→Operand→AV):List AV→List (Nat×Operand)→Option (List AV)
 | cs,[]=>some cs
 | cs,(i,x)::r=>match fs[i]? with
  | some (off,t)=>match cellsA (ρ t x),T.get t with
   | some new,some ti=>match Nat.beq new.length ti.size,Nat.ble (off+new.length) cs.length with
    | true,true=>fillA fs T ρ (splice cs off new) r
    | _,_=>none
   | _,_=>none
  | none=>none

def loadRow (i:TI) (cs:List AV) (j:Nat) (K:AV→Prop):Prop:=
 match i.isAgg with
 | true=>match splitAtA cs j i.size with | some r=>K (.agg r) | none=>False
 | false=>match cs.drop j with | c::_=>K c | []=>False

/-- the cells of a row of a deep object -/
def celOf (o r l:Nat):D→AV
 | .v x=>.d (.v x)
 | .sl _ _=>.cel o r l
def celR (o r:Nat):Nat→List D→List AV
 | _,[]=>[]
 | l,d::t=>celOf o r l d::celR o r (l+1) t

def sliceRows (m:Nat→Option AO):AV→Option (Nat×List (List D))
 | .nil k=>some (k,[])
 | .d (.sl k rows)=>some (k,rows)
 | .sl o=>match m o with
  | some (.arr k rows _)=>some (k,rows)
  | some (.fro k rows)=>some (k,rows)
  | _=>none
 | .sub o lo n=>match m o with
  | some (.arr k rows _)=>some (k,(rows.drop lo).take n)
  | some (.fro k rows)=>some (k,(rows.drop lo).take n)
  | _=>none
 | _=>none

def optInt:Option AV→Option (Option Int)
 | none=>some none
 | some (.d (.v (.int _ n)))=>some (some n)
 | _=>none

/-- x[lo:hi] of a string -/
def sliceStr (x:AV) (lo hi:Option Int) (K:AV→Prop):Prop:=
 match x with
 | .d (.v (.string ⟨⟨l⟩⟩))=>
  (0≤lo.getD 0∧lo.getD 0≤hi.getD l.length∧hi.getD l.length≤l.length)∧K (.d (.s ((l.drop (lo.getD 0).toNat).take (hi.getD l.length - lo.getD 0).toNat)))
 | _=>False

/-- x[lo:hi] -/
def sliceA (m:Nat→Option AO) (size:Nat) (x:AV) (lo hi:Option Int) (K:AV→Prop):Prop:=
 match x with
 | .d (.sl k rows)=>match Nat.beq k size with
  | true=>(0≤lo.getD 0∧lo.getD 0≤hi.getD rows.length∧hi.getD rows.length≤rows.length)∧K (.d (.sl k ((rows.drop (lo.getD 0).toNat).take (hi.getD rows.length - lo.getD 0).toNat)))
  | false=>False
 | .nil k=>match lo.getD 0,hi.getD 0 with | 0,0=>K (.nil k) | _,_=>False
 | .sl o=>match m o with
  | some (.arr k rows _)=>match Nat.beq k size with
   | true=>(0≤lo.getD 0∧lo.getD 0≤hi.getD rows.length∧hi.getD rows.length≤rows.length)∧K (.sub o (lo.getD 0).toNat (hi.getD rows.length - lo.getD 0).toNat)
   | false=>False
  | _=>False
 | .sub o l n=>match m o with
  | some (.arr k _ _)=>match Nat.beq k size with
   | true=>(0≤lo.getD 0∧lo.getD 0≤hi.getD n∧hi.getD n≤n)∧K (.sub o (l+(lo.getD 0).toNat) (hi.getD n - lo.getD 0).toNat)
   | false=>False
  | _=>False
 | _=>False

def indexAddrA (m:Nat→Option AO) (size:Nat) (x:AV) (n:Int) (K:AV→Prop):Prop:=
 match x with
 | .d (.sl k rows)=>match Nat.beq k size with
  | true=>(0≤n∧n<rows.length)∧∀row,rows[n.toNat]?=some row→K (.dp row 0)
  | false=>False
 | .sl o=>match m o with
  | some (.arr k rows _)=>match Nat.beq k size with
   | true=>(0≤n∧n<rows.length)∧K (.ptr o n.toNat 0)
   | false=>False
  | some (.fro k rows)=>match Nat.beq k size with
   | true=>(0≤n∧n<rows.length)∧∀row,rows[n.toNat]?=some row→K (.dp row 0)
   | false=>False
  | some (.deep k rows)=>match Nat.beq k size with
   | true=>(0≤n∧n<rows.length)∧K (.ptr o n.toNat 0)
   | false=>False
  | _=>False
 | .sub o lo len=>match m o with
  | some (.arr k _ _)=>match Nat.beq k size with
   | true=>(0≤n∧n<len)∧K (.ptr o (lo+n.toNat) 0)
   | false=>False
  | _=>False
 | _=>False

def lenA (m:Nat→Option AO) (td:TD) (x:AV) (K:AV→Prop):Prop:=
 match td with
 | .str=>match x with
  | .d (.v (.string ⟨⟨l⟩⟩))=>K (.d (.i l.length))
  | _=>False
 | .sl _=>match x with
  | .nil _=>K (.d (.i 0))
  | .d (.sl _ rows)=>K (.d (.i rows.length))
  | .sl o=>match m o with
   | some (.arr _ rows _)=>K (.d (.i rows.length))
   | some (.fro _ rows)=>K (.d (.i rows.length))
   | some (.deep _ rows)=>K (.d (.i rows.length))
   | _=>False
  | .sub o _ n=>match m o with
   | some (.arr _ _ _)=>K (.d (.i n))
   | some (.fro _ _)=>K (.d (.i n))
   | _=>False
  | _=>False
 | _=>False

/-- a length: under whatever name -/
def lenK (K:AV→Ups→Prop) (v:AV):Prop:=
 match v with
 | .d (.v (.int k z))=>∀z',z'=z→K (.d (.v (.int k z'))) []
 | v=>K v []
theorem lenK_eq {K:AV→Ups→Prop}:lenK K=fun v=>K v []:=by
 funext v
 unfold lenK
 split
 ·exact propext ⟨fun h=>h _ rfl,fun h z e=>e ▸ h⟩
 ·rfl

/-- no cell is a slice -/
def flatRows (rows:List (List D)):Prop:=∀r∈rows,∀x∈r,∃v,x=.v v

/-- the source of an append: rows; updates; owned; must the rows be told flat -/
def srcA (m:Nat→Option AO) (flat:Bool):AV→Option (Nat×List (List D)×Ups×Bool×Bool)
 | .nil k=>some (k,[],[],true,false)
 | .d (.sl k rows)=>some (k,rows,[],flat,flat)
 | .sl o=>match m o with
  | some (.arr k rows own)=>some (k,rows,[(o,some (.fro k rows))],own,false)
  | some (.fro k rows)=>some (k,rows,[],flat,flat)
  | _=>none
 | .sub o lo n=>match m o with
  | some (.arr k rows _)=>match flat with
   | true=>some (k,(rows.drop lo).take n,[],true,true)
   | false=>some (k,(rows.drop lo).take n,[(o,some (.fro k rows))],false,false)
  | some (.fro k rows)=>some (k,(rows.drop lo).take n,[],flat,flat)
  | _=>none
 | _=>none

def dstA (m:Nat→Option AO):AV→Option (Nat×List (List D)×Ups×Bool)
 | .nil k=>some (k,[],[],true)
 | .sl o=>match m o with
  | some (.arr k rows own)=>some (k,rows,[(o,none)],own)
  | _=>none
 | _=>none

def appendA (m:Nat→Option AO) (id:Nat) (ti:TI) (dst src:AV) (K:AV→Ups→Prop):Prop:=
 match srcA m ti.flat src with
 | some (k',rows',u',own',ob)=>match dstA (ovr u' m) dst with
  | some (k,rows,u,own)=>match Nat.beq k ti.size,Nat.beq k' ti.size with
   | true,true=>((rows.length+rows'.length) * ti.bytes≤140737488355328∧rows.length+rows'.length≤140737488355328)∧(ob=true→flatRows rows')∧
     K (.sl id) ((id,some (.arr k (rows++rows') (andB own own')))::(u++u'))
   | _,_=>False
  | none=>False
 | none=>False

/-- the rows of a slice literal -/
def rowsA (m:Nat→Option AO) (size:Nat):List AV→Option (List (List D)×Ups×Bool)
 | []=>some ([],[],true)
 | a::r=>match cellsA a with
  | some cs=>match Nat.beq cs.length size,moveRow m cs with
   | true,some (ds,u,o)=>match rowsA (ovr u m) size r with
    | some (rs,us,os)=>some (ds::rs,us++u,andB o os)
    | none=>none
   | _,_=>none
  | none=>none

def intA:AV→Option Int
 | .d (.v (.int _ n))=>some n
 | _=>none

def inOrder:Nat→List (Nat×Operand)→Bool
 | _,[]=>true
 | n,(i,_)::r=>match Nat.beq i n with | true=>inOrder (n+1) r | false=>false

def foldInts (op:Int→Int→Int) (acc:Int):List AV→Option Int
 | []=>some acc
 | .d (.v (.int .i64 b))::r=>foldInts op (op acc b) r
 | _=>none

def maxInts (op:Int→Int→Int):List AV→Option Int
 | .d (.v (.int .i64 a))::r=>foldInts op a r
 | _=>none

/-- THE CONTRACTS OF FUNCTIONS (their meaning is given with the relation of data to memory). p: over data: what was there is not touched.
t: with objects: the arguments name objects 0, 1 ..; behind the call these (or none) are there, and perhaps new ones behind them; what comes back names them. -/
structure Contract where
 p:FuncId→List DV→DV→Prop
 t:FuncId→List AV→List AO→List (Option AO)→AV→Prop

/-! ### Objects under names of their own: 0, 1 .. -/
def memN (x:Nat):List Nat→Bool
 | []=>false
 | y::r=>match Nat.beq y x with | true=>true | false=>memN x r

def addN (o:Nat) (l:List Nat):List Nat:=match memN o l with | true=>l | false=>l++[o]
mutual
def collV (l:List Nat):AV→List Nat
 | .ptr o _ _=>addN o l
 | .sl o=>addN o l
 | .sub o _ _=>addN o l
 | .agg cs=>collL l cs
 | .tup cs=>collL l cs
 | .fn _ cs=>collL l cs
 | _=>l
def collL (l:List Nat):List AV→List Nat
 | []=>l
 | c::cs=>collL (collV l c) cs
end
/-- what they reach -/
def collN (m:Nat→Option AO):Nat→Nat→List Nat→List Nat
 | 0,_,l=>l
 | f+1,i,l=>match l[i]? with
  | some o=>match m o with
   | some (.box cs)=>collN m f (i+1) (collL l cs)
   | _=>collN m f (i+1) l
  | none=>l
def forceN:List Nat→(List Nat→Prop)→Prop
 | [],K=>K []
 | x::r,K=>forceN r fun r=>match x with | 0=>K (0::r) | n+1=>K ((n+1)::r)
mutual
/-- the same, its parts reckoned as it goes -/
def collVK (l:List Nat) (a:AV) (K:List Nat→Prop):Prop:=
 match a with
 | .ptr o _ _=>forceN (addN o l) K
 | .sl o=>forceN (addN o l) K
 | .sub o _ _=>forceN (addN o l) K
 | .agg cs=>collLK l cs K
 | .tup cs=>collLK l cs K
 | .fn _ cs=>collLK l cs K
 | _=>K l
def collLK (l:List Nat) (cs:List AV) (K:List Nat→Prop):Prop:=
 match cs with
 | []=>K l
 | c::cs=>collVK l c fun l=>collLK l cs K
end
def collK (m:Nat→Option AO):Nat→Nat→List Nat→(List Nat→Prop)→Prop
 | 0,_,l,K=>K l
 | f+1,i,l,K=>match l[i]? with
  | some o=>match m o with
   | some (.box cs)=>collLK l cs fun l=>collK m f (i+1) l K
   | _=>collK m f (i+1) l K
  | none=>K l
theorem forceN_eq:∀{l:List Nat} {K:List Nat→Prop},forceN l K=K l
 | [],K=>rfl
 | x::r,K=>by
  simp only [forceN]
  rw [forceN_eq]
  cases x <;> rfl
mutual
theorem collVK_eq:∀(a:AV) (l:List Nat) (K:List Nat→Prop),collVK l a K=K (collV l a)
 | .any,l,K=>by simp [collVK,collV]
 | .nil k,l,K=>by simp [collVK,collV]
 | .d y,l,K=>by simp [collVK,collV]
 | .dp row j,l,K=>by simp [collVK,collV]
 | .ptr o i j,l,K=>by rw [collVK,collV,forceN_eq]
 | .sl o,l,K=>by rw [collVK,collV,forceN_eq]
 | .sub o lo n,l,K=>by rw [collVK,collV,forceN_eq]
 | .cel o i j,l,K=>by simp [collVK,collV]
 | .agg cs,l,K=>by rw [collVK,collV];exact collLK_eq cs l K
 | .tup cs,l,K=>by rw [collVK,collV];exact collLK_eq cs l K
 | .fn f cs,l,K=>by rw [collVK,collV];exact collLK_eq cs l K
theorem collLK_eq:∀(cs:List AV) (l:List Nat) (K:List Nat→Prop),collLK l cs K=K (collL l cs)
 | [],l,K=>by simp [collLK,collL]
 | c::cs,l,K=>by rw [collLK,collL,collVK_eq c l,collLK_eq cs]
end
theorem collK_eq {m:Nat→Option AO}:∀(f i:Nat) (l:List Nat) (K:List Nat→Prop),collK m f i l K=K (collN m f i l)
 | 0,i,l,K=>by simp [collK,collN]
 | f+1,i,l,K=>by
  rw [collK,collN]
  split
  ·split
   ·rw [collLK_eq,collK_eq]
   ·rw [collK_eq]
  ·rfl
def idx:List Nat→Nat→Option Nat
 | [],_=>none
 | y::r,x=>match Nat.beq y x with | true=>some 0 | false=>match idx r x with | some i=>some (i+1) | none=>none
mutual
def mapV (ρ:Nat→Option Nat):AV→Option AV
 | .any=>some .any
 | .nil k=>some (.nil k)
 | .d x=>some (.d x)
 | .dp row j=>some (.dp row j)
 | .ptr o i j=>match ρ o with | some o=>some (.ptr o i j) | none=>none
 | .sl o=>match ρ o with | some o=>some (.sl o) | none=>none
 | .sub o lo n=>match ρ o with | some o=>some (.sub o lo n) | none=>none
 | .cel _ _ _=>none
 | .agg cs=>match mapL ρ cs with | some cs=>some (.agg cs) | none=>none
 | .tup cs=>match mapL ρ cs with | some cs=>some (.tup cs) | none=>none
 | .fn f cs=>match mapL ρ cs with | some cs=>some (.fn f cs) | none=>none
def mapL (ρ:Nat→Option Nat):List AV→Option (List AV)
 | []=>some []
 | c::cs=>match mapV ρ c with
  | some c=>match mapL ρ cs with | some cs=>some (c::cs) | none=>none
  | none=>none
end
def mapAO (ρ:Nat→Option Nat):AO→Option AO
 | .box cs=>match mapL ρ cs with | some cs=>some (.box cs) | none=>none
 | .arr k rows own=>some (.arr k rows own)
 | .fro k rows=>some (.fro k rows)
 | .mp l=>some (.mp l)
 | .deep k rows=>some (.deep k rows)
 | .pin _=>none
def mapOs (m:Nat→Option AO) (ρ:Nat→Option Nat):List Nat→Option (List (Option AO))
 | []=>some []
 | o::r=>match m o with
  | some ao=>match mapAO ρ ao with
   | some ao=>match mapOs m ρ r with | some rs=>some (some ao::rs) | none=>none
   | none=>none
  | none=>match mapOs m ρ r with | some rs=>some (none::rs) | none=>none
def noDup:List Nat→Bool
 | []=>true
 | x::r=>match r.all (fun y=>!(Nat.beq x y)) with | true=>noDup r | false=>false
/-- the names l and what the roots reach, as 0, 1 .. -/
def canonL (m:Nat→Option AO) (roots:List AV) (l:List Nat):Option (List Nat×List AV×List (Option AO)):=
 match noDup l with
 | true=>match mapL (idx l) roots with
  | some rs=>match mapOs m (idx l) l with
   | some os=>some (l,rs,os)
   | none=>none
  | none=>none
 | false=>none
def canon (m:Nat→Option AO) (l0:List Nat) (roots:List AV):Option (List Nat×List AV×List (Option AO)):=canonL m roots (collN m 24 0 (collL l0 roots))
def allSome:List (Option AO)→Option (List AO)
 | []=>some []
 | some a::r=>match allSome r with | some rs=>some (a::rs) | none=>none
 | none::_=>none
/-- back to the caller's names -/
def bkN (l:List Nat) (id:Nat) (i:Nat):Option Nat:=match l[i]? with | some o=>some o | none=>some (id+(i - l.length))
def upsB (ρ:Nat→Option Nat):Nat→List (Option AO)→Option (List (Nat×Option AO))
 | _,[]=>some []
 | i,none::r=>match ρ i with
  | some o=>match upsB ρ (i+1) r with | some u=>some ((o,none)::u) | none=>none
  | none=>none
 | i,some a::r=>match ρ i with
  | some o=>match mapAO ρ a with
   | some a=>match upsB ρ (i+1) r with | some u=>some ((o,some a)::u) | none=>none
   | none=>none
  | none=>none

def mapT (ρ:TypeId→Operand→AV):List TypeId→List Operand→List AV
 | t::ts,x::xs=>ρ t x::mapT ρ ts xs
 | [],x::xs=>ρ 0 x::mapT ρ [] xs
 | _,[]=>[]

/-- a call, by its contract over data -/
def pureA (C:Contract) (dp:Bool) (m:Nat→Option AO) (id:Nat) (g:FuncId) (args:List AV) (K:AV→Ups→Prop):Prop:=
 match readArgs m args with
 | some ds=>∃res,C.p g ds res∧match importV dp id res with
  | some (v,u)=>K v u
  | none=>False
 | none=>False

/-- rows whose cells are owned must be flat: then their object's blocks are its own alone -/
def flatP:List AO→Prop
 | []=>True
 | .arr _ rows true::r=>flatRows rows∧flatP r
 | .box _::r=>flatP r
 | .arr _ _ false::r=>flatP r
 | .fro _ _::r=>flatP r
 | .pin _::r=>flatP r
 | .mp _::r=>flatP r
 | .deep _ _::r=>flatP r

/-- a call that turns objects -/
def turnA (C:Contract) (m:Nat→Option AO) (id:Nat) (g:FuncId) (args:List AV) (K:AV→Ups→Prop):Prop:=
 collLK [] args fun l=>collK m 24 0 l fun l=>match canonL m args l with
 | some (l,args',os)=>match allSome os with
  | some objs=>flatP objs∧∃objs' rv,C.t g args' objs objs' rv∧match Nat.ble objs'.length (l.length+stride) with
   | true=>match upsB (bkN l id) 0 objs' with
    | some u=>match mapV (bkN l id) rv with
     | some v=>K v u
     | none=>False
    | none=>False
   | false=>False
  | none=>False
 | none=>False

/-- scalars alone -/
def scal:List AV→Bool
 | []=>true
 | .d (.v _)::r=>scal r
 | _=>false
/-- a call that turns a slice that lies in a cell of a deep object -/
def celA (C:Contract) (m:Nat→Option AO) (g:FuncId) (args:List AV) (K:AV→Ups→Prop):Prop:=
 match args with
 | .cel o r j::rest=>match m o,scal rest with
  | some (.deep k rows),true=>r<rows.length∧∀row,rows[r]?=some row→match row[j]? with
   | some (.sl k' rows')=>match Nat.ble 1 k' with
    | true=>∃rows'' x,C.t g (.sl 0::rest) [.deep k' rows'] [some (.deep k' rows'')] (.d (.v x))∧K (.d (.v x)) [(o,some (.deep k (rows.set r (row.take j++[.sl k' rows'']++row.drop (j+1)))))]
    | false=>False
   | _=>False
  | _,_=>False
 | _=>False
/-- a number, reckoned -/
def forceId (id:Nat) (K:Nat→Prop):Prop:=match id with | 0=>K 0 | n+1=>K (n+1)
theorem forceId_eq {id:Nat} {K:Nat→Prop}:forceId id K=K id:=by cases id <;> rfl
/-- a call, by whichever contract -/
def callA (C:Contract) (m:Nat→Option AO) (id:Nat) (g:FuncId) (args:List AV) (K:AV→Ups→Prop):Prop:=
 forceId id fun id=>pureA C false m id g args K∨turnA C m id g args K∨pureA C true m id g args K∨celA C m g args K

/-- a map of numbers: entered, looked up -/
def mput (a b:Int):List (Int×Int)→List (Int×Int)
 | []=>[(a,b)]
 | (k,v)::r=>match a == k with | true=>(a,b)::r | false=>(k,v)::mput a b r
def mget (a:Int):List (Int×Int)→Int
 | []=>0
 | (k,v)::r=>match a == k with | true=>v | false=>mget a r

theorem turnA_eq {C:Contract} {m:Nat→Option AO} {id:Nat} {g:FuncId} {args:List AV} {K:AV→Ups→Prop}:turnA C m id g args K=(match canon m [] args with
 | some (l,args',os)=>match allSome os with
  | some objs=>flatP objs∧∃objs' rv,C.t g args' objs objs' rv∧match Nat.ble objs'.length (l.length+stride) with
   | true=>match upsB (bkN l id) 0 objs' with
    | some u=>match mapV (bkN l id) rv with
     | some v=>K v u
     | none=>False
    | none=>False
   | false=>False
  | none=>False
 | none=>False):=by
 unfold turnA canon
 rw [collLK_eq,collK_eq]

/-- AN OPERATION THAT TURNS NO OBJECT BUT SUCH AS GO WITH ITS OPERANDS. -/
def stepR (C:Contract) (T:Tab) (o:Oper) (ρ:TypeId→Operand→AV) (m:Nat→Option AO) (id:Nat) (K:AV→Ups→Prop):Prop:=
 match o.op with
 | .move x=>K (ρ o.type x) []
 | .assign x=>K (ρ o.type x) []
 | .pick c a b=>match ρ 0 c with
  | .d (.v (.bool t))=>br t (K (ρ o.type a) []) (K (ρ o.type b) [])
  | _=>False
 | .alloc t=>match T.get t with
  | some i=>K (.ptr id 0 0) [(id,some (.box i.zeroA))]
  | none=>False
 | .box t x=>match cellsA (ρ t x) with
  | some cs=>K (.ptr id 0 0) [(id,some (.box cs))]
  | none=>False
 | .build t ⟨ps⟩=>match T.get t with
  | some i=>match i.td with
   | .struct fs=>match fillA fs T ρ i.zeroA ps with
    | some cs=>K (.agg cs) []
    | none=>False
   | _=>False
  | none=>False
 | .buildSlice t n ⟨ps⟩=>match T.get t with
  | some i=>match i.td with
   | .sl e=>match T.get e with
    | some ie=>match inOrder 0 ps,Nat.beq ps.length n,Nat.ble (n * ie.size) 16777216,rowsA m ie.size (ps.map fun p=>ρ e p.2) with
     | true,true,true,some (rows,u,own)=>K (.sl id) ((id,some (.arr ie.size rows own))::u)
     | _,_,_,_=>False
    | none=>False
   | _=>False
  | none=>False
 | .load t a=>match T.get t with
  | some i=>match ρ 0 a with
   | .ptr ob r j=>match m ob with
    | some (.box cs)=>match Nat.beq r 0 with
     | true=>loadRow i cs j fun v=>K v []
     | false=>False
    | some (.arr _ rows _)=>r<rows.length∧∀row,rows[r]?=some row→loadRow i (row.map .d) j fun v=>K v []
    | some (.deep _ rows)=>r<rows.length∧∀row,rows[r]?=some row→loadRow i (celR ob r 0 row) j fun v=>K v []
    | _=>False
   | .dp row j=>loadRow i (row.map .d) j fun v=>K v []
   | _=>False
  | none=>False
 | .nilCheck x=>match ρ 0 x with
  | .ptr ob r j=>match m ob with | some _=>K (.ptr ob r j) [] | none=>False
  | .dp row j=>K (.dp row j) []
  | .fn f caps=>K (.fn f caps) []
  | _=>False
 | .binOp op t x y t'=>match T.get t with
  | some i=>binA T op i.td (ρ t x) (ρ t' y) fun v=>K v []
  | none=>False
 | .unOp op t x=>match op,ρ t x with
  | .not,.d (.v (.bool b))=>K (.d (.b (!b))) []
  | .neg,.d (.v (.int k n))=>K (.d (.v (.int k (k.wrap (0 - n))))) []
  | _,_=>False
 | .convert src dst x=>match T.get src,T.get dst with
  | some a,some b=>match a.td,b.td,ρ src x with
   | _,.int k,.d (.v (.int _ n))=>K (.d (.v (.int k (k.wrap n)))) []
   | _,.str,.d (.v (.string s))=>K (.d (.v (.string s))) []
   | _,.sl e,.d (.v (.string ⟨⟨l⟩⟩))=>match T.get e with
    | some ie=>match ie.td with
     | .int .u8=>l.length≤70368744177664∧K (.sl id) [(id,some (.arr 1 (l.map fun c=>[D.u8 c.toNat]) true))]
     | _=>False
    | none=>False
   | .sl e,.str,y=>match T.get e,sliceRows m y with
    | some ie,some (_,rows)=>match ie.td with
     | .int .u8=>∃l:List UInt8,rows=l.map (fun c=>[D.u8 c.toNat])∧K (.d (.s l)) []
     | _=>False
    | _,_=>False
   | _,_,_=>False
  | _,_=>False
 | .makeFunc (.func f) ⟨[]⟩ ⟨caps⟩=>K (.fn f (caps.map (ρ 0))) []
 | .makeSlice t l c=>match T.get t with
  | some i=>match i.td with
   | .sl e=>match T.get e,ρ 0 l,ρ 0 c with
    | some ie,.d (.v (.int _ n)),.d (.v (.int _ n'))=>match readRow m ie.zeroA with
     | some row=>(n'=n∧0≤n∧n≤1099511627776∧n * ie.bytes≤140737488355328)∧K (.sl id) [(id,some (.arr ie.size (List.replicate n.toNat row) true))]
     | none=>False
    | _,_,_=>False
   | _=>False
  | none=>False
 | .makeMap t none=>match T.get t with
  | some i=>match i.td with
   | .map _ _=>K (.sl id) [(id,some (.mp []))]
   | _=>False
  | none=>False
 | .mapUpdate t x k y=>match T.get t with
  | some i=>match i.td with
   | .map kt et=>match T.get kt with
    | some ki=>match ki.td,ρ t x,ρ kt k,ρ et y with
     | .int .i64,.sl ob,.d (.v (.int .i64 a)),.d (.v (.int .i64 b))=>match m ob with
      | some (.mp l)=>K .any [(ob,some (.mp (mput a b l)))]
      | _=>False
     | _,_,_,_=>False
    | none=>False
   | _=>False
  | none=>False
 | .lookup t x k false=>match T.get t with
  | some i=>match i.td with
   | .map kt et=>match T.get kt,T.get et with
    | some ki,some ei=>match ki.td,ei.td,ρ t x,ρ kt k with
     | .int .i64,.int .i64,.sl ob,.d (.v (.int .i64 a))=>match ei.zero with
      | [.int .i64 0]=>match m ob with
       | some (.mp l)=>K (.d (.i (mget a l))) []
       | _=>False
      | _=>False
     | _,_,_,_=>False
    | _,_=>False
   | _=>False
  | none=>False
 | .slice t x lo hi none=>match T.get t with
  | some i=>match optInt (lo.map (ρ 0)),optInt (hi.map (ρ 0)) with
   | some a,some b=>match i.td with
    | .str=>sliceStr (ρ t x) a b fun v=>K v []
    | .sl e=>match T.get e with | some ie=>sliceA m ie.size (ρ t x) a b fun v=>K v [] | none=>False
    | _=>False
   | _,_=>False
  | none=>False
 | .fieldAddr t x f=>match T.get t with
  | some i=>match i.td with
   | .struct fs=>match fs[f]? with
    | some (off,ft)=>match T.get ft with
     | some _=>match ρ 0 x with
      | .ptr ob r j=>match m ob with | some _=>K (.ptr ob r (j+off)) [] | none=>False
      | .dp row j=>K (.dp row (j+off)) []
      | _=>False
     | none=>False
    | none=>False
   | _=>False
  | none=>False
 | .field t x f=>match T.get t with
  | some i=>match i.td with
   | .struct fs=>match fs[f]?,ρ t x with
    | some (off,ft),.agg cs=>match T.get ft with
     | some fi=>loadRow fi cs off fun v=>K v []
     | none=>False
    | _,_=>False
   | _=>False
  | none=>False
 | .indexAddr t x ix=>match T.get t with
  | some i=>match i.td with
   | .sl e=>match T.get e,intA (ρ 0 ix) with
    | some ie,some n=>indexAddrA m ie.size (ρ t x) n fun v=>K v []
    | _,_=>False
   | _=>False
  | none=>False
 | .index t x ix=>match T.get t with
  | some i=>match i.td,ρ 0 x,intA (ρ 0 ix) with
   | .str,.d (.v (.string ⟨⟨l⟩⟩)),some n=>(0≤n∧n<l.length)∧K (.d (.u8 (l.getD n.toNat 0).toNat)) []
   | _,_,_=>False
  | none=>False
 | .extract x i=>match ρ 0 x with
  | .tup vs=>match vs[i]? with | some v=>K v [] | none=>False
  | _=>False
 | .call { callee:=.builtin .len,args:=⟨[x]⟩,argTypes:=⟨[t]⟩ }=>match T.get t with
  | some i=>lenA m i.td (ρ t x) (lenK K)
  | none=>False
 | .call { callee:=.builtin .append,args:=⟨[x,y]⟩,argTypes:=⟨[t,t']⟩ }=>match T.get t with
  | some i=>match i.td with
   | .sl e=>match T.get e with
    | some ie=>match Nat.beq t t' with
     | true=>appendA m id ie (ρ t x) (ρ t y) K
     | false=>False
    | none=>False
   | _=>False
  | none=>False
 | .call { callee:=.builtin .min,args:=⟨xs⟩,argTypes:=_ }=>match maxInts min (xs.map (ρ 0)) with
  | some n=>K (.d (.i n)) []
  | none=>False
 | .call { callee:=.builtin .max,args:=⟨xs⟩,argTypes:=_ }=>match maxInts max (xs.map (ρ 0)) with
  | some n=>K (.d (.i n)) []
  | none=>False
 | .call { callee:=.value f,args:=⟨xs⟩,argTypes:=⟨ts⟩ }=>match ρ 0 f with
  | .fn g caps=>callA C m id g (mapT ρ ts xs++caps) K
  | _=>False
 | _=>False

def force1 (a:AV) (K:AV→Prop):Prop:=
 match a with
 | .any=>K .any
 | .nil k=>K (.nil k)
 | .d x=>K (.d x)
 | .dp row j=>K (.dp row j)
 | .ptr o i j=>match o with | 0=>K (.ptr 0 i j) | n+1=>K (.ptr (n+1) i j)
 | .sl o=>match o with | 0=>K (.sl 0) | n+1=>K (.sl (n+1))
 | .sub o lo n=>match o with | 0=>K (.sub 0 lo n) | p+1=>K (.sub (p+1) lo n)
 | .cel o i j=>match o with | 0=>K (.cel 0 i j) | p+1=>K (.cel (p+1) i j)
 | .agg cs=>K (.agg cs)
 | .tup vs=>K (.tup vs)
 | .fn f caps=>K (.fn f caps)

def forceL:List AV→(List AV→Prop)→Prop
 | [],K=>K []
 | c::cs,K=>force1 c fun c=>forceL cs fun cs=>K (c::cs)

def forceA (a:AV) (K:AV→Prop):Prop:=
 match a with
 | .agg cs=>forceL cs fun cs=>K (.agg cs)
 | .tup vs=>forceL vs fun vs=>K (.tup vs)
 | a=>force1 a K

def forceO (o:Option AO) (K:Option AO→Prop):Prop:=
 match o with
 | none=>K none
 | some (.box cs)=>forceL cs fun cs=>K (some (.box cs))
 | some (.arr k rows own)=>match own with | true=>K (some (.arr k rows true)) | false=>K (some (.arr k rows false))
 | some (.fro k rows)=>K (some (.fro k rows))
 | some (.pin cs)=>forceL cs fun cs=>K (some (.pin cs))
 | some (.mp l)=>K (some (.mp l))
 | some (.deep k rows)=>K (some (.deep k rows))

def forceU:Ups→List (Nat×Option AO)→(List (Nat×Option AO)→Prop)→Prop
 | [],m,K=>K m
 | (o,a)::r,m,K=>forceU r m fun m=>forceO a fun a=>match o with | 0=>K ((0,a)::m) | n+1=>K ((n+1,a)::m)

/-- the state behind an operation, its parts reckoned -/
def St.put (s:St) (dst:Option Nat) (v:AV) (u:Ups) (K:St→Prop):Prop:=
 match s with
 | ⟨env,mem,next⟩=>forceA v fun v=>forceU u mem fun mem=>match dst with
  | some t=>match next+stride with | 0=>K ⟨(t,v)::env,mem,0⟩ | n+1=>K ⟨(t,v)::env,mem,n+1⟩
  | none=>match next+stride with | 0=>K ⟨env,mem,0⟩ | n+1=>K ⟨env,mem,n+1⟩

/-- scalars over scalars -/
def scalD:List AV→Option (List D)
 | []=>some []
 | .d (.v y)::n=>match scalD n with | some r=>some (.v y::r) | none=>none
 | _=>none
def allV:List D→Bool
 | []=>true
 | .v _::r=>allV r
 | _=>false
/-- a store -/
def stepW (T:Tab) (o:Oper) (ρ:TypeId→Operand→AV) (m:Nat→Option AO) (K:AV→Ups→Prop):Prop:=
 match o.op,o.dst with
 | .store t a x,none=>match T.get t,ρ 0 a,cellsA (ρ t x) with
  | some i,.ptr ob r j,some new=>match Nat.beq new.length i.size with
   | true=>match m ob with
    | some (.box cs)=>match Nat.beq r 0,Nat.ble (j+new.length) cs.length with
     | true,true=>K .any [(ob,some (.box (splice cs j new)))]
     | _,_=>False
    | some (.arr _ _ _)=>match moveRow m new with
     | some (ds,u,o')=>match ovr u m ob with
      | some (.arr k rows own)=>r<rows.length∧∀row,rows[r]?=some row→match Nat.ble (j+ds.length) k with
       | true=>K .any ((ob,some (.arr k (rows.set r (row.take j++ds++row.drop (j+ds.length))) (andB o' own)))::u)
       | false=>False
      | _=>False
     | none=>False
    | some (.deep k rows)=>r<rows.length∧∀row,rows[r]?=some row→match scalD new with
     | some ds=>match Nat.ble (j+ds.length) k,allV ((row.drop j).take ds.length) with
      | true,true=>K .any [(ob,some (.deep k (rows.set r (row.take j++ds++row.drop (j+ds.length)))))]
      | _,_=>False
     | none=>False
    | _=>False
   | false=>False
  | _,_,_=>False
 | _,_=>False

def isStore:Op→Bool
 | .store ..=>true
 | _=>false

/-- an operation: what it yields, and what becomes of the objects -/
def stepX (C:Contract) (T:Tab) (o:Oper) (ρ:TypeId→Operand→AV) (m:Nat→Option AO) (id:Nat) (K:AV→Ups→Prop):Prop:=
 match isStore o.op with
 | true=>stepW T o ρ m K
 | false=>stepR C T o ρ m id K

/-- an operation at the state -/
def stepA (C:Contract) (T:Tab) (o:Oper) (s:St) (K:St→Prop):Prop:=
 stepX C T o (evA T s) (find s.mem) s.next fun v u=>s.put o.dst v u K

/-- what the guard says -/
def guardA (ops:List Oper) (s:St) (o:Oper) (yes no:St→Prop):Prop:=
 match o.guard with
 | none=>yes s
 | some (j,want)=>match ops[j]? with
  | some oj=>match oj.dst with
   | some t=>match s with
    | ⟨env,mem,next⟩=>match look env t with
     | .d (.v (.bool b))=>br b
      (match want with | true=>yes ⟨(t,.d (.v (.bool true)))::env,mem,next⟩ | false=>no ⟨(t,.d (.v (.bool true)))::env,mem,next⟩)
      (match want with | true=>no ⟨(t,.d (.v (.bool false)))::env,mem,next⟩ | false=>yes ⟨(t,.d (.v (.bool false)))::env,mem,next⟩)
     | .tup []=>no ⟨env,mem,next⟩
     | _=>False
   | none=>False
  | none=>False

def runOps (C:Contract) (T:Tab) (ops:List Oper):List Oper→(St→Prop)→St→Prop
 | [],K,s=>K s
 | o::r,K,s=>guardA ops s o (fun s=>stepA C T o s (runOps C T ops r K)) (fun s=>s.put o.dst (.tup []) [] (runOps C T ops r K))
termination_by l=>l.length

theorem runOps_nil {C:Contract} {T:Tab} {ops:List Oper} {K:St→Prop} {s:St} (h:K s):runOps C T ops [] K s:=by rw [runOps];exact h
theorem runOps_step {C:Contract} {T:Tab} {ops:List Oper} {o:Oper} {r:List Oper} {K:St→Prop} {s:St}
  (h:guardA ops s o (fun s=>stepA C T o s (runOps C T ops r K)) (fun s=>s.put o.dst (.tup []) [] (runOps C T ops r K))):runOps C T ops (o::r) K s:=by rw [runOps];exact h

/-- A DRAWN REGION: what is noted of an operation: its number, those that surely went before, the slots it looks at, where it yields, the objects it looks at and turns. -/
structure Rec where
 i:Nat
 bef:List Nat
 tm:List Nat
 dst:Option Nat
 rd:List Nat
 dom:List Nat

def interN:List Nat→List Nat→Bool
 | [],_=>false
 | x::r,l=>match memN x l with | true=>true | false=>interN r l

def memO (x:Option Nat) (l:List Nat):Bool:=match x with | some x=>memN x l | none=>false
def sameO (x y:Option Nat):Bool:=match x,y with | some x,some y=>Nat.beq x y | _,_=>false

def befAt (j:Nat):List Rec→List Nat
 | []=>[]
 | r::rs=>match Nat.beq r.i j with | true=>r.bef | false=>befAt j rs

def befOf (recs:List Rec) (i:Nat):List Edge→Option (List Nat)
 | []=>some []
 | e::r=>match Region.binds .any e with
  | true=>match Nat.blt e.on i,befOf recs i r with
   | true,some l=>some (e.on::(befAt e.on recs++l))
   | _,_=>none
  | false=>befOf recs i r

/-- the operands that an operation's walk looks at -/
def opnds:Op→List Operand
 | .move x=>[x]
 | .assign x=>[x]
 | .pick c a b=>[c,a,b]
 | .box _ x=>[x]
 | .build _ ⟨ps⟩=>ps.map (·.2)
 | .buildSlice _ _ ⟨ps⟩=>ps.map (·.2)
 | .load _ a=>[a]
 | .store _ a x=>[a,x]
 | .nilCheck x=>[x]
 | .binOp _ _ x y _=>[x,y]
 | .unOp _ _ x=>[x]
 | .convert _ _ x=>[x]
 | .makeFunc _ _ ⟨caps⟩=>caps
 | .makeSlice _ l c=>[l,c]
 | .slice _ x lo hi _=>x::(lo.toList++hi.toList)
 | .fieldAddr _ x _=>[x]
 | .field _ x _=>[x]
 | .indexAddr _ x ix=>[x,ix]
 | .index _ x ix=>[x,ix]
 | .mapUpdate _ x k y=>[x,k,y]
 | .lookup _ x k _=>[x,k]
 | .extract x _=>[x]
 | .call { callee:=.value f,args:=⟨xs⟩,argTypes:=_ }=>f::xs
 | .call { callee:=_,args:=⟨xs⟩,argTypes:=_ }=>xs
 | _=>[]

def tmpsL:List Operand→List Nat
 | []=>[]
 | .tmp t::r=>t::tmpsL r
 | _::r=>tmpsL r

def guardTmp (ops:List Oper) (o:Oper):List Nat:=
 match o.guard with
 | some (j,_)=>match ops[j]? with
  | some oj=>match oj.dst with | some t=>[t] | none=>[]
  | none=>[]
 | none=>[]

def namesV:AV→List Nat
 | .ptr o _ _=>[o]
 | .sl o=>[o]
 | .sub o _ _=>[o]
 | .agg cs=>go cs
 | .fn _ cs=>go cs
 | _=>[]
where go:List AV→List Nat
 | []=>[]
 | .ptr o _ _::r=>o::go r
 | .sl o::r=>o::go r
 | .sub o _ _::r=>o::go r
 | _::r=>go r

def namesX (s:St):List Operand→List Nat
 | []=>[]
 | .tmp t::r=>namesV (look s.env t)++namesX s r
 | _::r=>namesX s r

/-- and what their cells name -/
def deep (m:Nat→Option AO):List Nat→List Nat
 | []=>[]
 | o::r=>match m o with
  | some (.box cs)=>o::(namesV.go cs++deep m r)
  | _=>o::deep m r

def readsOf (o:Oper) (s:St):List Nat:=
 match o.op with
 | .move _=>[]
 | .assign _=>[]
 | .call { callee:=.value _,args:=_,argTypes:=_ }=>deep (find s.mem) (namesX s (opnds o.op))
 | _=>namesX s (opnds o.op)

def restr (rd:List Nat) (m:Nat→Option AO):Nat→Option AO:=fun o=>match memN o rd with | true=>m o | false=>none

def domU:Ups→List Nat
 | []=>[]
 | (o,_)::r=>o::domU r

/-- no clash with those whose order is not settled -/
def okRec (bef tm:List Nat) (dst:Option Nat) (rd dom:List Nat):List Rec→Bool
 | []=>true
 | j::r=>match memN j.i bef with
  | true=>okRec bef tm dst rd dom r
  | false=>match memO j.dst tm,memO dst j.tm,sameO dst j.dst,interN j.dom rd,interN j.rd dom,interN j.dom dom with
   | false,false,false,false,false,false=>okRec bef tm dst rd dom r
   | _,_,_,_,_,_=>false


def St.putD (s:St) (dst:Option Nat) (v:AV) (u:Ups) (K:St→Prop):Prop:=
 match s with
 | ⟨env,mem,next⟩=>forceA v fun v=>forceU u mem fun mem=>match dst with
  | some t=>K ⟨(t,v)::env,mem,next⟩
  | none=>K ⟨env,mem,next⟩

def drawGo (C:Contract) (T:Tab) (ops:List Oper):Nat→List Oper→List Rec→(St→Prop)→St→Prop
 | i,[],_,K,s=>match s with
  | ⟨env,mem,next⟩=>match next+stride * i with | 0=>K ⟨env,mem,0⟩ | n+1=>K ⟨env,mem,n+1⟩
 | i,o::r,recs,K,s=>match befOf recs i o.after.toList with
  | some bef=>forceN bef fun bef=>forceN (guardTmp ops o++tmpsL (opnds o.op)) fun tm=>
   guardA ops s o
    (fun s=>forceN (readsOf o s) fun rd=>stepX C T o (evA T s) (restr rd (find s.mem)) (s.next+stride * i) fun v u=>forceN (domU u) fun dom=>
     match okRec bef tm o.dst rd dom recs with
     | true=>s.putD o.dst v u (drawGo C T ops (i+1) r (⟨i,bef,tm,o.dst,rd,dom⟩::recs) K)
     | false=>False)
    (fun s=>match okRec bef tm o.dst [] [] recs with
     | true=>s.putD o.dst (.tup []) [] (drawGo C T ops (i+1) r (⟨i,bef,tm,o.dst,[],[]⟩::recs) K)
     | false=>False)
  | none=>False
termination_by _ l=>l.length

def draw (C:Contract) (T:Tab) (ops:List Oper) (K:St→Prop) (s:St):Prop:=drawGo C T ops 0 ops [] K s

/-- A WEAKER STATE: objects under other names (ρ: new name to old), what is not named forgotten. -/
inductive WV (ρ:Nat→Option Nat) (m m':Nat→Option AO):AV→AV→Prop
 | any (a:AV):WV ρ m m' a .any
 | d (x:D):WV ρ m m' (.d x) (.d x)
 | nil (k:Nat):WV ρ m m' (.nil k) (.nil k)
 | nild (k:Nat):WV ρ m m' (.nil k) (.d (.sl k []))
 | dp (row:List D) (j:Nat):WV ρ m m' (.dp row j) (.dp row j)
 | ptr (o o' i j:Nat) (h:ρ o'=some o):WV ρ m m' (.ptr o i j) (.ptr o' i j)
 | sl (o o':Nat) (h:ρ o'=some o):WV ρ m m' (.sl o) (.sl o')
 | slnew (k o':Nat) (own:Bool) (h:ρ o'=none) (hm:m' o'=some (.arr k [] own)):WV ρ m m' (.nil k) (.sl o')
 | sub (o o' lo n:Nat) (h:ρ o'=some o):WV ρ m m' (.sub o lo n) (.sub o' lo n)
 | frz (o k:Nat) (rows:List (List D)) (own:Bool) (h:m o=some (.arr k rows own)) (hn:∀o',ρ o'≠some o):WV ρ m m' (.sl o) (.d (.sl k rows))
 | fro (o k:Nat) (rows:List (List D)) (h:m o=some (.fro k rows)):WV ρ m m' (.sl o) (.d (.sl k rows))
 | agg (cs cs':List AV) (hl:cs.length=cs'.length) (h:∀i,i<cs.length→WV ρ m m' (cs.getD i .any) (cs'.getD i .any)):WV ρ m m' (.agg cs) (.agg cs')
 | fn (f:FuncId) (cs cs':List AV) (hl:cs.length=cs'.length) (h:∀i,i<cs.length→WV ρ m m' (cs.getD i .any) (cs'.getD i .any)):WV ρ m m' (.fn f cs) (.fn f cs')

inductive WO (ρ:Nat→Option Nat) (m m':Nat→Option AO):AO→AO→Prop
 | box (cs cs':List AV) (hl:cs.length=cs'.length) (h:∀i,i<cs.length→WV ρ m m' (cs.getD i .any) (cs'.getD i .any)):WO ρ m m' (.box cs) (.box cs')
 | arr (k:Nat) (rows:List (List D)) (own:Bool):WO ρ m m' (.arr k rows own) (.arr k rows own)
 | disown (k:Nat) (rows:List (List D)) (own:Bool):WO ρ m m' (.arr k rows own) (.arr k rows false)
 | fro (k:Nat) (rows:List (List D)):WO ρ m m' (.fro k rows) (.fro k rows)
 | pin (cs cs':List AV) (hl:cs.length=cs'.length) (h:∀i,i<cs.length→WV ρ m m' (cs.getD i .any) (cs'.getD i .any)):WO ρ m m' (.pin cs) (.pin cs')
 | mp (l:List (Int×Int)):WO ρ m m' (.mp l) (.mp l)
 | deep (k:Nat) (rows:List (List D)):WO ρ m m' (.deep k rows) (.deep k rows)

structure Weak (s s':St):Prop where
 ex:∃ρ:Nat→Option Nat,
  (∀t,WV ρ (find s.mem) (find s'.mem) (look s.env t) (look s'.env t))∧
  (∀o' ao',find s'.mem o'=some ao'→o'<s'.next∧
   ((∃o ao,ρ o'=some o∧find s.mem o=some ao∧WO ρ (find s.mem) (find s'.mem) ao ao')∨(ρ o'=none∧∃k own,0<k∧ao'=.arr k [] own)))∧
  (∀o₁ o₂ o,ρ o₁=some o→ρ o₂=some o→o₁=o₂)∧(∀o' o,ρ o'=some o→find s'.mem o'≠none)

def Wk (s s₁:St):Prop:=s₁=s∨Weak s s₁

def run (C:Contract) (T:Tab) (RD:List Oper→(St→Prop)→St→Prop):Code→(Ex→St→Prop)→St→Prop
 | .skip,K,s=>K .normal s
 | .region _ ⟨ops⟩ draw,K,s=>match draw with
  | false=>runOps C T ops ops (K .normal) s
  | true=>RD ops (K .normal) s
 | .seq a b,K,s=>∃M:St→Prop,run C T RD a (fun e s=>match e with | .normal=>∃s₁,Wk s s₁∧M s₁ | .exit i=>K (.exit i) s | .ret=>K .ret s) s∧∀s₁,M s₁→run C T RD b K s₁
 | .cond c a b,K,s=>match c with
  | .tmp t=>match s with
   | ⟨env,mem,next⟩=>match look env t with
    | .d (.v (.bool t'))=>br t' (run C T RD a K ⟨(t,.d (.v (.bool true)))::env,mem,next⟩) (run C T RD b K ⟨(t,.d (.v (.bool false)))::env,mem,next⟩)
    | _=>False
  | _=>False
 | .block id c,K,s=>run C T RD c (fun e s=>match e with
   | .normal=>K .normal s
   | .ret=>K .ret s
   | .exit i=>match Nat.beq i id with | true=>K .normal s | false=>K (.exit i) s) s
 | .loop c,K,s=>∃I:Nat→St→Prop,(∃n s₀,Weak s s₀∧I n s₀)∧
   ∀n s₀,I n s₀→run C T RD c (fun e s'=>match e with
    | .normal=>∃n' s₁,n'<n∧Weak s' s₁∧I n' s₁
    | .exit i=>K (.exit i) s'
    | .ret=>K .ret s') s₀
 | .exit id,K,s=>K (.exit id) s
 | .ret,K,s=>K .ret s
 | _,_,_=>False
termination_by c=>SizeOf.sizeOf c

section
variable {C:Contract} {T:Tab} {RD:List Oper→(St→Prop)→St→Prop} {K:Ex→St→Prop} {s:St}
theorem run_skip (h:K .normal s):run C T RD .skip K s:=by rw [run];exact h
theorem run_text {id:Nat} {ops:List Oper} (h:runOps C T ops ops (K .normal) s):run C T RD (.region id ⟨ops⟩ false) K s:=by rw [run];exact h
theorem run_draw {id:Nat} {ops:List Oper} (h:RD ops (K .normal) s):run C T RD (.region id ⟨ops⟩ true) K s:=by rw [run];exact h
theorem run_seq {a b:Code} (h:run C T RD a (fun e s=>match e with | .normal=>∃s₁,Wk s s₁∧run C T RD b K s₁ | .exit i=>K (.exit i) s | .ret=>K .ret s) s):run C T RD (.seq a b) K s:=by rw [run];exact ⟨_,h,fun _ h=>h⟩
/-- a cut between two parts: the state behind the first one in a form of its own -/
theorem run_cut {a b:Code} {τ:Type} (st:τ→St) (Z:τ→Prop) (h:run C T RD a (fun e s=>match e with | .normal=>∃s₁,Wk s s₁∧∃t,Z t∧s₁=st t | .exit i=>K (.exit i) s | .ret=>K .ret s) s)
  (h2:∀t,Z t→run C T RD b K (st t)):run C T RD (.seq a b) K s:=by rw [run];exact ⟨_,h,fun _ ⟨t,hz,e⟩=>e ▸ h2 t hz⟩
theorem run_on {b:Code} (h:run C T RD b K s):∃s₁,Wk s s₁∧run C T RD b K s₁:=⟨s,.inl rfl,h⟩
theorem cut_at {τ:Type} {st:τ→St} {Z:τ→Prop} (t:τ) (hz:Z t) (hw:Weak s (st t)):∃s₁,Wk s s₁∧∃t,Z t∧s₁=st t:=⟨st t,.inr hw,t,hz,rfl⟩
theorem run_cond {t:Nat} {a b:Code} {env:List (Nat×AV)} {mem:List (Nat×Option AO)} {next:Nat}
  (h:match look env t with
   | .d (.v (.bool t'))=>br t' (run C T RD a K ⟨(t,.d (.v (.bool true)))::env,mem,next⟩) (run C T RD b K ⟨(t,.d (.v (.bool false)))::env,mem,next⟩)
   | _=>False):run C T RD (.cond (.tmp t) a b) K ⟨env,mem,next⟩:=by rw [run];exact h
theorem run_block {id:Nat} {c:Code} (h:run C T RD c (fun e s=>match e with
   | .normal=>K .normal s
   | .ret=>K .ret s
   | .exit i=>match Nat.beq i id with | true=>K .normal s | false=>K (.exit i) s) s):run C T RD (.block id c) K s:=by rw [run];exact h
theorem run_loop {c:Code} (h:∃I:Nat→St→Prop,(∃n s₀,Weak s s₀∧I n s₀)∧
   ∀n s₀,I n s₀→run C T RD c (fun e s'=>match e with
    | .normal=>∃n' s₁,n'<n∧Weak s' s₁∧I n' s₁
    | .exit i=>K (.exit i) s'
    | .ret=>K .ret s') s₀):run C T RD (.loop c) K s:=by rw [run];exact h
theorem run_exit {id:Nat} (h:K (.exit id) s):run C T RD (.exit id) K s:=by rw [run];exact h
theorem run_ret (h:K .ret s):run C T RD .ret K s:=by rw [run];exact h
end

/-- the results, handed out: owned -/
def outC (m:Nat→Option AO):AV→Option (D×List Nat)
 | .d (.v x)=>some (.v x,[])
 | .nil k=>some (.sl k [],[])
 | .sl o=>match m o with
  | some (.arr k rows true)=>some (.sl k rows,[o])
  | _=>none
 | _=>none

def outRow (m:Nat→Option AO):List AV→Option (List D×List Nat)
 | []=>some ([],[])
 | c::cs=>match outC m c with
  | some (d,u)=>match outRow m cs with
   | some (ds,us)=>some (d::ds,u++us)
   | none=>none
  | none=>none

def outV (m:Nat→Option AO):AV→Option (DV×List Nat)
 | .agg cs=>match outRow m cs with | some (ds,u)=>some (.agg ds,u) | none=>none
 | v=>match outC m v with | some (d,u)=>some (.one d,u) | none=>none

def outVs (m:Nat→Option AO):List AV→Option (List DV×List Nat)
 | []=>some ([],[])
 | a::r=>match outV m a with
  | some (d,u)=>match outVs m r with
   | some (ds,us)=>some (d::ds,u++us)
   | none=>none
  | none=>none

def resV (T:Tab) (s:St):ResultVar→Option AV
 | .tmp t=>some (look s.env t)
 | .cell a t=>match look s.env a,T.get t with
  | .ptr o 0 0,some i=>match find s.mem o with
   | some (.box cs)=>match i.isAgg with
    | true=>match Nat.beq cs.length i.size with | true=>some (.agg cs) | false=>none
    | false=>match cs with | [c]=>some c | _=>none
   | _=>none
  | _,_=>none

def resVs (T:Tab) (s:St):List ResultVar→Option (List AV)
 | []=>some []
 | r::rs=>match resV T s r,resVs T s rs with
  | some v,some vs=>some (v::vs)
  | _,_=>none

def done (T:Tab) (rs:List ResultVar) (s:St) (R:DV→Prop):Prop:=
 match resVs T s rs with
 | some vs=>match outVs (find s.mem) vs with
  | some (ds,u)=>match noDup u with
   | true=>match ds with
    | [d]=>R d
    | ds=>R (.tup ds)
   | false=>False
  | none=>False
 | none=>False

def params:Nat→List DV→List (Nat×AV)
 | _,[]=>[]
 | n,d::ds=>(n,paramA d)::params (n+1) ds

/-- A FUNCTION's BODY at data: R of what it hands back. -/
def body (C:Contract) (T:Tab) (RD:List Oper→(St→Prop)→St→Prop) (f:Func) (args:List DV) (R:DV→Prop):Prop:=
 match f.body with
 | some c=>run C T RD c (fun e s=>match e with
  | .exit _=>False
  | _=>match f.results with | ⟨rs⟩=>done T rs s R) { env:=params 0 args,mem:=[],next:=0 }
 | none=>False

end Go.Av
