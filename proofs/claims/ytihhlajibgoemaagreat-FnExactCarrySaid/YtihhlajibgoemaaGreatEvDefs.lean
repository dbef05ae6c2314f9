/- A plain evaluator of loaded functions over trees: what comes in by value is read only; what a function makes, or is handed to write, is owned. A proof follows it that the machine does what it says. -/
import Derived.WalkKit
import Derived.Below
import Derived.Orders
namespace Go.Ev
inductive D where
 |int (k:IntKind) (n:Int)
 |bool (b:Bool)
 |str (s:ByteArray)
 |sl (own:Bool) (sz:Nat) (es:List (List D))
 |dead
 deriving Inhabited
namespace D
def num:D→Int |.int _ n=>n|_=>0
def flag:D→Bool |.bool b=>b|_=>false
def text:D→ByteArray |.str s=>s|_=>ByteArray.empty
def rows:D→List (List D) |.sl _ _ es=>es|_=>[]
end D
inductive Leaf where
 |int (k:IntKind)|bool|str|sl (sz:Nat) (flat:Bool)|other
 deriving DecidableEq,Inhabited
def Leaf.fit(own:Bool):Leaf→D→Bool
 |.int k,.int k' _=>decide (k=k')
 |.bool,.bool _=>true
 |.str,.str _=>true
 |.sl n _,.sl o m _=>(o==own)&&(n==m)
 |.other,.dead=>true
 |_,_=>false
def fits(own:Bool):List Leaf→List D→Bool
 |[],[]=>true
 |l::ls,d::ds=>l.fit own d&&fits own ls ds
 |_,_=>false
def leaves(P:Program):Nat→TypeId→List Leaf
 |0,_=>[.other]
 |n+1,t=>match P.underlying t with
  |some (.int k)=>[.int k]
  |some .bool=>[.bool]
  |some .string=>[.str]
  |some (.slice e)=>[.sl (P.cellsOf e) (!(leaves P n e).any λl=>match l with |.sl _ _=>true|_=>false)]
  |some (.struct fs)=>fs.toList.flatMap λf=>leaves P n f.type
  |_=>[.other]
def Leaf.isSl:Leaf→Bool |.sl _ _=>true|_=>false
def isAggB(P:Program)(t:TypeId):Bool:=match P.underlying t with|some (.struct _)|some (.array _ _)=>true|_=>false
def flatB(P:Program)(e:TypeId):Bool:=!(leaves P 9 e).any Leaf.isSl
mutual
def D.lend:D→D
 |.sl _ n es=>.sl false n (lendRows es)
 |d=>d
def lendRow:List D→List D
 |[]=>[]
 |d::ds=>d.lend::lendRow ds
def lendRows:List (List D)→List (List D)
 |[]=>[]
 |e::es=>lendRow e::lendRows es
end
abbrev Path:=List (Nat×Nat)
inductive C where
 |d (x:D)
 |view (r ga gh:Nat) (q:Path) (sz:Nat) (sub:Option (Nat×Nat))
 |ptr (r ga gh:Nat) (q:Path) (sz i j:Nat)
 |rptr (xs:List D)
 |nils (sz:Nat)
 |undef
 |gone
 |nz (p:Bool)
 deriving Inhabited
inductive TV where
 |v (agg:Bool) (cs:List C)
 |tup (vs:List (Bool×List C))
 |cp (r:Nat) (cs:List C)
 deriving Inhabited
abbrev TV.undef:TV:=.v false [.undef]
abbrev TV.gone:TV:=.v false [.gone]
def C.solid:C→Bool |.undef=>false |.gone=>false|_=>true
abbrev TV.d(x:D):TV:=.v false [.d x]
structure Root where
 box:Bool
 sz:Nat
 es:List (List D)
 ga:Nat:=0
 gh:Nat:=0
 live:Bool:=true
 born:Bool:=true
 frz:Bool:=false
 cv:List (Nat×Nat):=[]
 c0:Nat:=0
 pin:List Nat:=[]
 deriving Inhabited
structure St where
 temps:List TV
 mem:List Root
 deriving Inhabited
def rowsAt:List (List D)→Path→List (List D)
 |es,[]=>es
 |es,(i,j)::p=>rowsAt ((es.getD i []).getD j .dead).rows p
def modAt(f:List (List D)→List (List D)):List (List D)→Path→List (List D)
 |es,[]=>f es
 |es,(i,j)::p=>match (es.getD i []).getD j .dead with
  |.sl o n es'=>es.set i ((es.getD i []).set j (.sl o n (modAt f es' p)))
  |_=>es
def killAt:List (List D)→Path→List (List D)
 |es,[]=>es
 |es,[(i,j)]=>es.set i ((es.getD i []).set j .dead)
 |es,(i,j)::p=>match (es.getD i []).getD j .dead with
  |.sl o n es'=>es.set i ((es.getD i []).set j (.sl o n (killAt es' p)))
  |_=>es
def splice(xs:List D)(j:Nat)(vs:List D):List D:=xs.take j++vs++xs.drop (j+vs.length)
def newRow(rows:List (List D))(i j n:Nat)(ds:List D):List D:=bif (j==0)&&(ds.length==n)then ds else splice (rows.getD i []) j ds
def subRows(es:List (List D)):Option (Nat×Nat)→List (List D)
 |none=>es
 |some (o,n)=>(es.drop o).take n
def subOff:Option (Nat×Nat)→Nat
 |none=>0
 |some x=>x.1
def subLen(es:List (List D)):Option (Nat×Nat)→Nat
 |none=>es.length
 |some (_,n)=>n
def C.roots:C→List Nat
 |.view r ..=>[r]
 |.ptr r ..=>[r]
 |_=>[]
def TV.roots:TV→List Nat
 |.v _ cs=>cs.flatMap C.roots
 |.tup vs=>vs.flatMap λx=>x.2.flatMap C.roots
 |.cp r cs=>r::cs.flatMap C.roots
def deadRoot:Root:={ box:=true,sz:=0,es:=[],live:=false,born:=false }
abbrev Look:=List (Nat×Root)
def Look.get(rs:Look)(r:Nat):Root:=match rs.find? (λx=>x.1==r)with|some x=>x.2|none=>deadRoot
def Look.put(rs:Look)(r:Nat)(x:Root):Look:=rs.map λy=>if y.1==r then(r,x)else y
def colAt(cv:List (Nat×Nat))(j:Nat):Nat:=match cv.find? (λx=>x.1==j)with|some x=>x.2|none=>0
def headOk(x:Root)(gh:Nat):Path→Bool
 |[(_,j)]=>decide (x.c0≤gh)&&decide (colAt x.cv j≤gh)
 |_=>x.gh==gh
def okView(x:Root)(ga gh:Nat)(q:Path):Bool:=(x.live&&!x.frz)&&(x.ga==ga)&&(q.isEmpty||headOk x gh q)
def D.noSl:D→Bool |.sl _ _ _=>false|_=>true
def colsOf(pin:List Nat)(g j:Nat):Nat→List D→List (Nat×Nat)
 |_,[]=>[]
 |k,d::ds=>bif d.noSl||pin.contains k then colsOf pin g j (k+1) ds else(j+k,g)::colsOf pin g j (k+1) ds
def Root.wrote(x:Root)(q:Path)(j:Nat)(ds:List D)(pin:List Nat):Root:=
 bif ds.all D.noSl then x else { x with gh:=x.gh+1,cv:=match q with|[]=>colsOf pin (x.gh+1) j 0 ds++x.cv|_=>x.cv }
def Root.free(x:Root)(q:Path)(a n:Nat)(pin:List Nat):Bool:=!q.isEmpty||x.pin.all (λk=>decide (k<a)||(decide (a+n≤k)||pin.contains (k-a)))
theorem Zna{x:Root}{q:Path}{a n:Nat}{pin:List Nat}(h:x.free q a n pin=true)(hq:q=[]){k:Nat}(hk:k∈x.pin):k<a∨a+n≤k∨k-a∈pin:=by
 subst hq;unfold Root.free at h;simp only[List.isEmpty_nil,Bool.not_true,Bool.false_or,List.all_eq_true,Bool.or_eq_true,decide_eq_true_eq,List.contains_iff_mem]at h;exact h k hk
def unpin(pin:List Nat):Nat→List D→List D→List D
 |_,[],_=>[]
 |k,d::ds,old=>(bif pin.contains k then old.headD .dead else d)::unpin pin (k+1) ds old.tail
def pinned(pin:List Nat):Nat→List D→List D
 |_,[]=>[]
 |k,d::ds=>(bif pin.contains k then .dead else d)::pinned pin (k+1) ds
def pinRow(pin:List Nat)(row:List D):List D:=bif pin.isEmpty then row else pinned pin 0 row
def unpinRow(pin:List Nat)(row old:List D):List D:=bif pin.isEmpty then row else unpin pin 0 row old
def pinLeaves(pin:List Nat):Nat→List Leaf→List Leaf
 |_,[]=>[]
 |k,l::ls=>(bif pin.contains k then .other else l)::pinLeaves pin (k+1) ls
def D.isOwn:D→Bool |.sl o _ _=>o|_=>false
def pathOk:List (List D)→Path→Bool
 |_,[]=>true
 |es,(i,j)::p=>((es.getD i []).getD j .dead).isOwn&&pathOk ((es.getD i []).getD j .dead).rows p
mutual
def D.deep:D→Bool
 |.sl o _ es=>o&&deepRows es
 |_=>true
def deepRow:List D→Bool
 |[]=>true
 |d::ds=>d.deep&&deepRow ds
def deepRows:List (List D)→Bool
 |[]=>true
 |e::es=>deepRow e&&deepRows es
end
def C.move(rs:Look):C→Option (Bool×D×Look)
 |.d x=>some (true,x,rs)
 |.nils sz=>some (true,.sl true sz [],rs)
 |.view r ga gh q sz sub=>
  let x:=rs.get r
  if okView x ga gh q then
   match q with
   |[]=>if x.box then none else some (true,.sl true sz (subRows x.es sub),rs.put r { x with live:=false })
   |_=>some (pathOk x.es q,.sl true sz (subRows (rowsAt x.es q) sub),rs.put r { x with es:=killAt x.es q })
  else none
 |_=>none
def moveAll:List C→Look→Option (Bool×List D×Look)
 |[],rs=>some (true,[],rs)
 |c::cs,rs=>match c.move rs with
  |some (b,d,rs)=>match moveAll cs rs with
   |some (b',ds,rs)=>some (b&&b',d::ds,rs)
   |none=>none
  |none=>none
end Go.Ev
namespace Go.Ev
inductive Mode where
 |lend|give|inout (own:Bool) (pin:List Nat)|ro
 deriving DecidableEq,Inhabited
structure Hints where
 mode:FuncId→List Mode:=λ_=>[]
 resRo:FuncId→Bool:=λ_=>false
 muts:FuncId→List Bool:=λ_=>[]
 mix:TypeId→Bool:=λ_=>false
def Hints.modes(H:Hints)(f:FuncId)(n:Nat):List Mode:=(H.mode f++List.replicate n Mode.lend).take n
def ofValue(sz:Nat):Value→C
 |.int k n=>.d (.int k n)
 |.bool b=>.d (.bool b)
 |.string s=>.d (.str s)
 |.slice none 0 0=>.nils sz
 |_=>.undef
def zeroOf:Value→Option D
 |.int k n=>some (.int k n)
 |.bool b=>some (.bool b)
 |.string s=>some (.str s)
 |_=>none
def zeroCells:List Leaf→List Value→Option (List D)
 |[],[]=>some []
 |.sl n _::ls,.slice none 0 0::vs=>(zeroCells ls vs).map (.sl true n []::·)
 |_::ls,v::vs=>match zeroOf v with
  |some d=>(zeroCells ls vs).map (d::·)
  |none=>none
 |_,_=>none
def zeroRow(P:Program)(t:TypeId):Option (List D):=
 match (P.info? t).bind (·.zero)with
 |some v=>zeroCells (leaves P 9 t) v.cells.toList
 |none=>none
def zeroOk(P:Program)(t:TypeId):Bool:=match zeroRow P t with|some row=>row.length==P.cellsOf t|none=>false
def loadCell(box:Bool)(x:D)(view:Nat→C):Leaf→Option (Bool×C)
 |.int k=>some ((Leaf.int k).fit true x,.d (.int k x.num))
 |.bool=>some (Leaf.bool.fit true x,.d (.bool x.flag))
 |.str=>some (Leaf.str.fit true x,.d (.str x.text))
 |.sl n _=>match box with
  |true=>match x with
   |.sl false m es=>if n=m then some (true,.d (.sl false m es))else none
   |.sl true m _=>if n=m then some (true,view n)else none
   |_=>some (true,.undef)
  |false=>some ((Leaf.sl n true).fit true x,view n)
 |.other=>none
def loadCells(box:Bool)(row:List D)(view:Nat→Nat→C):Nat→List Leaf→Option (Bool×List C)
 |_,[]=>some (true,[])
 |j,l::ls=>match loadCell box (row.getD j .dead) (view j) l with
  |some (b,c)=>match loadCells box row view (j+1) ls with
   |some (b',cs)=>some (b&&b',c::cs)
   |none=>none
  |none=>none
def loadRo(row:List D):Nat→List Leaf→Option (Bool×List C)
 |_,[]=>some (true,[])
 |j,l::ls=>
  let x:=row.getD j .dead
  match (match l with
   |.int k=>some (l.fit false x,C.d (.int k x.num))
   |.bool=>some (l.fit false x,C.d (.bool x.flag))
   |.str=>some (l.fit false x,C.d (.str x.text))
   |.sl n _=>some (l.fit false x,C.d (.sl false n x.rows))
   |.other=>none:Option (Bool×C))with
  |some (b,c)=>match loadRo row (j+1) ls with
   |some (b',cs)=>some (b&&b',c::cs)
   |none=>none
  |none=>none
def intBin(op:BinOp)(k:IntKind)(x y:Int):Option (Bool×C):=
 match op with
 |.add=>some (true,.d (.int k (k.wrap (x+y))))
 |.sub=>some (true,.d (.int k (k.wrap (x-y))))
 |.mul=>some (true,.d (.int k (k.wrap (x*y))))
 |.quo=>some (!decide (y=0),.d (.int k (k.wrap (x.tdiv y))))
 |.rem=>some (!decide (y=0),.d (.int k (x.tmod y)))
 |.and=>some (true,.d (.int k (k.wrap ((BitVec.ofInt k.bits x &&&BitVec.ofInt k.bits y).toNat))))
 |.or=>some (true,.d (.int k (k.wrap ((BitVec.ofInt k.bits x |||BitVec.ofInt k.bits y).toNat))))
 |.xor=>some (true,.d (.int k (k.wrap ((BitVec.ofInt k.bits x ^^^ BitVec.ofInt k.bits y).toNat))))
 |.shl=>some (decide (0≤y),.d (.int k (k.wrap (x*2 ^ (min y.toNat k.bits)))))
 |.shr=>some (decide (0≤y),.d (.int k (x.fdiv (2 ^ (min y.toNat k.bits)))))
 |.eql=>some (true,.d (.bool (x==y)))
 |.neq=>some (true,.d (.bool (x !=y)))
 |.lss=>some (true,.d (.bool (decide (x<y))))
 |.leq=>some (true,.d (.bool (decide (x≤y))))
 |.gtr=>some (true,.d (.bool (decide (x>y))))
 |.geq=>some (true,.d (.bool (decide (x≥y))))
 |_=>none
def strBin(op:BinOp)(x y:ByteArray):Option (Bool×C):=
 match op with
 |.add=>some (decide (x.size+y.size≤9223372036854775807),.d (.str (x++y)))
 |.eql=>some (true,.d (.bool (x.toList==y.toList)))
 |.neq=>some (true,.d (.bool (!(x.toList==y.toList))))
 |.lss=>some (true,.d (.bool (Op.bytesLess x.toList y.toList)))
 |.leq=>some (true,.d (.bool (Op.bytesLess x.toList y.toList||x.toList==y.toList)))
 |.gtr=>some (true,.d (.bool (!(Op.bytesLess x.toList y.toList||x.toList==y.toList))))
 |.geq=>some (true,.d (.bool (!Op.bytesLess x.toList y.toList)))
 |_=>none
def scalarEq:TypeDesc→List C→List C→Option Bool
 |.int _,[.d (.int k x)],[.d (.int k' y)]=>if k=k' then some (x==y)else none
 |.bool,[.d (.bool x)],[.d (.bool y)]=>some (x==y)
 |.string,[.d (.str x)],[.d (.str y)]=>some (x.toList==y.toList)
 |_,_,_=>none
def partC(P:Program)(t:TypeId)(cs:List C)(off:Nat):Option (List C):=
 if isAggB P t then some ((cs.drop off).take (P.cellsOf t))else match cs[off]? with|some c=>some [c]|none=>none
def eqFs(P:Program)(eq:TypeId→List C→List C→Option Bool)(xs ys:List C):List Field→Option Bool
 |[]=>some true
 | f :: fs => if f.name = "_" then eqFs P eq xs ys fs else
  match partC P f.type xs f.offset,partC P f.type ys f.offset with
  |some a,some b=>match eq f.type a b with
   |some x=>match eqFs P eq xs ys fs with
    |some y=>some (x&&y)
    |none=>none
   |none=>none
  |_,_=>none
def eqTree(P:Program):Nat→TypeId→List C→List C→Option Bool
 |0,_,_,_=>none
 |n+1,t,xs,ys=>match P.underlying t with
  |some (.struct fs)=>if P.stoodInHeld t then none else eqFs P (eqTree P n) xs ys fs.toList
  |some d=>scalarEq d xs ys
  |none=>none
end Go.Ev
