/- The evaluator's operations: what an operation does is told by its operands' values and the roots that they speak of. -/
import Derived.Test.YtihhlajibgoemaaGreatEvDefs
namespace Go.Ev
def St.get(st:St)(t:Tmp):TV:=st.temps.getD t .undef
def St.operand(st:St):Operand→TV
 |.tmp t=>st.get t
 |.const v=>.v false [ofValue 0 v]
 |_=>.undef
def St.look(st:St)(vs:List TV):Look:=(vs.flatMap TV.roots).eraseDups.map λr=>(r,st.mem.getD r deadRoot)
structure Eff where
 ok:Bool
 val:TV
 upd:Look
 new:List Root
def pureEff(b:Bool)(v:TV):Option Eff:=some ⟨b,v,[],[]⟩
def ixOf:TV→Option Int
 |.v false [.d (.int _ n)]=>some n
 |_=>none
def litLeaves(P:Program)(t:TypeId):List Leaf:=leaves P 9 t
def rowsOf(rs:Look):C→Option (List (List D))
 |.d (.sl false _ es)=>some es
 |.nils _=>some []
 |.view r ga gh q _ sub=>
  let x:=rs.get r
  if okView x ga gh q&&!(q.isEmpty&&x.box)then some (subRows (rowsAt x.es q) sub)else none
 |_=>none
def goodC(rs:Look):C→Bool
 |.view r _ _ q _ _=>pathOk (rs.get r).es q
 |_=>true
def szOf:C→Nat
 |.d (.sl _ n _)=>n
 |.nils n=>n
 |.view _ _ _ _ n _=>n
 |_=>0
def szFits(n:Nat):C→Bool
 |.nils _=>true
 |c=>szOf c==n
def fixNils:List Leaf→List C→List C
 |.sl n _::ls,.nils _::cs=>.nils n::fixNils ls cs
 |_::ls,c::cs=>c::fixNils ls cs
 |_,cs=>cs
def fixTV(P:Program)(t:TypeId):TV→TV
 |.v a cs=>.v a (fixNils (leaves P 9 t) cs)
 |x=>x
def fieldOf(P:Program)(s:TypeId)(f:Nat):Option Field:=match P.underlying s with|some (.struct fs)=>fs[f]?|_=>none
def putCells(cs:List C)(off:Nat)(vs:List C):List C:=cs.take off++vs++cs.drop (off+vs.length)
def TV.parts:TV→Option (List C)
 |.v true cs=>some cs
 |.v false [.undef]=>none
 |.v false [.gone]=>none
 |.v false [c]=>some [c]
 |_=>none
def buildGo(P:Program)(fs:Array Field):List (Nat×TV)→List C→Option (List C)
 |[],cs=>some cs
 |(f,v)::rest,cs=>match fs[f]?,v.parts with
  |some fd,some vs=>if vs.length=P.cellsOf fd.type∧fd.offset+vs.length≤cs.length then buildGo P fs rest (putCells cs fd.offset (fixNils (leaves P 9 fd.type) vs))else none
  |_,_=>none
def zeroC:D→C
 |.sl _ n _=>.nils n
 |d=>.d d
def arrFs (P : Program) (len : Nat) (e : TypeId) : Array Field := ((List.range len).map fun i => ({ name := "", type := e, offset := i * P.cellsOf e, embedded := false, tag := "", pkgPath := "", byteOffset := 0 } : Field)).toArray
def zeroArr(P:Program)(t:TypeId)(k:IntKind)(len:Nat):Option (List D):=
 match (P.info? t).bind (·.zero)with
 |some v=>zeroCells (List.replicate len (.int k)) v.cells.toList
 |none=>none
def intsOf(k:IntKind):List C→Option (List Int)
 |[]=>some []
 |.d (.int k' n)::cs=>if k'=k then(intsOf k cs).map (n::·)else none
 |_=>none
def boundC(lo hi n:Int):Bool:=decide (0≤lo)&&(decide (lo≤hi)&&decide (hi≤n))
def pickTV(c:Bool)(x y:TV):TV:=match x,y with
 |.v false [.d (.bool a)],.v false [.d (.bool b)]=>.v false [.d (.bool (bif c then a else b))]
 |_,_=>match c with|true=>x|false=>y
def opPure(P:Program)(o:Op)(vs:List TV)(rs:Look):Option Eff:=
 match o,vs with
 |.pick _ _ _,[.v false [.d (.bool c)],x,y]=>pureEff true (pickTV c x y)
 |.unOp .not _ _,[.v false [.d (.bool x)]]=>pureEff true (.v false [.d (.bool (!x))])
 |.unOp .neg _ _,[.v false [.d (.int k n)]]=>pureEff true (.v false [.d (.int k (k.wrap (0-n)))])
 |.binOp op t _ _ _,[.v false [.d (.int k x)],.v false [.d (.int k' y)]]=>
  match P.underlying t with
  |some (.int _)=>if op==.shl||op==.shr then(intBin op k x y).map λr=>⟨r.1,.v false [r.2],[],[]⟩
   else if k=k' then(intBin op k x y).map λr=>⟨r.1,.v false [r.2],[],[]⟩else none
  |_=>none
 |.binOp op t _ _ _,[.v false [.d (.bool x)],.v false [.d (.bool y)]]=>
  match P.underlying t with
  |some .bool=>(match op with |.eql=>pureEff true (.v false [.d (.bool (x==y))]) |.neq=>pureEff true (.v false [.d (.bool (x !=y))])|_=>none)
  |_=>none
 |.binOp op t _ _ _,[.v false [.d (.str x)],.v false [.d (.str y)]]=>
  match P.underlying t with
  |some .string=>(strBin op x y).map λr=>⟨r.1,.v false [r.2],[],[]⟩
  |_=>none
 |.binOp op t _ _ _,[.v true xs,.v true ys]=>
  match P.underlying t,op,eqTree P 9 t xs ys with
  |some (.struct _),.eql,some b=>pureEff true (.v false [.d (.bool b)])
  |some (.struct _),.neq,some b=>pureEff true (.v false [.d (.bool (!b))])
  |_,_,_=>none
 |.binOp .eql t _ _ _,[.v false [c],.v false [.nils _]]=>
  match P.underlying t,rowsOf rs c with
  |some (.slice _),some es=>pureEff (goodC rs c) (.v false [.nz es.isEmpty])
  |_,_=>none
 |.convert src dst _,[.v false [.d (.int _ n)]]=>
  match P.underlying src,P.underlying dst with
  |some (.int _),some (.int k')=>pureEff true (.v false [.d (.int k' (k'.wrap n))])
  |_,_=>none
 |.build t parts,vs=>
  match P.underlying t,zeroRow P t with
  |some (.struct fs),some z=>
   match buildGo P fs ((parts.toList.map (·.1)).zip vs) (z.map zeroC)with
   |some cs=>if vs.length=parts.size∧(fs.all λf=>(P.info? f.type).isSome)=true then pureEff true (.v true cs)else none
   |none=>none
  |some (.array len e),_=>match P.underlying e with
   |some (.int k)=>match zeroArr P t k len with
    |some z=>
     match buildGo P (arrFs P len e) ((parts.toList.map (·.1)).zip vs) (z.map zeroC)with
     |some cs=>if vs.length=parts.size∧(P.info? e).isSome=true then pureEff true (.v true cs)else none
     |none=>none
    |none=>none
   |_=>none
  |_,_=>none
 |.field s _ f,[.v true cs]=>
  match fieldOf P s f with
  |some fd=>if isAggB P fd.type then pureEff true (.v true ((cs.drop fd.offset).take (P.cellsOf fd.type)))
   else if(P.underlying fd.type).isSome then(match cs[fd.offset]? with|some c=>pureEff true (.v false [c])|none=>none)else none
  |none=>none
 |.extract _ i,[.tup vs]=>match vs[i]? with|some (b,cs)=>pureEff true (.v b cs)|none=>none
 |.nilCheck _,[.v false [.ptr r ga gh q n i j]]=>pureEff true (.v false [.ptr r ga gh q n i j])
 |.nilCheck _,[.v false [.rptr xs]]=>pureEff true (.v false [.rptr xs])
 |.fieldAddr s _ f,[.v false [.ptr r ga gh q n i j]]=>match fieldOf P s f with
  |some fd=>if P.cellsOf fd.type=0 then none else pureEff true (.v false [.ptr r ga gh q n i (j+fd.offset)])
  |none=>none
 |.fieldAddr s _ f,[.v false [.rptr xs]]=>match fieldOf P s f with
  |some fd=>if P.cellsOf fd.type=0 then none else pureEff true (.v false [.rptr (xs.drop fd.offset)])
  |none=>none
 |.indexAddr t _ _,[.v false [c],ix]=>
  match P.underlying t,rowsOf rs c,ixOf ix with
  |some (.slice e),some es,some i=>
   if(P.info? e).isSome&&szFits (P.cellsOf e) c then
    match c with
    |.view r ga gh q n sub=>pureEff (goodC rs c&&(decide (0≤i)&&decide (i<(es.length:Int)))) (.v false [.ptr r ga gh q n (subOff sub+i.toNat) 0])
    |_=>pureEff (decide (0≤i)&&decide (i<(es.length:Int))) (.v false [.rptr (es.getD i.toNat [])])
   else none
  |_,_,_=>none
 |.index t _ _,[.v false [.d (.str s)],ix]=>
  match P.underlying t,ixOf ix with
  |some .string,some i=>pureEff (decide (0≤i)&&decide (i<(s.size:Int))) (.v false [.d (.int .u8 ((s.data.toList.getD i.toNat 0).toNat:Int))])
  |_,_=>none
 |.index t _ _,[.v true cs,ix]=>
  match P.underlying t,ixOf ix with
  |some (.array len e),some i=>match P.underlying e with
   |some (.int k)=>match intsOf k cs with
    |some ns=>if ns.length=len∧(P.cellsOf e=1∧(P.info? e).isSome=true)then pureEff (decide (0≤i)&&decide (i<(len:Int))) (.v false [.d (.int k (ns.getD i.toNat 0))])else none
    |none=>none
   |_=>none
  |_,_=>none
 |.load t _,[.v false [.ptr r ga gh q n i j]]=>
  let x:=rs.get r
  if okView x ga gh q&&decide (j+P.cellsOf t≤n)then
   match loadCells (x.box&&q.isEmpty) ((rowsAt x.es q).getD i []) (λjj m=>.view r ga x.gh (q++[(i,jj)]) m none) j (litLeaves P t)with
   |some (b,cs)=>if cs.length=P.cellsOf t then(if isAggB P t then pureEff (pathOk x.es q&&b) (.v true cs)else if cs.length=1 then pureEff (pathOk x.es q&&b) (.v false cs)else none)else none
   |none=>none
  else none
 |.load t _,[.v false [.rptr xs]]=>
  match loadRo xs 0 (litLeaves P t)with
  |some (b,cs)=>if cs.length=P.cellsOf t then(if isAggB P t then pureEff b (.v true cs)else if cs.length=1 then pureEff b (.v false cs)else none)else none
  |none=>none
 |.nilCheck _,[.cp r cs]=>pureEff true (.cp r cs)
 |.fieldAddr s _ f,[.cp r cs]=>match fieldOf P s f with
  |some fd=>if P.cellsOf fd.type=0 then none else pureEff true (.cp r (cs.drop fd.offset))
  |none=>none
 |.load t _,[.cp r cs]=>
  if(rs.get r).live&&((P.underlying t).isSome&&decide (P.cellsOf t≤cs.length))then
   if isAggB P t then pureEff true (.v true (cs.take (P.cellsOf t)))else if P.cellsOf t=1 then pureEff true (.v false (cs.take (P.cellsOf t)))else none
  else none
 |_,_=>none
def TV.cells:TV→List C |.v _ cs=>cs |.tup _=>[.undef] |.cp _ _=>[.undef]
def moveRows(ls:List Leaf):List TV→Look→Option (Bool×List (List D)×Look)
 |[],rs=>some (true,[],rs)
 |v::vs,rs=>match moveAll (fixNils ls v.cells) rs with
  |some (b,r,rs)=>match moveRows ls vs rs with
   |some (b',es,rs)=>some (b&&b',r::es,rs)
   |none=>none
  |none=>none
def strOf(es:List (List D)):ByteArray:=⟨(es.map λr=>(r.getD 0 .dead).num.toNat.toUInt8).toArray⟩
def allBytes:List (List D)→Bool:=λes=>es.all λr=>fits true [.int .u8] r
def newPart(P:Program)(e:TypeId)(rs:Look):C→Option (Bool×List (List D)×Look)
 |.view r ga gh q n sub=>if flatB P e then(match rowsOf rs (.view r ga gh q n sub)with
  |some xs=>some (goodC rs (.view r ga gh q n sub)&&xs.all (λr=>r.all D.noSl),xs,rs)
  |none=>none)else(match C.move rs (.view r ga gh q n sub)with
  |some (b,d,rs1)=>some (b,d.rows,rs1)
  |none=>none)
 |c=>match rowsOf rs c with
  |some xs=>some (true,xs,rs)
  |none=>none
def oldPart(rs:Look):C→Option (Bool×List (List D)×Look)
 |.nils _=>some (true,[],rs)
 |.view r ga gh q n sub=>match C.move rs (.view r ga gh q n sub)with
  |some (b,d,rs1)=>some (b,d.rows,rs1)
  |none=>none
 |_=>none
def opMem(P:Program)(nx:Nat)(o:Op)(vs:List TV)(rs:Look):Option Eff:=
 match o,vs with
 |.alloc t,[]=>match zeroRow P t with
  |some row=>if row.length=P.cellsOf t then some ⟨true,.v false [.ptr nx 0 0 [] row.length 0 0],rs,[{ box:=true,sz:=row.length,es:=[row] }]⟩else none
  |none=>none
 |.box t _,[v]=>match moveAll (fixNils (litLeaves P t) v.cells) rs with
  |some (b,row,rs)=>if row.length=P.cellsOf t then some ⟨b,.v false [.ptr nx 0 0 [] row.length 0 0],rs,[{ box:=true,sz:=row.length,es:=[row] }]⟩else none
  |none=>none
 |.store t _ _,[.v false [.ptr r ga gh q n i j],v]=>
  match moveAll (fixNils (litLeaves P t) v.cells) rs with
  |some (b,ds,rs)=>
   let x:=rs.get r
   if okView x ga gh q&&(decide (ds.length=P.cellsOf t)&&(decide (j+ds.length≤n)&&((P.info? t).isSome&&x.free q (i*n+j) ds.length [])))then
    some ⟨b&&pathOk x.es q,.undef,rs.put r { (x.wrote q j ds [])with
     es:=modAt (λrows=>rows.set i (newRow rows i j n ds)) x.es q },[]⟩
   else none
  |none=>none
 |.makeSlice t _ _,[.v false [.d (.int _ n)],.v false [.d (.int _ m)]]=>
  match P.underlying t with
  |some (.slice e)=>match zeroRow P e with
   |some row=>if row.length=P.cellsOf e∧0<P.bytesOf e then
    some ⟨decide (0≤n)&&(decide (n≤m)&&decide (m.toNat*P.bytesOf e≤140737488355328)),.v false [.view nx 0 0 [] row.length none],rs,[{ box:=false,sz:=row.length,es:=List.replicate n.toNat row }]⟩else none
   |none=>none
  |_=>none
 |.buildSlice t len parts,vs=>
  match P.underlying t with
  |some (.slice e)=>
   if parts.toList.map (·.1)=List.range len∧vs.length=len∧(len*P.cellsOf e≤16777216∧len≤16777216)∧(zeroRow P e).isSome=true then
    match moveRows (litLeaves P e) vs rs with
    |some (b,es,rs)=>if es.all λr=>r.length==P.cellsOf e then some ⟨b,.v false [.view nx 0 0 [] (P.cellsOf e) none],rs,[{ box:=false,sz:=P.cellsOf e,es:=es }]⟩else none
    |none=>none
   else none
  |_=>none
 |.slice t _ lo hi none,.v false [.d (.str s)]::vs=>
  match P.underlying t with
  |some .string=>
   (match lo,hi,vs with
   |none,none,[]=>some ⟨true,.v false [.d (.str s)],rs,[]⟩
   |some _,none,[a]=>(ixOf a).map λa=>⟨boundC a (s.size:Int) (s.size:Int),.v false [.d (.str (s.extract a.toNat s.size))],rs,[]⟩
   |none,some _,[b]=>(ixOf b).map λb=>⟨boundC 0 b (s.size:Int),.v false [.d (.str (s.extract 0 b.toNat))],rs,[]⟩
   |some _,some _,[a,b]=>match ixOf a,ixOf b with
    |some a,some b=>some ⟨boundC a b (s.size:Int),.v false [.d (.str (s.extract a.toNat b.toNat))],rs,[]⟩
    |_,_=>none
   |_,_,_=>none)
  |_=>none
 |.slice t _ lo hi none,.v false [c]::vs=>
  match P.underlying t,rowsOf rs c with
  |some (.slice e),some es=>
   if(P.info? e).isSome&&szFits (P.cellsOf e) c then
    (match (match lo,hi,vs with
     |some _,none,[a]=>(ixOf a).map λa=>(a,(es.length:Int))
     |none,some _,[b]=>(ixOf b).map λb=>(0,b)
     |some _,some _,[a,b]=>match ixOf a,ixOf b with|some a,some b=>some (a,b)|_,_=>none
     |_,_,_=>none:Option (Int×Int))with
    |some (a,b)=>match c with
     |.view r ga gh q n sub=>some ⟨goodC rs c&&boundC a b (es.length:Int),.v false [.view r ga gh q n (some (subOff sub+a.toNat,(b-a).toNat))],rs,[]⟩
     |.d (.sl false n _)=>some ⟨boundC a b (es.length:Int),.v false [.d (.sl false n ((es.drop a.toNat).take (b-a).toNat))],rs,[]⟩
     |_=>none
    |none=>none)
   else none
  |_,_=>none
 |.convert src dst a,[.v false [c]]=>
  match P.underlying src,P.underlying dst,rowsOf rs c with
  |some (.slice e),some .string,some es=>if szOf c=1 then(match P.underlying e with
   |some (.int .u8)=>some ⟨goodC rs c&&allBytes es,.v false [.d (.str (strOf es))],rs,[]⟩
   |_=>none)else none
  |_,_,_=>opPure P (.convert src dst a) [.v false [c]] rs
 |.call c,vs=>
  match c.callee,c.argTypes.toList,vs with
  |.builtin .len,[t],[.v false [.d (.str s)]]=>(match P.underlying t with|some .string=>some ⟨true,.v false [.d (.int .i64 (s.size:Int))],rs,[]⟩|_=>none)
  |.builtin .len,[t],[.v false [c]]=>(match P.underlying t,rowsOf rs c with
   |some (.slice _),some es=>some ⟨goodC rs c,.v false [.d (.int .i64 (es.length:Int))],rs,[]⟩
   |_,_=>none)
  |.builtin .min,_,[.v false [.d (.int k x)],.v false [.d (.int _ y)]]=>some ⟨true,.v false [.d (.int k (if y<x then y else x))],rs,[]⟩
  |.builtin .max,_,[.v false [.d (.int k x)],.v false [.d (.int _ y)]]=>some ⟨true,.v false [.d (.int k (if x<y then y else x))],rs,[]⟩
  |.builtin .append,[t,u],[.v false [s],.v false [x]]=>
   (match P.underlying t,P.underlying u with
   |some (.slice e),some (.slice _)=>
    if zeroOk P e&&(decide (0<P.bytesOf e)&&(szFits (P.cellsOf e) x&&szFits (P.cellsOf e) s))then
    match newPart P e rs x with
    |some (b1,xs,rs1)=>match oldPart rs1 s with
     |some (b2,bs,rs2)=>
      some ⟨(b1&&b2)&&decide ((bs.length+xs.length)*P.bytesOf e≤140737488355328),.v false [.view nx 0 0 [] (P.cellsOf e) none],rs2,[{ box:=false,sz:=P.cellsOf e,es:=bs++xs }]⟩
     |none=>none
    |none=>none
    else none
   |_,_=>none)
  |_,_,_=>none
 |o,vs=>opPure P o vs rs
def boxCp(P:Program)(nx:Nat)(t:TypeId)(v:TV)(rs:Look):Option Eff:=
 match v with
 |.v _ cs=>if cs.length=P.cellsOf t∧cs.all C.solid=true then some ⟨true,.cp nx (fixNils (litLeaves P t) cs),rs,[{ box:=true,sz:=cs.length,es:=[List.replicate cs.length .dead],frz:=true }]⟩else none
 |_=>none
def ownCells(row:List D):Nat→List Leaf→Bool
 |_,[]=>true
 |j,.sl _ _::ls=>(row.getD j .dead).isOwn&&ownCells row (j+1) ls
 |j,_::ls=>ownCells row (j+1) ls
def opRo(P:Program)(mx:TypeId→Bool)(o:Op)(vs:List TV)(rs:Look):Option (Bool×Eff):=
 match o,vs with
 |.load t _,[.v false [.ptr r ga gh q n i j]]=>bif mx t then
  (if okView (rs.get r) ga gh q&&(decide (j+P.cellsOf t≤n)&&isAggB P t)then
   match loadRo ((rowsAt (rs.get r).es q).getD i []) j (litLeaves P t)with
   |some (b,cs)=>if cs.length=P.cellsOf t then some (ownCells ((rowsAt (rs.get r).es q).getD i []) j (litLeaves P t),⟨pathOk (rs.get r).es q&&b,.v true cs,[],[]⟩)else none
   |none=>none
  else none)else none
 |_,_=>none
def opEff(P:Program)(fz:Bool)(nx:Nat)(o:Oper)(vs:List TV)(rs:Look):Option Eff:=
 match o.op,vs with
 |.move _,[v]=>some ⟨true,fixTV P o.type v,rs,[]⟩
 |.assign _,[v]=>some ⟨true,fixTV P o.type v,rs,[]⟩
 |.box t x,[v]=>match fz with
  |true=>boxCp P nx t v rs
  |false=>opMem P nx (.box t x) [v] rs
 |op,vs=>opMem P nx op vs rs
end Go.Ev
