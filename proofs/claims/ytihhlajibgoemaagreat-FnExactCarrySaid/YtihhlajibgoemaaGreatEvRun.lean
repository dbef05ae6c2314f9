/- The evaluator's runs: regions, code, functions. -/
import Derived.Test.YtihhlajibgoemaaGreatEvOps
namespace Go.Ev
abbrev Row:=List D
abbrev CallF:=FuncId→List Row→Option (Bool×List Row×List Row)
structure Ctx where
 P:Program
 H:Hints
 fn:FuncId
def typedCell(own:Bool)(x:D):Leaf→D
 |.int k=>.int k x.num
 |.bool=>.bool x.flag
 |.str=>.str x.text
 |.sl n _=>.sl own n x.rows
 |.other=>.dead
def typedRow(own:Bool)(row:Row):Nat→List Leaf→Row
 |_,[]=>[]
 |j,l::ls=>typedCell own (row.getD j .dead) l::typedRow own row (j+1) ls
def frameCells(own:Bool):Row→Nat→List C×List Root
 |[],_=>([],[])
 |.sl o n es::ds,nx=>bif own then
  let r:=frameCells own ds (nx+1)
  (.view nx 0 0 [] n none::r.1,{ box:=false,sz:=n,es:=es }::r.2)
  else
   let r:=frameCells own ds nx
   (.d (.sl o n es)::r.1,r.2)
 |.dead::ds,nx=>let r:=frameCells own ds nx;(.undef::r.1,r.2)
 |d::ds,nx=>let r:=frameCells own ds nx;(.d d::r.1,r.2)
def lendCell(rs:Look):C→Option D
 |.d x=>some x
 |.nils n=>some (.sl false n [])
 |.view r ga gh q n sub=>match rowsOf rs (.view r ga gh q n sub)with
  |some es=>some (.sl false n (lendRows es))
  |none=>none
 |_=>none
def lendCells(rs:Look):List C→Option (Bool×Row)
 |[]=>some (true,[])
 |c::cs=>match lendCell rs c with
  |some d=>match lendCells rs cs with
   |some (b,ds)=>some (goodC rs c&&b,d::ds)
   |none=>none
  |none=>none
def elemOf(P:Program)(t:TypeId):TypeId:=match P.underlying t with|some (.pointer e)=>e|some (.slice e)=>e|_=>0
def leavesP(P:Program)(p:List Nat)(t:TypeId):List Leaf:=bif p.isEmpty then leaves P 9 t else pinLeaves p 0 (leaves P 9 t)
def argRow(P:Program)(rs:Look)(t:TypeId):Mode→TV→Option (Bool×Row×Look)
 |.lend,.v a cs=>if a=isAggB P t then(match lendCells rs (fixNils (leaves P 9 t) cs)with|some (b,row)=>some (b,row,rs)|none=>none)else none
 |.give,.v a cs=>if a=isAggB P t then moveAll (fixNils (leaves P 9 t) cs) rs else none
 |.ro,.v false [.rptr xs]=>some (true,xs,rs)
 |.ro,.v false [.ptr r ga gh q n i j]=>
  let x:=rs.get r
  if okView x ga gh q&&decide (j+P.cellsOf (elemOf P t)≤n)then some (pathOk x.es q,lendRow ((((rowsAt x.es q).getD i []).drop j).take (P.cellsOf (elemOf P t))),rs)else none
 |.inout _ p,.v false [.ptr r ga gh q n i j]=>
  let x:=rs.get r;let row:=(((rowsAt x.es q).getD i []).drop j).take (P.cellsOf (elemOf P t))
  if okView x ga gh q&&(decide (j+P.cellsOf (elemOf P t)≤n)&&x.free q (i*n+j) (P.cellsOf (elemOf P t)) p)then some (pathOk x.es q&&((leavesP P p (elemOf P t)).any Leaf.isSl||(pinRow p row).all D.noSl),pinRow p row,rs)else none
 |_,_=>none
def argRows(P:Program):List (Mode×TypeId)→List TV→Look→Option (Bool×List Row×Look)
 |[],[],rs=>some (true,[],rs)
 |(m,t)::ms,v::vs,rs=>match argRow P rs t m v with
  |some (b,r,rs)=>match argRows P ms vs rs with
   |some (b',rows,rs)=>some (b&&b',r::rows,rs)
   |none=>none
  |none=>none
 |_,_,_=>none
def Mode.excl:Mode→Bool |.give |.inout _ _=>true|_=>false
def exRoots(l:List (Mode×TV)):List Nat:=l.flatMap λx=>if x.1.excl then x.2.roots else[]
def shRoots(l:List (Mode×TV)):List Nat:=l.flatMap λx=>if x.1.excl then[]else x.2.roots
def nodupB:List Nat→Bool
 |[]=>true
 |x::xs=>!xs.contains x&&nodupB xs
def giveNodup(l:List (Mode×TV)):Bool:=nodupB (l.flatMap λx=>if x.1.excl then x.2.roots.eraseDups else[])
def apartArgs(l:List (Mode×TV)):Bool:=giveNodup l&&!(exRoots l).any (shRoots l).contains
def cleanOut(l:List (Mode×TV))(outs backs:List Row):Bool:=bif (shRoots l).isEmpty then true else deepRows outs&&deepRows backs
def backAll(P:Program):List (Mode×TypeId)→List TV→List Row→Look→Option (Bool×Look)
 |[],[],_,rs=>some (true,rs)
 |(.inout o p,t)::ms,.v false [.ptr r _ _ q n i j]::vs,outs,rs=>
  let x:=rs.get r;let ls:=leavesP P p (elemOf P t);let ds:=unpinRow p (typedRow o (outs.headD []) 0 ls) (((rowsAt x.es q).getD i []).drop j)
  match backAll P ms vs outs.tail (rs.put r { (x.wrote q j ds p)with
    es:=modAt (λrows=>rows.set i (newRow rows i j n ds)) x.es q })with
  |some (b,rs)=>some (decide (ls.length=P.cellsOf (elemOf P t))&&(fits o ls (outs.headD [])&&b),rs)
  |none=>none
 |(.inout _ _,_)::_,_::_,_,_=>none
 |_::ms,_::vs,outs,rs=>backAll P ms vs outs rs
 |_,_,_,_=>none
def inouts:List Mode→Nat
 |[]=>0
 |.inout _ _::ms=>inouts ms+1
 |_::ms=>inouts ms
def mutCells:List Mode→List Bool→List TV→List C
 |.give::ms,true::mu,v::vs=>v.cells++mutCells ms mu vs
 |_::ms,_::mu,_::vs=>mutCells ms mu vs
 |_,_,_=>[]
def okMut(rs:Look):C→Bool
 |.view r ga gh [] _ none=>okView (rs.get r) ga gh []&&!(rs.get r).box
 |.view r ga gh [x] _ none=>okView (rs.get r) ga gh [x]&&pathOk (rs.get r).es [x]
 |.d _=>true
 |.nils _=>true
 |_=>false
def nestLive(rs:Look):C→Bool
 |.view r _ _ (_::_) _ _=>(rs.get r).live
 |_=>true
def reseatCells:List C→List D→Look→Option (Bool×Look)
 |[],[],rs=>some (true,rs)
 |.view r ga _ [] _ _::cs,.sl o m es::ds,rs=>match reseatCells cs ds rs with
  |some (b,rs)=>
   let x:=rs.get r
   some (o&&(decide (m=x.sz)&&b),rs.put r { x with live:=true,es:=es,ga:=ga,gh:=x.gh+1,c0:=x.gh+1 })
  |none=>none
 |.view r ga _ ((i,j)::_) _ _::cs,.sl o m es::ds,rs=>match reseatCells cs ds rs with
  |some (b,rs)=>
   let x:=rs.get r
   some (o&&b,rs.put r { x with es:=x.es.set i ((x.es.getD i []).set j (.sl true m es)),ga:=ga,gh:=x.gh+1,c0:=x.gh+1 })
  |none=>none
 |.d _::cs,_::ds,rs=>reseatCells cs ds rs
 |.nils _::cs,_::ds,rs=>reseatCells cs ds rs
 |_,_,_=>none
def isPtrB(P:Program)(t:TypeId):Bool:=match P.underlying t with|some (.pointer _)=>true|_=>false
def resVals(P:Program)(own:Bool):List TypeId→List Row→Nat→Bool×List (Bool×List C)×List Root
 |[],_,_=>(true,[],[])
 |t::ts,rows,nx=>
  bif isPtrB P t then
   let ls:=leaves P 9 (elemOf P t);let ds:=typedRow own (rows.headD []) 0 ls;let r:=resVals P own ts rows.tail (nx+1)
   (fits own ls (rows.headD [])&&r.1,(false,[.ptr nx 0 0 [] ds.length 0 0])::r.2.1,{ box:=true,sz:=ds.length,es:=[ds] }::r.2.2)
  else
  let ls:=leaves P 9 t;let f:=frameCells own (typedRow own (rows.headD []) 0 ls) nx;let r:=resVals P own ts rows.tail (nx+f.2.length)
  (fits own ls (rows.headD [])&&r.1,(isAggB P t,f.1)::r.2.1,f.2++r.2.2)
def applyEff(st:St)(dst:Option Tmp)(e:Eff):St:=
 {temps:=match dst with|some d=>st.temps.set d e.val|none=>st.temps,
  mem:=e.upd.foldr (λx m=>m.set x.1 x.2) st.mem++e.new }
def St.put(st:St)(dst:Option Tmp)(v:TV):St:=match dst with|some d=>{ st with temps:=st.temps.set d v }|none=>st
structure Touch where
 reads:List Nat
 writes:List Nat
def Touch.more(t:Touch)(nx n:Nat):Touch:=⟨t.reads,t.writes++List.range' nx n⟩
def hit(xs ys:List Nat):Bool:=xs.any λx=>ys.contains x
def edgeMask(acc:List Nat)(es:List Edge):Nat:=es.foldl (λm e=>Nat.lor m (Nat.lor (Nat.shiftLeft 1 e.on) (acc.getD e.on 0))) 0
def aheads(ops:List Oper):List Nat:=
 ops.foldl (λacc o=>acc++[edgeMask acc (o.after.toList.filter (Region.binds .any))]) []
def names(ops:List Oper)(o:Oper):List Tmp:=
 (o.op.operands.toList.filterMap λx=>match x with |.tmp t=>some t|_=>none)++
 (match o.guard with|some (g,_)=>((ops[g]?).bind (·.dst)).toList|none=>[])
def apartOps(ops:List Oper)(x y:Oper):Bool:=
 match x.dst with|some d=>!(names ops y).contains d&&y.dst !=some d|none=>true
def drawOk(ops:List Oper)(log:List Touch):Bool:=
 let ah:=aheads ops
 (List.range ops.length).all λj=>((ops.getD j default).after.toList.all λe=>!Region.binds .any e||decide (e.on<j))&&(List.range j).all λi=>
  Nat.testBit (ah.getD j 0) i||
  (let x:=log.getD i ⟨[],[]⟩;let y:=log.getD j ⟨[],[]⟩
   !hit x.writes (y.reads++y.writes)&&!hit y.writes x.reads&&apartOps ops (ops.getD i default) (ops.getD j default)&&apartOps ops (ops.getD j default) (ops.getD i default))
def operandsOf(o:Op):List Operand:=match o with |.call c=>c.args.toList|o=>o.operands.toList
def seen(o:Op)(vs:List TV):List TV:=match o with |.extract ..=>[]|_=>vs
def appW(P:Program)(c:Call)(vs:List TV):List TV:=match c.argTypes.toList with
 |[t,_]=>(match P.underlying t with
  |some (.slice e)=>if flatB P e then vs.take 1 else vs
  |_=>vs)
 |_=>vs
def touchOf(P:Program)(o:Op)(modes:List Mode)(vs:List TV):Touch:=
 let all:=(seen o vs).flatMap TV.roots
 match o with
 |.store .. |.box .. |.buildSlice ..=>⟨all,all⟩
 |.call c=>match c.callee with
  |.builtin .append=>⟨all,(appW P c vs).flatMap TV.roots⟩
  |.builtin _=>⟨all,[]⟩
  |_=>⟨all,(modes.zip vs).flatMap λx=>if x.1.excl then x.2.roots else[]⟩
 |_=>⟨all,[]⟩
section
variable {R : Type} (X : Ctx) (call : CallF)
def packTV:List (Bool×List C)→TV
 |[(a,cs)]=>.v a cs
 |l=>.tup l
def calleeOf(o:Oper):Option FuncId:=match o.op with |.call { callee:=.value (.func f),.. }=>some f|_=>none
def opRun(o:Oper)(st:St)(log:List Touch)(K:St→List Touch→Option R):Option R:=
 let vs:=(operandsOf o.op).map st.operand;let rs:=st.look vs
 match calleeOf o with
 |some f=>match X.P.funcs[f]? with
  |some fn=>
   let modes:=X.H.modes f fn.params.size;let mts:=modes.zip fn.params.toList
   if !(apartArgs (modes.zip vs))then none else
   match argRows X.P mts vs rs with
   |some (b0,rows,rs)=>bif b0 then(call f rows).bind λr=>bif r.1 then
    let rv:=resVals X.P (!X.H.resRo f) fn.resultTypes.toList r.2.1 st.mem.length
    match backAll X.P mts vs (r.2.2.take (inouts (mts.map (·.1)))) rs with
    |some (b,rs)=>
     match reseatCells (mutCells (mts.map (·.1)) (X.H.muts f) vs) (r.2.2.drop (inouts (mts.map (·.1)))).flatten rs with
     |some (b3,rs3)=>
      bif (rv.1&&(b&&cleanOut (modes.zip vs) r.2.1 r.2.2))&&(b3&&((mutCells (mts.map (·.1)) (X.H.muts f) vs).all (okMut (st.look vs))&&(mutCells (mts.map (·.1)) (X.H.muts f) vs).all (nestLive rs)))then
       K (applyEff st o.dst ⟨true,packTV rv.2.1,rs3,rv.2.2⟩) (log++[(touchOf X.P o.op modes vs).more st.mem.length rv.2.2.length])
      else none
     |none=>none
    |none=>none
    else none
    else none
   |none=>none
  |none=>none
 |none=>
  match opRo X.P X.H.mix o.op vs rs with
  |some (own,e2)=>bif own then
   (match opEff X.P ((X.H.muts X.fn).any id) st.mem.length o vs rs with
   |some e=>bif e.ok then K (applyEff st o.dst e) (log++[(touchOf X.P o.op [] vs).more st.mem.length e.new.length])else none
   |none=>none)
   else bif e2.ok then K (applyEff st o.dst e2) (log++[(touchOf X.P o.op [] vs).more st.mem.length e2.new.length])else none
  |none=>
  match opEff X.P ((X.H.muts X.fn).any id) st.mem.length o vs rs with
  |some e=>bif e.ok then K (applyEff st o.dst e) (log++[(touchOf X.P o.op [] vs).more st.mem.length e.new.length])else none
  |none=>none
def runOps(ops:List Oper):List Oper→St→List Touch→(St→List Touch→Option R)→Option R
 |[],st,log,K=>K st log
 |o::rest,st,log,K=>
  match o.guard with
  |none=>opRun X call o st log λst log=>runOps ops rest st log K
  |some (g,want)=>
   match ((ops[g]?).bind (·.dst)).map st.get with
   |some (.v false [.d (.bool b)])=>
    bif b then
     (bif want then opRun X call o (st.put ((ops[g]?).bind (·.dst)) (.d (.bool true))) log λst log=>runOps ops rest st log K
      else runOps ops rest ((st.put ((ops[g]?).bind (·.dst)) (.d (.bool true))).put o.dst .gone) (log++[⟨[],[]⟩]) K)
    else
     (bif want then runOps ops rest ((st.put ((ops[g]?).bind (·.dst)) (.d (.bool false))).put o.dst .gone) (log++[⟨[],[]⟩]) K
      else opRun X call o (st.put ((ops[g]?).bind (·.dst)) (.d (.bool false))) log λst log=>runOps ops rest st log K)
   |some (.v false [.gone])=>runOps ops rest (st.put o.dst .gone) (log++[⟨[],[]⟩]) K
   |_=>none
end
inductive Ex where|normal|exit (id:Nat)|ret
structure Lv where
 norm:Nat
 exits:List (Nat×Nat)
 back:Nat
def bit(t:Nat):Nat:=Nat.shiftLeft 1 t
def has(m t:Nat):Bool:=Nat.testBit m t
def without(m t:Nat):Bool→Nat|true=>Nat.xor m (bit t)|false=>m
def useOp(ops:Array Oper)(o:Oper)(m:Nat):Nat:=
 let m:=(operandsOf o.op).foldl (λm x=>match x with |.tmp t=>Nat.lor m (bit t)|_=>m) m
 match o.guard with
 |some (g,_)=>(match (ops[g]?).bind (·.dst)with|some t=>Nat.lor m (bit t)|none=>m)
 |none=>m
def liveOps(ops:Array Oper)(l:List Oper)(m:Nat):Nat:=
 l.foldr (λo m=>useOp ops o (match o.dst with|some t=>without m t (has m t)|none=>m)) m
def liveIn:Code→Lv→Nat
 |.seq a b,L=>liveIn a { L with norm:=liveIn b L }
 |.region _ ops _,L=>liveOps ops ops.toList L.norm
 |.cond c x y,L=>Nat.lor (match c with |.tmp t=>bit t|_=>0) (Nat.lor (liveIn x L) (liveIn y L))
 |.block id b,L=>liveIn b { L with exits:=(id,L.norm)::L.exits }
 |.loop b,L=>liveIn b { L with norm:=0 }
 |.exit id,L=>match L.exits.find? (λx=>x.1==id)with|some x=>x.2|none=>0
 |.ret,L=>L.back
 |_,L=>L.norm
def writesOf:Code→Nat
 |.seq a b=>Nat.lor (writesOf a) (writesOf b)
 |.region _ ops _=>ops.toList.foldl (λm o=>match o.dst with|some t=>Nat.lor m (bit t)|none=>m) 0
 |.cond _ x y=>Nat.lor (writesOf x) (writesOf y)
 |.block _ b=>writesOf b
 |.loop b=>writesOf b
 |_=>0
def stayCell(m:Nat)(rs:Look):C→C
 |.view r ga gh q n sub=>if decide (r<m)&&okView (rs.get r) ga gh q then .view r 0 0 q n sub else .undef
 |.ptr r ga gh q n i j=>if decide (r<m)&&okView (rs.get r) ga gh q then .ptr r 0 0 q n i j else .undef
 |c=>c
def seatOf(rs:Look):C→Option (Nat×List (List D)×Look)
 |.nils n=>some (n,[],rs)
 |.view r ga gh [] n sub=>match C.move rs (.view r ga gh [] n sub)with
  |some (_,d,rs)=>some (n,d.rows,rs)
  |none=>none
 |_=>none
def seatCells(m:Nat)(carry:Bool):List C→Look→Nat→List C×Look×List Root
 |[],rs,_=>([],rs,[])
 |c::cs,rs,nx=>
  match (bif carry then seatOf rs c else none:Option (Nat×List (List D)×Look))with
  |some (n,es,rs)=>
   let x:=seatCells m carry cs rs (nx+1)
   (.view nx 0 0 [] n none::x.1,x.2.1,{ box:=false,sz:=n,es:=es }::x.2.2)
  |none=>
   let x:=seatCells m carry cs rs nx
   (stayCell m rs c::x.1,x.2.1,x.2.2)
def seatTemps(m lv wr:Nat):List TV→Nat→Look→Nat→List TV×Look×List Root
 |[],_,rs,_=>([],rs,[])
 |v::vs,t,rs,nx=>
  match (bif has lv t then(match v with |.v a cs=>some (a,cs)|_=>none)else none:Option (Bool×List C))with
  |some (a,cs)=>
   let x:=seatCells m (has wr t) cs rs nx;let y:=seatTemps m lv wr vs (t+1) x.2.1 (nx+x.2.2.length)
   (.v a x.1::y.1,y.2.1,x.2.2++y.2.2)
  |none=>
   let y:=seatTemps m lv wr vs (t+1) rs nx
   (.undef::y.1,y.2.1,y.2.2)
def keepTemps(m:Nat):List TV→Nat→List TV
 |[],_=>[]
 |v::vs,t=>(bif has m t then v else .undef)::keepTemps m vs (t+1)
def St.keep(m:Nat)(st:St):St:={ st with temps:=keepTemps m st.temps 0 }
def fullLook:List Root→Nat→Look
 |[],_=>[]
 |x::xs,r=>(r,x)::fullLook xs (r+1)
def St.head(m lv wr:Nat)(st:St):St:=
 let x:=seatTemps m lv wr st.temps 0 (fullLook st.mem 0) m
 {temps:=x.1,mem:=((x.2.1.map (·.2)).take m).map (λx=>{ x with ga:=0,gh:=0,cv:=[],c0:=0 })++x.2.2 }
noncomputable def both{R:Type}:Option R→Option R→Option R
 |some x,some y=>@ite _ (x=y) (Classical.propDecidable _) (some x) none
 |_,_=>none
theorem Zds{R:Type}(x:R):both (some x) (some x)=some x:=by
 show @ite _ (x=x) (Classical.propDecidable _) (some x) none=some x;exact @if_pos _ (Classical.propDecidable _) rfl _ _ _
theorem Zk0{R:Type}{a b:Option R}{r:R}(h:both a b=some r):a=some r∧b=some r:=by
 match a,b,h with
 |some x,some y,h=>
  have h:@ite _ (x=y) (Classical.propDecidable _) (some x) none=some r:=h;by_cases he:x=y
  ·rw[@if_pos _ (Classical.propDecidable _) he]at h;exact⟨h,by rw[←he];exact h⟩
  ·rw[@if_neg _ (Classical.propDecidable _) he]at h;cases h
def kThen{R:Type}(f:St→Option R)(K:Ex→St→Option R):Ex→St→Option R:=λe st=>match e with
 |.normal=>f st
 |e=>K e st
def kBlock{R:Type}(id:Nat)(K:Ex→St→Option R):Ex→St→Option R:=λe st=>match e with
 |.exit id'=>if id'=id then K .normal st else K (.exit id') st
 |e=>K e st
section
variable {R : Type} (X : Ctx) (call : CallF)
def loopRun(body:St→(Ex→St→Option R)→Option R)(m lv wr:Nat):Nat→St→(Ex→St→Option R)→Option R
 |0,_,_=>none
 |n+1,st,K=>body st (kThen (λst=>loopRun body m lv wr n (st.head m lv wr) K) K)
noncomputable def runCode(n:Nat):Code→Lv→St→(Ex→St→Option R)→Option R
 |.skip,_,st,K=>K .normal st
 |.seq a b,L,st,K=>runCode n a { L with norm:=liveIn b L } st (kThen (λst=>runCode n b L st K) K)
 |.region _ ops draw,_,st,K=>runOps X call ops.toList ops.toList st [] λst log=>bif !draw||drawOk ops.toList log then K .normal st else none
 |.cond c x y,L,st,K=>match c with
  |.tmp t=>(match st.get t with
   |.v false [.d (.bool b)]=>bif b then runCode n x L (st.put (some t) (.d (.bool true))) K else runCode n y L (st.put (some t) (.d (.bool false))) K
   |.v false [.nz p]=>bif p then both (runCode n x L (st.put (some t) (.d (.bool true))) K) (runCode n y L (st.put (some t) (.d (.bool false))) K)else runCode n y L (st.put (some t) (.d (.bool false))) K
   |_=>none)
  |.const (.bool b)=>bif b then runCode n x L st K else runCode n y L st K
  |_=>none
 |.block id b,L,st,K=>runCode n b { L with exits:=(id,L.norm)::L.exits } st (kBlock id K)
 |.loop b,L,st,K=>loopRun (runCode n b { L with norm:=liveIn b { L with norm:=0 } }) st.mem.length (liveIn b { L with norm:=0 }) (writesOf b) n (st.head st.mem.length (liveIn b { L with norm:=0 }) (writesOf b)) K
 |.exit id,L,st,K=>K (.exit id) (st.keep (liveIn (.exit id) L))
 |.ret,L,st,K=>K .ret (st.keep L.back)
 |_,_,_,_=>none
end
def enter(P:Program):List (Mode×TypeId)→List Row→Nat→Option (Bool×List TV×List Root×List Nat)
 |[],[],_=>some (true,[],[],[])
 |(m,t)::ms,row::rows,nx=>
  match m with
  |.ro=>match enter P ms rows nx with
   |some (b,vs,rs,bk)=>some (b,.v false [.rptr row]::vs,rs,bk)
   |none=>none
  |.inout o p=>
   let le:=leavesP P p (elemOf P t);let ds:=typedRow o row 0 le
   match enter P ms rows (nx+1)with
   |some (b,vs,rs,bk)=>some (fits o le row&&b,.v false [.ptr nx 0 0 [] ds.length 0 0]::vs,{ box:=true,sz:=ds.length,es:=[ds],pin:=p }::rs,nx::bk)
   |none=>none
  |m=>
   let own:=match m with |.lend=>false|_=>true
   let ls:=leaves P 9 t;let f:=frameCells own (typedRow own row 0 ls) nx
   match enter P ms rows (nx+f.2.length)with
   |some (b,vs,rs,bk)=>some (fits own ls row&&b,.v (isAggB P t) f.1::vs,f.2++rs,bk)
   |none=>none
 |_,_,_=>none
def resRow(P:Program)(t:TypeId)(st:St):ResultVar→Option (Bool×Row×St)
 |.tmp x=>match st.get x with
  |.v false [.ptr r ga gh [] n 0 0]=>
   let x:=st.mem.getD r deadRoot
   if okView x ga gh []&&(x.box&&isPtrB P t)then some (true,x.es.getD 0 [],{ st with mem:=st.mem.set r { x with live:=false } })else none
  |.v a cs=>if isPtrB P t then none else if a=isAggB P t then(match moveAll (fixNils (leaves P 9 t) cs) (st.look [st.get x])with
   |some (b,row,rs)=>some (b,row,applyEff st none ⟨true,.undef,rs,[]⟩)
   |none=>none)else none
  |_=>none
 |.cell a ty=>match st.get a with
  |.v false [.ptr r ga gh [] n 0 0]=>
   let x:=st.mem.getD r deadRoot
   if okView x ga gh []&&(x.box&&(decide (n=P.cellsOf ty)&&(decide (ty=t)&&(!isPtrB P ty&&((P.underlying ty).isSome&&(isAggB P ty||decide (P.cellsOf ty=1)))))))then some (true,x.es.getD 0 [],{ st with mem:=st.mem.set r { x with live:=false } })else none
  |_=>none
def resRows(P:Program):List (TypeId×ResultVar)→St→Option (Bool×List Row×St)
 |[],st=>some (true,[],st)
 |(t,v)::vs,st=>match resRow P t st v with
  |some (b,r,st)=>match resRows P vs st with
   |some (b',rs,st)=>some (b&&b',r::rs,st)
   |none=>none
  |none=>none
def resBits:List ResultVar→Nat
 |[]=>0
 |.tmp t::vs=>Nat.lor (bit t) (resBits vs)
 |.cell a _::vs=>Nat.lor (bit a) (resBits vs)
def backRows(st:St):List Nat→Option (List Row)
 |[]=>some []
 |r::bk=>if(st.mem.getD r deadRoot).live then(backRows st bk).map ((st.mem.getD r deadRoot).es.getD 0 []::·)else none
def mutRow(st:St):List C→Option Row
 |[]=>some []
 |.d x::cs=>(mutRow st cs).map (x::·)
 |.view r _ _ [] _ none::cs=>if(st.mem.getD r deadRoot).live then(mutRow st cs).map (.sl true (st.mem.getD r deadRoot).sz (st.mem.getD r deadRoot).es::·)else none
 |_=>none
def mutBack(row:Row):List C→List Row
 |[]=>[]
 |_=>[row]
def okEntry(rs:List Root):C→Bool
 |.view r ga gh [] _ none=>okView (rs.getD r deadRoot) ga gh []
 |.d _=>true
 |_=>false
def leaveFn(P:Program)(l:List (TypeId×ResultVar))(bk:List Nat)(mc:List C)(st:St):Option (List Row×List Row):=
 match resRows P l st with
 |some (b,out,st)=>match backRows st bk,mutRow st mc with
  |some back,some row=>bif b&&nodupB (bk++mc.flatMap C.roots)then some (out,back++mutBack row mc)else none
  |_,_=>none
 |none=>none
def kLeave(P:Program)(l:List (TypeId×ResultVar))(bk:List Nat)(mc:List C):Ex→St→Option (List Row×List Row):=λe st=>match e with
 |.normal=>leaveFn P l bk mc st
 |.ret=>leaveFn P l bk mc st
 |.exit _=>none
noncomputable def evFn(X:Ctx)(call:CallF)(n:Nat)(fn:Func)(args:List Row):Option (List Row×List Row):=
 let mts:=(X.H.modes X.fn fn.params.size).zip fn.params.toList
 match fn.body,enter X.P mts args 0 with
 |some c,some (b,vs,rs,bk)=>
  bif b&&(decide (fn.results.size=fn.resultTypes.size)&&(mutCells (mts.map (·.1)) (X.H.muts X.fn) vs).all (okEntry rs))then
   runCode X call n c ⟨resBits fn.results.toList,[],resBits fn.results.toList⟩ { temps:=vs++List.replicate (fn.ntmps-vs.length) .undef,mem:=rs } (kLeave X.P (fn.resultTypes.toList.zip fn.results.toList) bk (mutCells (mts.map (·.1)) (X.H.muts X.fn) vs))
  else none
 |_,_=>none
end Go.Ev
