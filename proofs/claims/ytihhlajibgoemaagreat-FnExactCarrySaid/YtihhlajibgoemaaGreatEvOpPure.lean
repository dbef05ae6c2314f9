/- Every operation that writes nothing does what the evaluator says. -/
import Derived.Test.YtihhlajibgoemaaGreatEvOpSound
namespace Go.Ev
set_option linter.unusedVariables false
set_option linter.unusedSimpArgs false
section
variable {P : Program} {w : World} {S : FP} {M : Mem} {L : Lay}
theorem Zmv{es:List (List D)}{A:Option Addr}{cap sz:Nat}{sub:Option (Nat×Nat)}{v:Value}(h:subHead A es.length cap sz sub v):∃A' c,v=.slice A' (subRows es sub).length c:=by
 cases sub with
 |none=>exact⟨_,_,h⟩
 |some on=>
  obtain⟨o,n⟩:=on;obtain⟨hle,h⟩:=h;have hl:((es.drop o).take n).length=n:=by rw[List.length_take,List.length_drop];omega
  rcases h with⟨rfl,rfl,rfl⟩|⟨B,off,off',cap',rfl,rfl,h⟩
  ·exact⟨none,0,by simp only[subRows,hl]⟩
  ·exact⟨_,_,by simp only[subRows,hl];rfl⟩
theorem Zes{r ga gh:Nat}{q:Path}{sz:Nat}{sub:Option (Nat×Nat)}{v:Value}(hm:MemRep w S M L)(h:cRep w S M L (.view r ga gh q sz sub) v)(ho:okView (M r) ga gh q=true)(hp:pathOk (M r).es q=true):
  ∃es A cap G,HeadAt w (rootD (M r)) (L.hd r) q (.sl true sz es) (.slice A es.length cap)∧repD w S (.sl true sz es) (.slice A es.length cap) G∧(∀b,G b→L.fp r b)∧subHead A es.length cap sz sub v∧rowsAt (M r).es q=es:=by
 obtain⟨_,_,h⟩:=h;obtain⟨es,A,len,cap,hh,hs⟩:=h ho hp;obtain⟨G,R,hG,hF,_,_⟩:=Zc7 hh (hm.rep r (Zar ho));have hG':=hG;obtain⟨A',cap',he,_⟩:=hG';injection he with e1 e2 e3;subst e1 e2 e3;exact⟨es,A,cap,G,hh,hG,λb hb=>(hF b).2 (.inl hb),hs,(Zdj hh).symm⟩
theorem Zgl{r ga gh:Nat}{q:Path}{sz i j:Nat}{v:Value}(hm:MemRep w S M L)(h:cRep w S M L (.ptr r ga gh q sz i j) v)(ho:okView (M r) ga gh q=true)(hp:pathOk (M r).es q=true):
  ∃es B off cap F',HeadAt w (rootD (M r)) (L.hd r) q (.sl true sz es) (.slice (some ⟨B,off,none⟩) es.length cap)∧repRows w S es B off sz F'∧i<es.length∧(∀b,F' b→L.fp r b)∧L.fp r B∧v=.pointer (some ⟨B,off+i*sz+j,none⟩)∧rowsAt (M r).es q=es:=by
 obtain⟨_,_,h⟩:=h;obtain⟨es,B,off,len,cap,hh,hi,hv⟩:=h ho hp;obtain⟨G,R,hG,hF,_,_⟩:=Zc7 hh (hm.rep r (Zar ho));obtain⟨A',cap',he,hcap,hG⟩:=hG;injection he with e1 e2 e3;subst e1 e2 e3;rcases hG with⟨h1,_⟩|⟨B',off',F',hA,hr,hown⟩
 ·simp at h1
 injection hA with hA;injection hA with hB hO;subst hB hO;rcases hown with⟨_,hnB,hFG,_⟩|⟨ho,_⟩
 ·exact⟨es,B,off,cap,F',hh,hr,hi,λb hb=>(hF b).2 (.inl ((hFG b).2 (.inr hb))),(hF B).2 (.inl ((hFG B).2 (.inl rfl))),hv,(Zdj hh).symm⟩
 ·cases ho
theorem Zej{x:TV}{v:Value}{i:Int}(h:tvRep w S M L x v)(hx:ixOf x=some i):∃k,v=.int k i:=by
 unfold ixOf at hx;split at hx
 ·rename_i k n;simp only[Option.some.injEq]at hx;subst hx;exact⟨k,Zdy h⟩
 ·cases hx
theorem Zbj:∀{ls:List Leaf} {cs:List C} {vs:List Value},cellsRep w S M L cs vs→cellsRep w S M L (fixNils ls cs) vs
 |[],cs,vs,h=>by cases cs<;>exact h
 |l::ls,[],vs,h=>by cases l<;>exact h
 |l::ls,c::cs,v::vs,h=>by
  obtain⟨h1,h2⟩:=h;have h2':=Zbj (ls:=ls) h2;cases l<;>cases c<;>first|exact⟨h1,h2'⟩
 |_::_,_::_,[],h=>h.elim
theorem Zdm:∀{ls:List Leaf} {cs:List C},(fixNils ls cs).length=cs.length
 |[],cs=>by cases cs<;>rfl
 |l::ls,[]=>by cases l<;>rfl
 |l::ls,c::cs=>by
  have:=Zdm (ls:=ls) (cs:=cs);cases l<;>cases c<;>simp[fixNils,this]
theorem Zh5:∀(xs:List Value) (off k:Nat) (cs:Array Value),off+k+xs.length≤cs.size→
  ((xs.zipIdx k).foldl (λ(cs:Array Value) (x:Value×Nat)=>cs.setIfInBounds (off+x.2) x.1) cs).toList=cs.toList.take (off+k)++xs++cs.toList.drop (off+k+xs.length)
 |[],off,k,cs,h=>by simp
 |x::xs,off,k,cs,h=>by
  rw[List.zipIdx_cons,List.foldl_cons];rw[Zh5 xs off (k+1) _ (by simp at h ⊢;omega)]
  simp only[Array.toList_setIfInBounds];have h2:off+k<cs.toList.length:=by simp at h ⊢;omega
  rw[show off+(k+1)=off+k+1 by omega]
  rw[List.take_add_one,List.getElem?_set_self h2,List.take_set_of_le (Nat.le_refl _),List.drop_set_of_lt (by omega)]
  simp[show off+k+1+xs.length=off+k+(xs.length+1) by omega]
theorem Zd0{fs:Array Field}{places:List (Nat×Nat)}(hpl:∀(f:Nat) (fd:Field),fs[f]?=some fd→places[f]?=some (fd.offset,P.cellsOf fd.type)):
  ∀(ps:List (Nat×TV)) (qs:List (Nat×Value)) {cs out:List C} {vs:Array Value},ps.length=qs.length→(∀(k:Nat) (p:Nat×TV) (q:Nat×Value),ps[k]?=some p→qs[k]?=some q→p.1=q.1∧tvRep w S M L p.2 q.2)→cellsRep w S M L cs vs.toList→buildGo P fs ps cs=some out→
   ∃us,Instr.fill (λx=>places[x]?) vs qs=some us∧cellsRep w S M L out us.toList
 |[],[],cs,out,vs,_,_,hc,h=>by
  simp only[buildGo,Option.some.injEq]at h;subst h;exact⟨vs,rfl,hc⟩
 |(f,x)::ps,(g,v)::qs,cs,out,vs,hl,hk,hc,h=>by
  obtain⟨hfg,hx⟩:=hk 0 _ _ rfl rfl;simp only at hfg;subst hfg;simp only[buildGo]at h;split at h
  ·rename_i fd ys h1 h2;split at h
   ·rename_i hsz;have hp:=Zt2 hx h2;have hlen:=Zbn hp;have hcl:=Zbn hc;have hsize:v.cells.size=P.cellsOf fd.type:=by rw[←hsz.1];simpa using hlen.symm
    have hle:fd.offset+v.cells.size≤vs.size:=by
     have h3:v.cells.size=ys.length:=by simpa using hlen.symm
     have h4:cs.length=vs.size:=by simpa using hcl
     omega
    simp only[Instr.fill,hpl _ _ h1,hsize];rw[←hsize];simp only[ne_eq,not_true,decide_false,Bool.false_or,decide_eq_true_eq];rw[if_neg (by omega)]
    refine Zd0 hpl ps qs (by simpa using hl) (λk p q hp hq=>hk (k+1) p q hp hq) ?_ h
    have e1:(Array.foldl (λ(cs:Array Value) (x:Value×Nat)=>cs.setIfInBounds (fd.offset+x.2) x.1) vs v.cells.zipIdx).toList=vs.toList.take fd.offset++v.cells.toList++vs.toList.drop (fd.offset+v.cells.toList.length):=by
     rw[←Array.foldl_toList,Array.toList_zipIdx];have:=Zh5 v.cells.toList fd.offset 0 vs (by simpa using hle)
     simpa using this
    have e2:(Array.foldl (λ(cs:Array Value) (x:Value×Nat)=>match x with|(c,j)=>cs.setIfInBounds (fd.offset+j) c) vs v.cells.zipIdx).toList=vs.toList.take fd.offset++v.cells.toList++vs.toList.drop (fd.offset+v.cells.toList.length):=e1
    unfold putCells;rw[e2,Zdm,hlen];exact Zc6 (Zc6 (Zcz _ hc) (Zbj hp)) (Zcy _ hc)
   ·cases h
  ·cases h
 |[],_::_,_,_,_,hl,_,_,_=>by simp at hl
 |_::_,[],_,_,_,hl,_,_,_=>by simp at hl
theorem Zbt:∀{ls:List Leaf} {vs:List Value} {z:List D},zeroCells ls vs=some z→cellsRep w S M L (z.map zeroC) vs∧∃F,datRep w S z vs F∧∀b,¬F b
 |[],[],z,h=>by
  simp only[zeroCells,Option.some.injEq]at h;subst h;exact⟨trivial,λ_=>False,λ_ h=>h,λ_ h=>h⟩
 |l::ls,v::vs,z,h=>by
  have plain:(match zeroOf v with|some d=>(zeroCells ls vs).map (d::·)|none=>none)=some z→cellsRep w S M L (z.map zeroC) (v::vs)∧∃F,datRep w S z (v::vs) F∧∀b,¬F b:=by
   intro h;split at h
   ·rename_i d hd;obtain⟨z',hz,rfl⟩:=Option.map_eq_some_iff.1 h;obtain⟨h1,F,h2,h3⟩:=Zbt hz;have hd':cRep w S M L (zeroC d) v∧repD w S d v (λ_=>False):=by
     cases v<;>simp[zeroOf]at hd<;>subst hd<;>exact⟨⟨rfl,rfl,λ_ h=>h⟩,rfl,λ_ h=>h⟩
    exact⟨⟨hd'.1,h1⟩,F,⟨λ_=>False,F,hd'.2,h2,λb=>by simp,λb hb=>hb.elim⟩,h3⟩
   ·cases h
  unfold zeroCells at h;split at h
  ·rename_i heq;cases heq
  ·rename_i n f ls' vs' h1 h2;cases h1;cases h2;obtain⟨z',hz,rfl⟩:=Option.map_eq_some_iff.1 h;obtain⟨h1,F,h2,h3⟩:=Zbt hz;refine⟨⟨rfl,h1⟩,F,⟨λ_=>False,F,⟨none,0,rfl,Nat.le_refl _,.inl ⟨.inl rfl,rfl,rfl,λ_ h=>h⟩⟩,h2,λb=>by simp,λb hb=>hb.elim⟩,h3⟩
  ·rename_i h1 h2;cases h1;cases h2;exact plain h
  ·cases h
 |[],v::vs,z,h=>by simp[zeroCells]at h
 |l::ls,[],z,h=>by simp[zeroCells]at h
theorem Zcu{t:TypeId}{z:List D}(h:zeroRow P t=some z):∃i v,P.info? t=some i∧i.zero=some v∧zeroCells (leaves P 9 t) v.cells.toList=some z:=by
 unfold zeroRow at h;split at h
 ·rename_i v hv;obtain⟨i,hi,hz⟩:=Option.bind_eq_some_iff.1 hv;exact⟨i,v,hi,hz,h⟩
 ·cases h
theorem Zlx:∀{fs:List Field} {places:List (Nat×Nat)},fs.mapM (λf=>(P.info? f.type).map λi=>(f.offset,i.size))=some places→∀(k:Nat) (fd:Field),fs[k]?=some fd→places[k]?=some (fd.offset,P.cellsOf fd.type)
 |[],places,h,k,fd,hk=>by simp at hk
 |f::fs,places,h,k,fd,hk=>by
  simp only[List.mapM_cons,Option.bind_eq_bind,Option.pure_def]at h;cases hi:P.info? f.type with
  |none=>simp[hi]at h
  |some i=>
   cases hr:fs.mapM (λf=>(P.info? f.type).map λi=>(f.offset,i.size))with
   |none=>simp[hi,hr]at h
   |some rest=>
    simp[hi,hr]at h;subst h;cases k with
    |zero=>simp at hk;subst hk;simp[Program.cellsOf,hi]
    |succ k=>simpa using Zlx hr k fd (by simpa using hk)
theorem Zg9:∀{vs:List TV} {us:List Value} {k:Nat} {x:TV} {u:Value},opsRep w S M L vs us→vs[k]?=some x→us[k]?=some u→tvRep w S M L x u
 |v::vs,u::us,0,x,y,h,hx,hy=>by simp at hx hy;subst hx hy;exact h.1
 |v::vs,u::us,k+1,x,y,h,hx,hy=>Zg9 h.2 (by simpa using hx) (by simpa using hy)
 |[],[],k,x,y,h,hx,hy=>by simp at hx
 |[],_::_,_,_,_,h,_,_=>h.elim
 |_::_,[],_,_,_,h,_,_=>h.elim
theorem Zj2:∀{vs:List (Bool×List C)} {us:List Value} {k:Nat} {x:Bool×List C},tupRep w S M L vs us→vs[k]?=some x→∃u,us[k]?=some u∧tvRep1 w S M L x.1 x.2 u
 |v::vs,u::us,0,x,h,hx=>by simp at hx;subst hx;exact⟨u,rfl,h.1⟩
 |v::vs,u::us,k+1,x,h,hx=>by simpa using Zj2 h.2 (by simpa using hx)
 |[],[],k,x,h,hx=>by simp at hx
 |[],_::_,_,_,h,_=>h.elim
 |_::_,[],_,_,h,_=>h.elim
theorem Zva{c:Bool}{x y:TV}{u v:Value}(hx:tvRep w S M L x u)(hy:tvRep w S M L y v):tvRep w S M L (pickTV c x y) (if c then u else v):=by
 unfold pickTV;split
 ·rw[Zdh hx,Zdh hy];cases c<;>exact Zea _
 ·cases c
  ·exact hy
  ·exact hx
theorem Zft{s:TypeId}{f:Nat}{fd:Field}{B o:Nat}(hf:fieldOf P s f=some fd)(hc:¬P.cellsOf fd.type=0):(Instr.fieldAt s (.pointer (some ⟨B,o,none⟩)) f).run P w=.ok (.pointer (some ⟨B,o+fd.offset,none⟩)) w:=by
 unfold fieldOf at hf;split at hf
 ·rename_i fs hu;have hi:∃i,P.info? fd.type=some i:=by
   cases hi:P.info? fd.type with
   |some i=>exact⟨i,rfl⟩
   |none=>exact absurd (by simp[Program.cellsOf,hi]) hc
  obtain⟨i,hi⟩:=hi;have hs:¬i.size=0:=by simpa[Program.cellsOf,hi]using hc
  simp only[Instr.fieldAt,Sem.run_bind,run_underlying hu,Result.andThen_ok,hf];simp[Instr.sureAddr,fieldPlace,sizeOf,typeInfo,hi,hs,Zbv]
 ·cases hf
theorem Zyd{ps:Array (Nat×Operand)}:((ps.toList.map (·.2)).toArray).toList=ps.toList.map (·.2):=by simp
end
end Go.Ev
