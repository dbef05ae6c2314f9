/- The operations that write nothing: all of them. -/
import Derived.Test.YtihhlajibgoemaaGreatEvOpPure
namespace Go.Ev
set_option linter.unusedVariables false
set_option linter.unusedSimpArgs false
section
variable {P : Program} {w : World} {S : FP} {M : Mem} {L : Lay}
theorem Zme{t:TypeId}{fs:Array Field}{z:List D}{parts:Array (Nat×Operand)}{ρ:Operand→Value}{vs:List TV}{cs:List C}
  (hu:P.underlying t=some (.struct fs)) (hz:zeroRow P t=some z) (hb:buildGo P fs ((parts.toList.map (·.1)).zip vs) (z.map zeroC)=some cs) (hl:vs.length=parts.size) (hf:(fs.all λf=>(P.info? f.type).isSome)=true)
  (hv:opsRep w S M L vs ((parts.toList.map (·.2)).map ρ)):∃v,(Instr.build t (parts.map λ(i,x)=>(i,ρ x))).run P w=.ok v w∧tvRep w S M L (.v true cs) v:=by
 obtain⟨i,zv,hi,hzv,hzc⟩:=Zcu hz;have hpl:∃places,fs.toList.mapM (λf=>(P.info? f.type).map λi=>(f.offset,i.size))=some places:=by
  have:∀l:List Field,(l.all λf=>(P.info? f.type).isSome)=true→∃places,l.mapM (λf=>(P.info? f.type).map λi=>(f.offset,i.size))=some places:=by
   intro l;induction l with
   |nil=>intro _;exact⟨[],rfl⟩
   |cons f l ih=>
    intro h;rw[List.all_cons,Bool.and_eq_true]at h;obtain⟨j,hj⟩:=Option.isSome_iff_exists.1 h.1;obtain⟨rest,hr⟩:=ih h.2;exact⟨(f.offset,j.size)::rest,by simp[hj,hr]⟩
  exact this fs.toList (by rw[Array.all_toList];exact hf)
 obtain⟨places,hpl⟩:=hpl;have hfill:∃us,Instr.fill (λx=>places[x]?) zv.cells (parts.toList.map λx=>(x.1,ρ x.2))=some us∧cellsRep w S M L cs us.toList:=by
  refine Zd0 (fs:=fs) (places:=places) (λf fd h=>Zlx hpl f fd (by simpa using h)) _ _ ?_ ?_ (Zbt hzc).1 hb
  ·simp[hl]
  ·intro k p q hp hq;rw[List.getElem?_zip_eq_some]at hp;rw[List.getElem?_map]at hq;obtain⟨hp1,hp2⟩:=hp;rw[List.getElem?_map]at hp1;cases hx:parts.toList[k]? with
   |none=>rw[hx]at hq;cases hq
   |some x=>
    rw[hx]at hp1 hq;simp only[Option.map_some,Option.some.injEq]at hp1 hq;subst hq;refine⟨hp1.symm,?_⟩;refine Zg9 hv hp2 (u:=ρ x.2) ?_;rw[List.getElem?_map,List.getElem?_map,hx];rfl
 obtain⟨us,h1,h2⟩:=hfill;have hbuilt:P.built t (parts.map λx=>(x.1,ρ x.2)).toList=some us:=by
  unfold Program.built;simp only[hi,hu,hzv,hpl];rw[Array.toList_map];simpa using h1
 exact⟨.agg us,run_build w t _ us hbuilt,us,rfl,h2⟩
theorem Zlc{f g:Nat→Option (Nat×Nat)}(h:∀i p,f i=some p→g i=some p):∀(qs:List (Nat×Value)) (cells us:Array Value),Instr.fill f cells qs=some us→Instr.fill g cells qs=some us
 |[],cells,us,hf=>hf
 |(i,v)::rest,cells,us,hf=>by
  unfold Instr.fill at hf⊢;cases hfi:f i with
  |none=>rw[hfi]at hf;cases hf
  |some p=>
   rw[hfi]at hf;rw[h i p hfi];obtain⟨off,size⟩:=p;simp only at hf⊢;split at hf
   ·cases hf
   ·rename_i hc;rw[if_neg hc];exact Zlc h rest _ _ hf
theorem Zs0{len:Nat}{e:TypeId}{f:Nat}{fd:Field}(h:(arrFs P len e)[f]?=some fd):f<len∧fd.type=e∧fd.offset=f*P.cellsOf e:=by
 unfold arrFs at h;rw[List.getElem?_toArray,List.getElem?_map]at h;cases hr:(List.range len)[f]? with
 |none=>rw[hr]at h;cases h
 |some i=>
  rw[hr]at h;simp only[Option.map_some,Option.some.injEq]at h;obtain⟨h1,h2⟩:=List.getElem?_eq_some_iff.1 hr;rw[List.getElem_range]at h2;subst h h2;exact⟨by simpa using h1,rfl,rfl⟩
theorem Zma{t:TypeId}{k:IntKind}{len:Nat}{z:List D}(h:zeroArr P t k len=some z):∃i v,P.info? t=some i∧i.zero=some v∧zeroCells (List.replicate len (.int k)) v.cells.toList=some z:=by
 unfold zeroArr at h;split at h
 ·rename_i v hv;cases hi:P.info? t with
  |none=>rw[hi]at hv;cases hv
  |some i=>rw[hi]at hv;exact⟨i,v,rfl,hv,h⟩
 ·cases h
theorem Zs2{t e:TypeId}{k0:IntKind}{len:Nat}{z:List D}{parts:Array (Nat×Operand)}{ρ:Operand→Value}{vs:List TV}{cs:List C}
  (hu:P.underlying t=some (.array len e)) (hz:zeroArr P t k0 len=some z) (hb:buildGo P (arrFs P len e) ((parts.toList.map (·.1)).zip vs) (z.map zeroC)=some cs) (hl:vs.length=parts.size) (he:(P.info? e).isSome=true)
  (hv:opsRep w S M L vs ((parts.toList.map (·.2)).map ρ)):∃v,(Instr.build t (parts.map λ(i,x)=>(i,ρ x))).run P w=.ok v w∧tvRep w S M L (.v true cs) v:=by
 obtain⟨i,zv,hi,hzv,hzc⟩:=Zma hz;obtain⟨ie,hie⟩:=Option.isSome_iff_exists.1 he;have hsz:P.cellsOf e=ie.size:=by simp[Program.cellsOf,hie]
 have hfill:∃us,Instr.fill (λx=>((List.range len).map λi=>(i*P.cellsOf e,P.cellsOf e))[x]?) zv.cells (parts.toList.map λx=>(x.1,ρ x.2))=some us∧cellsRep w S M L cs us.toList:=by
  refine Zd0 (fs:=arrFs P len e) (places:=(List.range len).map λi=>(i*P.cellsOf e,P.cellsOf e)) (λf fd h=>?_) _ _ ?_ ?_ (Zbt hzc).1 hb
  ·obtain⟨h1,h2,h3⟩:=Zs0 h;rw[List.getElem?_map,List.getElem?_eq_getElem (by simpa using h1),List.getElem_range,h2,h3]
   rfl
  ·simp[hl]
  ·intro k p q hp hq;rw[List.getElem?_zip_eq_some]at hp;rw[List.getElem?_map]at hq;obtain⟨hp1,hp2⟩:=hp;rw[List.getElem?_map]at hp1;cases hx:parts.toList[k]? with
   |none=>rw[hx]at hq;cases hq
   |some x=>
    rw[hx]at hp1 hq;simp only[Option.map_some,Option.some.injEq]at hp1 hq;subst hq;refine⟨hp1.symm,?_⟩;refine Zg9 hv hp2 (u:=ρ x.2) ?_;rw[List.getElem?_map,List.getElem?_map,hx];rfl
 obtain⟨us,h1,h2⟩:=hfill;have h3:=Zlc (g:=λi=>some (i*ie.size,ie.size)) (λj p hj=>by
  rw[List.getElem?_map]at hj;cases hr:(List.range len)[j]? with
  |none=>rw[hr]at hj;cases hj
  |some i=>
   rw[hr]at hj;obtain⟨_,h5⟩:=List.getElem?_eq_some_iff.1 hr;rw[List.getElem_range]at h5;subst h5;rw[←hsz];exact hj) _ _ _ h1
 have hbuilt:P.built t (parts.map λx=>(x.1,ρ x.2)).toList=some us:=by
  unfold Program.built;simp only[hi,hu,hzv,hie];rw[Array.toList_map];exact h3
 exact⟨.agg us,run_build w t _ us hbuilt,us,rfl,h2⟩
theorem Znc{k:IntKind}:∀{cs:List C} {ns:List Int},intsOf k cs=some ns→∀j,j<ns.length→cs[j]?=some (.d (.int k (ns.getD j 0)))
 |[],ns,h,j,hj=>by
  simp only[intsOf,Option.some.injEq]at h;subst h;cases hj
 |c::cs,ns,h,j,hj=>by
  unfold intsOf at h;split at h
  ·rename_i h0;cases h0
  ·rename_i k' n cs' h0;injection h0 with h1 h2;subst h1 h2;split at h
   ·rename_i hk;subst hk;cases hr:intsOf k' cs with
    |none=>rw[hr]at h;cases h
    |some ns'=>
     rw[hr]at h;simp only[Option.map_some,Option.some.injEq]at h;subst h;cases j with
     |zero=>rfl
     |succ j=>simpa using Znc hr j (by simpa using hj)
   ·cases h
  ·cases h
theorem Ztj{t e:TypeId}{len:Nat}{k k':IntKind}{i:Int}{cs:List C}{ns:List Int}{vs:Array Value}(hu:P.underlying t=some (.array len e))(he:P.underlying e=some (.int k))(hn:intsOf k cs=some ns)(hl:ns.length=len)(h1:P.cellsOf e=1)(hi:(P.info? e).isSome=true)
  (hc:cellsRep w S M L cs vs.toList) (h0:0≤i) (hlt:i<(len:Int)):∃v,(Instr.index t (.agg vs) (.int k' i)).run P w=.ok v w∧tvRep w S M L (.v false [.d (.int k (ns.getD i.toNat 0))]) v:=by
 have hag:isAggB P e=false:=by simp[isAggB,he]
 obtain⟨v,r1,r2⟩:=Zhu (off:=i.toNat) (ds:=[.d (.int k (ns.getD i.toNat 0))]) he hc (by unfold partC;rw[if_neg (by rw[hag];decide),Znc hn i.toNat (by omega)])
 rw[hag]at r2;obtain⟨ie,hie⟩:=Option.isSome_iff_exists.1 hi;have hs1:(sizeOf e).run P w=.ok 1 w:=by rw[←h1];simp[sizeOf,typeInfo,hie,Program.cellsOf]
 refine⟨v,?_,r2⟩;simp only[Instr.index,asIntOf,Sem.run_bind,Sem.run_pure,Result.andThen_ok,run_underlying hu];rw[if_pos ⟨h0,hlt⟩];simp only[Sem.run_bind,hs1,Result.andThen_ok,Nat.mul_one,r1]
theorem Zmj{t:TypeId}{s:ByteArray}{i:Int}{k:IntKind}(hu:P.underlying t=some .string)(h0:0≤i)(h1:i<(s.size:Int)):
  (Instr.index t (.string s) (.int k i)).run P w=.ok (.int .u8 ((s.data.toList.getD i.toNat 0).toNat:Int)) w:=by
 have hlt:i.toNat<s.size:=by omega
 have hg:s[i.toNat]?=some (s.data.toList.getD i.toNat 0):=by
  rw[getElem?_pos s i.toNat hlt];have:i.toNat<s.data.toList.length:=by simpa using hlt
  rw[List.getD_eq_getElem?_getD,List.getElem?_eq_getElem this];rfl
 simp only[Instr.index,asIntOf,Sem.run_bind,Sem.run_pure,Result.andThen_ok,run_underlying hu];rw[if_pos h0,hg];rfl
theorem Zib{t:TypeId}(h:(P.info? t).isSome=true)(w:World):(sizeOf t).run P w=.ok (P.cellsOf t) w:=by
 obtain⟨i,hi⟩:=Option.isSome_iff_exists.1 h;simp[sizeOf,typeInfo,hi,Program.cellsOf]
theorem Zia{t e:TypeId}{A:Addr}{len cap:Nat}{i:Int}{k:IntKind}(hu:P.underlying t=some (.slice e))(he:(P.info? e).isSome=true)(h0:0≤i)(h1:i<(len:Int)):
  (Instr.indexAt t (.slice (some A) len cap) (.int k i)).run P w=.ok (.pointer (some (A.add (i.toNat*P.cellsOf e)))) w:=by
 simp[Instr.indexAt,asIntOf,run_underlying hu,h0,h1,Zib he]
theorem Ztd{t:TypeId}{x:TV}{v:Value}(h:tvRep w S M L x v):tvRep w S M L (fixTV P t x) v:=by
 cases x with
 |tup xs=>exact h
 |cp r cs=>exact h
 |v a cs=>
  unfold fixTV;cases a with
  |true=>obtain⟨vs,h1,h2⟩:=h;exact⟨vs,h1,Zbj h2⟩
  |false=>
   match cs,h with
   |[c],h=>
    have hl:(fixNils (leaves P 9 t) [c]).length=1:=Zdm;have h3:=Zbj (ls:=leaves P 9 t) (cs:=[c]) (vs:=[v]) ⟨h,trivial⟩;show tvRep w S M L (.v false (fixNils (leaves P 9 t) [c])) v;revert hl h3;generalize fixNils (leaves P 9 t) [c]=ds;intro hl h3
    match ds,hl,h3 with
    |[d],_,h3=>exact h3.1
theorem Zl0(d:Nat){t e:TypeId}{A:Option Addr}{l c:Nat}(h:P.underlying t=some (.slice e)):(Op.equalIn (d+1) t (.slice A l c) (.slice none 0 0)).run P w=.ok A.isNone w:=by
 cases A<;>simp[Op.equalIn,run_underlying h]
theorem Zu3{rs:Look}{L:Lay}{c:C}{v:Value}{es:List (List D)}(hm:MemRep w S (Zao M rs) L)(h:cRep w S (Zao M rs) L c v)(hr:rowsOf rs c=some es)(hg:goodC rs c=true):
  ∃A n cap,v=.slice A n cap∧(A=none→es=[]):=by
 cases c with
 |d x=>
  cases x with
  |sl o n es'=>
   cases o with
   |false=>
    simp only[rowsOf,Option.some.injEq]at hr;subst hr;obtain⟨_,A,cap,rfl,_,h⟩:=h;refine⟨A,_,cap,rfl,λhA=>?_⟩;rcases h with⟨_,h,_⟩|⟨B,off,F',h,_⟩
    ·exact h
    ·rw[hA]at h;cases h
   |true=>cases hr
  |_=>cases hr
 |nils n=>
  simp only[rowsOf,Option.some.injEq]at hr;exact⟨none,0,0,h,λ_=>hr.symm⟩
 |view r ga gh q n sub=>
  simp only[rowsOf]at hr;split at hr
  ·rename_i hcond;simp only[Bool.and_eq_true]at hcond;simp only[Option.some.injEq]at hr;have hl:=Zar hcond.1;have hov:Zao M rs r=rs.get r:=Za8 hl;obtain⟨es1,A,cap,G,k1,k2,k3,k4,k5⟩:=Zes hm h (by rw[hov];exact hcond.1) (by rw[hov];exact hg)
   rw[hov]at k5;rw[k5]at hr;have hnil:A=none→es1=[]:=λhA=>by
    obtain⟨A',c',e1,_,k2⟩:=k2;injection e1 with e1;subst e1;rcases k2 with⟨_,k2,_⟩|⟨B,off,F',k2,_⟩
    ·exact k2
    ·rw[hA]at k2;cases k2
   cases sub with
   |none=>exact⟨A,_,_,k4,λhA=>by rw[←hr];exact hnil hA⟩
   |some on=>
    obtain⟨o,m⟩:=on;obtain⟨_,k4⟩:=k4;rcases k4 with⟨_,rfl,rfl⟩|⟨B,off,off',cap',_,rfl,_⟩
    ·exact⟨none,0,0,rfl,λ_=>by rw[←hr];simp[subRows]⟩
    ·exact⟨_,_,_,rfl,λhA=>by cases hA⟩
  ·cases hr
 |_=>cases hr
theorem Zls{o:Oper}{ρ:Operand→Value}{vs:List TV}{rs:Look}{e:Eff}{L:Lay}(hm:MemRep w S (Zao M rs) L)
  (hv:opsRep w S (Zao M rs) L vs ((operandsOf o.op).map ρ)) (he:opPure P o.op vs rs=some e) (hok:e.ok=true):
  (∃v,(execOp ρ o).run P w=.ok (.value v) w∧tvRep w S (Zao M rs) L e.val v)∧e.upd=[]∧e.new=[]:=by
 obtain⟨dst,op,type,pos,after,guard⟩:=o;simp only at hv he;unfold opPure at he;split at he
 ·rename_i cnd a b c x y;simp only[pureEff,Option.some.injEq]at he;subst he;obtain⟨u,v,t,hu,h1,h2,h3⟩:=Zeo hv;simp only[operandsOf,Op.operands,List.map_cons,List.map_nil,List.cons.injEq,and_true]at hu;obtain⟨rfl,rfl,rfl⟩:=hu;refine⟨⟨if c then ρ a else ρ b,?_,Zva h2 h3⟩,rfl,rfl⟩;simp[execOp,Zdh h1,asBool]
 ·rename_i ty a x;simp only[pureEff,Option.some.injEq]at he;subst he;obtain⟨u,hu,h1⟩:=Zax hv;simp only[operandsOf,Op.operands,List.map_cons,List.map_nil,List.cons.injEq,and_true]at hu;subst hu;exact⟨⟨.bool (!x),by simp[execOp,Zdh h1,Op.unary],Zea _⟩,rfl,rfl⟩
 ·rename_i ty a k n;simp only[pureEff,Option.some.injEq]at he;subst he;obtain⟨u,hu,h1⟩:=Zax hv;simp only[operandsOf,Op.operands,List.map_cons,List.map_nil,List.cons.injEq,and_true]at hu;subst hu;exact⟨⟨.int k (k.wrap (0-n)),by simp[execOp,Zdy h1,Op.unary,Op.intArith],Zfs _ _⟩,rfl,rfl⟩
 ·rename_i op t a b ty k x k' y;obtain⟨u,v,hu,h1,h2⟩:=Za2 hv;simp only[operandsOf,Op.operands,List.map_cons,List.map_nil,List.cons.injEq,and_true]at hu;obtain⟨rfl,rfl⟩:=hu;have key:∀{c:C},intBin op k x y=some (true,c)→(op=.shl∨op=.shr∨k=k')→∃v,(execOp ρ ⟨dst,.binOp op t a b ty,type,pos,after,guard⟩).run P w=.ok (.value v) w∧tvRep w S (Zao M rs) L (.v false [c]) v:=by
   intro c hc hk;obtain⟨v,r1,r2⟩:=Zp5 (P:=P) (w:=w) (S:=S) (M:=Zao M rs) (L:=L) (t:=t) hc hk;refine⟨v,?_,r2⟩;simp only[execOp,Zdy h1,Zdy h2,Sem.run_bind];rw[Zbi (by simp) (by simp)]
   simp[r1]
  split at he
  ·split at he
   ·rename_i hop;obtain⟨r,hr,rfl⟩:=Option.map_eq_some_iff.1 he;obtain⟨b',c⟩:=r;simp only at hok;subst hok;simp only[Bool.or_eq_true,beq_iff_eq]at hop;exact⟨key hr (by rcases hop with h|h<;>simp[h]),rfl,rfl⟩
   ·split at he
    ·rename_i hk;obtain⟨r,hr,rfl⟩:=Option.map_eq_some_iff.1 he;obtain⟨b',c⟩:=r;simp only at hok;subst hok;exact⟨key hr (.inr (.inr hk)),rfl,rfl⟩
    ·cases he
  ·cases he
 ·rename_i op t a b ty x y;obtain⟨u,v,hu,h1,h2⟩:=Za2 hv;simp only[operandsOf,Op.operands,List.map_cons,List.map_nil,List.cons.injEq,and_true]at hu;obtain⟨rfl,rfl⟩:=hu;split at he
  ·rename_i ht;have hq:=run_equal_bool (P:=P) w t x y ht;split at he
   ·simp only[pureEff,Option.some.injEq]at he;subst he;refine⟨⟨.bool (x==y),?_,Zea _⟩,rfl,rfl⟩;simp only[execOp,Zdh h1,Zdh h2,Sem.run_bind];rw[Zbi (by simp) (by simp)]
    simp[binOp,hq]
   ·simp only[pureEff,Option.some.injEq]at he;subst he;refine⟨⟨.bool (x !=y),?_,Zea _⟩,rfl,rfl⟩;simp only[execOp,Zdh h1,Zdh h2,Sem.run_bind];rw[Zbi (by simp) (by simp)]
    simp[binOp,hq,bne]
   ·cases he
  ·cases he
 ·rename_i op t a b ty x y;obtain⟨u,v,hu,h1,h2⟩:=Za2 hv;simp only[operandsOf,Op.operands,List.map_cons,List.map_nil,List.cons.injEq,and_true]at hu;obtain⟨rfl,rfl⟩:=hu;split at he
  ·obtain⟨r,hr,rfl⟩:=Option.map_eq_some_iff.1 he;obtain⟨b',c⟩:=r;simp only at hok;subst hok;obtain⟨v,r1,r2⟩:=Zp6 (P:=P) (w:=w) (S:=S) (M:=Zao M rs) (L:=L) (t:=t) hr;refine⟨⟨v,?_,r2⟩,rfl,rfl⟩;simp only[execOp,Zfd h1,Zfd h2,Sem.run_bind];rw[Zbi (by simp) (by simp)]
   simp[r1]
  ·cases he
 ·rename_i op t a b ty xs ys;obtain⟨u,v,hu,h1,h2⟩:=Za2 hv;simp only[operandsOf,Op.operands,List.map_cons,List.map_nil,List.cons.injEq,and_true]at hu;obtain⟨rfl,rfl⟩:=hu;have key:∀{fs:Array Field} {b':Bool},P.underlying t=some (.struct fs)→eqTree P 9 t xs ys=some b'→
    (Op.equal t (ρ a) (ρ b)).run P w=.ok b' w∧(∀op,(eqGuard op t a b (ρ a) (ρ b)).run P w=.ok () w)∧∃us vs,ρ a=.agg us∧ρ b=.agg vs:=by
   intro fs b' hu hb;have ha:isAggB P t=true:=by unfold isAggB;rw[hu]
   refine⟨Zjy 9 t 10000 (by omega) hb (by rw[ha];exact h1) (by rw[ha];exact h2),λop=>?_,?_⟩
   ·obtain⟨us,e1,_⟩:=h1;obtain⟨vs,e2,_⟩:=h2;rw[e1,e2];exact run_eqGuard_agg w op t a b us vs (Zdi 9 t _ (by unfold Program.depth Made.depth;omega) hb)
   ·obtain⟨us,e1,_⟩:=h1;obtain⟨vs,e2,_⟩:=h2;exact⟨us,vs,e1,e2⟩
  split at he
  ·rename_i hu hb;simp only[pureEff,Option.some.injEq]at he;subst he;obtain⟨k1,k2,us,vs,e1,e2⟩:=key hu hb;refine⟨⟨.bool _,?_,Zea _⟩,rfl,rfl⟩;rw[e1,e2]at k1;have k3:=k2 .eql;rw[e1,e2]at k3;simp only[execOp,Sem.run_bind,e1,e2,k3,Result.andThen_ok];simp[binOp,k1]
  ·rename_i hu hb;simp only[pureEff,Option.some.injEq]at he;subst he;obtain⟨k1,k2,us,vs,e1,e2⟩:=key hu hb;refine⟨⟨.bool _,?_,Zea _⟩,rfl,rfl⟩;rw[e1,e2]at k1;have k3:=k2 .neq;rw[e1,e2]at k3;simp only[execOp,Sem.run_bind,e1,e2,k3,Result.andThen_ok];simp[binOp,k1]
  ·cases he
 ·rename_i t a b ty c n;obtain⟨u,v,hu,h1,h2⟩:=Za2 hv;simp only[operandsOf,Op.operands,List.map_cons,List.map_nil,List.cons.injEq,and_true]at hu;obtain⟨rfl,rfl⟩:=hu;split at he
  ·rename_i e es ht hes;simp only[pureEff,Option.some.injEq]at he;subst he;simp only at hok;obtain⟨A,m,cp,e1,e2⟩:=Zu3 hm h1 hes hok;have e3:ρ b=.slice none 0 0:=h2;refine⟨⟨.bool A.isNone,?_,A.isNone,rfl,λh=>?_⟩,rfl,rfl⟩
   ·simp only[execOp,e1,e3,Sem.run_bind];rw[Zbi (by simp) (by simp)]
    have heq:(Op.equal t (.slice A m cp) (.slice none 0 0)).run P w=.ok A.isNone w:=Zl0 9999 ht;simp only[binOp];simp[heq]
   ·cases A with
    |none=>rw[e2 rfl];rfl
    |some x=>cases h
  ·cases he
 ·rename_i src d a k n;obtain⟨u,hu,h1⟩:=Zax hv;simp only[operandsOf,Op.operands,List.map_cons,List.map_nil,List.cons.injEq,and_true]at hu;subst hu;split at he
  ·rename_i k1 k2 hs hd;simp only[pureEff,Option.some.injEq]at he;subst he;exact⟨⟨.int k2 (k2.wrap n),by simp[execOp,convert,run_underlying hs,run_underlying hd,Zdy h1,Conv.intToInt],Zfs _ _⟩,rfl,rfl⟩
  ·cases he
 ·rename_i t parts vs';split at he
  ·rename_i fs z hu hz;split at he
   ·rename_i cs hb;split at he
    ·rename_i hl;simp only[pureEff,Option.some.injEq]at he;subst he;obtain⟨v,r1,r2⟩:=Zme (P:=P) (ρ:=ρ) hu hz hb hl.1 hl.2 (by simpa[operandsOf,Op.operands]using hv)
     exact⟨⟨v,by simp only[execOp,Sem.run_bind,r1,Result.andThen_ok];rfl,r2⟩,rfl,rfl⟩
    ·cases he
   ·cases he
  ·rename_i len e hu;split at he
   ·rename_i k hk;split at he
    ·rename_i z hz;split at he
     ·rename_i cs hb;split at he
      ·rename_i hl;simp only[pureEff,Option.some.injEq]at he;subst he;obtain⟨v,r1,r2⟩:=Zs2 (P:=P) (ρ:=ρ) hu hz hb hl.1 hl.2 (by simpa[operandsOf,Op.operands]using hv)
       exact⟨⟨v,by simp only[execOp,Sem.run_bind,r1,Result.andThen_ok];rfl,r2⟩,rfl,rfl⟩
      ·cases he
     ·cases he
    ·cases he
   ·cases he
  ·cases he
 ·rename_i s a f cs;obtain⟨u,hu,h1⟩:=Zax hv;simp only[operandsOf,Op.operands,List.map_cons,List.map_nil,List.cons.injEq,and_true]at hu;subst hu;obtain⟨us,e1,h1⟩:=h1;split at he
  ·rename_i fd hf;unfold fieldOf at hf;split at hf
   ·rename_i fs hs;have key:∀{ds:List C},partC P fd.type cs fd.offset=some ds→(∃d,P.underlying fd.type=some d)→∃v,(execOp ρ ⟨dst,.field s a f,type,pos,after,guard⟩).run P w=.ok (.value v) w∧tvRep w S (Zao M rs) L (.v (isAggB P fd.type) ds) v:=by
     intro ds hd hx;obtain⟨d,hx⟩:=hx;obtain⟨v,r1,r2⟩:=Zhu hx h1 hd;exact⟨v,by simp only[execOp,Instr.field,Sem.run_bind,run_underlying hs,Result.andThen_ok,hf,e1,asAgg,Sem.run_pure,r1],r2⟩
    split at he
    ·rename_i ha;simp only[pureEff,Option.some.injEq]at he;subst he;have:=key (ds:=(cs.drop fd.offset).take (P.cellsOf fd.type)) (by unfold partC;rw[if_pos ha]) (Zmk ha)
     rw[ha]at this;exact⟨this,rfl,rfl⟩
    ·rename_i ha;split at he
     ·rename_i hok2;split at he
      ·rename_i c hc;simp only[pureEff,Option.some.injEq]at he;subst he;have:=key (ds:=[c]) (by unfold partC;rw[if_neg ha,hc]) (Option.isSome_iff_exists.1 hok2)
       rw[Bool.eq_false_iff.2 ha]at this;exact⟨this,rfl,rfl⟩
      ·cases he
     ·cases he
   ·cases hf
  ·cases he
 ·rename_i a ix xs;obtain⟨u,hu,h1⟩:=Zax hv;simp only[operandsOf,Op.operands,List.map_cons,List.map_nil,List.cons.injEq,and_true]at hu;subst hu;obtain⟨us,e1,h1⟩:=h1;split at he
  ·rename_i b cs hx;simp only[pureEff,Option.some.injEq]at he;subst he;obtain⟨v,r1,r2⟩:=Zj2 h1 hx;rw[Array.getElem?_toList]at r1;exact⟨⟨v,by simp[execOp,e1,Instr.extract,r1],r2⟩,rfl,rfl⟩
  ·cases he
 ·rename_i a r ga gh q n i j;simp only[pureEff,Option.some.injEq]at he;subst he;obtain⟨u,hu,h1⟩:=Zax hv;simp only[operandsOf,Op.operands,List.map_cons,List.map_nil,List.cons.injEq,and_true]at hu;subst hu;obtain⟨B,o,hp⟩:=h1.2.1;exact⟨⟨ρ a,by simp[execOp,hp],h1⟩,rfl,rfl⟩
 ·rename_i a xs;simp only[pureEff,Option.some.injEq]at he;subst he;obtain⟨u,hu,h1⟩:=Zax hv;simp only[operandsOf,Op.operands,List.map_cons,List.map_nil,List.cons.injEq,and_true]at hu;subst hu;obtain⟨B,o,hp,h2⟩:=id h1;exact⟨⟨ρ a,by simp[execOp,hp],h1⟩,rfl,rfl⟩
 ·rename_i s a f r ga gh q n i j;obtain⟨u,hu,h1⟩:=Zax hv;simp only[operandsOf,Op.operands,List.map_cons,List.map_nil,List.cons.injEq,and_true]at hu;subst hu;split at he
  ·rename_i fd hf;split at he
   ·cases he
   ·rename_i hc;simp only[pureEff,Option.some.injEq]at he;subst he;obtain⟨hb,⟨B,o,hp⟩,h2⟩:=h1;refine⟨⟨.pointer (some ⟨B,o+fd.offset,none⟩),by simp only[execOp,hp,Sem.run_bind,Zft hf hc,Result.andThen_ok];rfl,hb,⟨_,_,rfl⟩,λho hq=>?_⟩,rfl,rfl⟩
    obtain⟨es,B',off,len,cap,k1,k2,k3⟩:=h2 ho hq;rw[hp]at k3;injection k3 with k3;injection k3 with k3;injection k3 with k4 k5;subst k4;exact⟨es,B,off,len,cap,k1,k2,by rw[k5,Nat.add_assoc]⟩
  ·cases he
 ·rename_i s a f xs;obtain⟨u,hu,h1⟩:=Zax hv;simp only[operandsOf,Op.operands,List.map_cons,List.map_nil,List.cons.injEq,and_true]at hu;subst hu;split at he
  ·rename_i fd hf;split at he
   ·cases he
   ·rename_i hc;simp only[pureEff,Option.some.injEq]at he;subst he;obtain⟨B,o,hp,h2,h3⟩:=h1;refine⟨⟨.pointer (some ⟨B,o+fd.offset,none⟩),by simp only[execOp,hp,Sem.run_bind,Zft hf hc,Result.andThen_ok];rfl,B,_,rfl,?_,?_⟩,rfl,rfl⟩
    ·by_cases hl:fd.offset≤xs.length
     ·have e:xs=xs.take fd.offset++xs.drop fd.offset:=(List.take_append_drop _ _).symm;rw[e]at h2;obtain⟨F1,F2,k1,k2,k3,k4⟩:=Zbr.1 h2;rw[List.length_take,Nat.min_eq_left hl]at k2;exact Zgn k2 (λb=>⟨λh=>(k3 b).2 (.inr h),λh=>h.elim⟩)
     ·rw[List.drop_eq_nil_of_le (by omega)]
      exact λ_ h=>h
    ·rcases h3 with h3|h3
     ·subst h3;simp
     ·exact .inr h3
  ·cases he
 ·rename_i t a b c ix;obtain⟨u,v,hu,h1,h2⟩:=Za2 hv;simp only[operandsOf,Op.operands,List.map_cons,List.map_nil,List.cons.injEq,and_true]at hu;obtain⟨rfl,rfl⟩:=hu;split at he
  ·rename_i e es i ht hes hix;obtain⟨k,hk⟩:=Zej h2 hix;split at he
   ·rename_i hsz;simp only[Bool.and_eq_true]at hsz;split at he
    ·rename_i r ga gh q n sub;simp only[pureEff,Option.some.injEq]at he;subst he;simp only[Bool.and_eq_true,decide_eq_true_eq]at hok;obtain⟨hg,h0,hi⟩:=hok;have hn:n=P.cellsOf e:=by simpa[szFits,szOf]using hsz.2
     simp only[rowsOf]at hes;split at hes
     ·rename_i hcond;simp only[Bool.and_eq_true]at hcond;simp only[Option.some.injEq]at hes;have hl:=Zar hcond.1;have hov:Zao M rs r=rs.get r:=Za8 hl;have ho:okView (Zao M rs r) ga gh q=true:=by rw[hov];exact hcond.1
      have hpq:pathOk (Zao M rs r).es q=true:=by rw[hov];exact hg
      obtain⟨es1,A,cap,G,k1,k2,k3,k4,k5⟩:=Zes hm h1 ho hpq;rw[hov]at k5;rw[k5]at hes;obtain⟨A',cap',hval⟩:=Zmv k4;have hbase:∃B off,A=some ⟨B,off,none⟩∧A'=some ⟨B,off+subOff sub*n,none⟩∧subOff sub+i.toNat<es1.length:=by
       have hpos:0<(subRows es1 sub).length:=by rw[hes];omega
       obtain⟨A2,cap2,he2,_,k2⟩:=k2;injection he2 with e1 e2 e3;subst e1;rcases k2 with⟨_,rfl,_⟩|⟨B,off,F',rfl,_⟩
       ·cases sub<;>simp[subRows]at hpos
       ·cases sub with
        |none=>
         have hv2:ρ a=_:=k4;rw[hv2]at hval;injection hval with e4;refine⟨B,off,rfl,by rw[←e4];simp[subOff],?_⟩
         simp only[subRows]at hes;subst hes;simp[subOff];omega
        |some on=>
         obtain⟨o,m⟩:=on;obtain⟨hle,k4⟩:=k4;rcases k4 with⟨h,_⟩|⟨B',off0,off',cap3,hA,hv2,hm3,hoff,_,_⟩
         ·cases h
         ·injection hA with hA;injection hA with e5 e6;subst e5 e6;rw[hv2]at hval;injection hval with e7 e8;have hm0:¬m=0:=by omega
          have hoff:=hoff.resolve_left hm0;refine⟨B,off,rfl,by rw[←e7,hoff];rfl,?_⟩
          have:(es.length:Int)=m:=by rw[←hes,←e8]
          show o+i.toNat<es1.length;omega
      obtain⟨B,off,rfl,rfl,hlt⟩:=hbase;refine⟨⟨.pointer (some ((⟨B,off+subOff sub*n,none⟩:Addr).add (i.toNat*P.cellsOf e))),?_,h1.1,?_,?_⟩,rfl,rfl⟩
      ·simp only[execOp,Sem.run_bind,hval,hk];rw[Zia ht hsz.1 h0 (by rw[hes];exact hi)]
       rfl
      ·rw[Zbv];exact⟨_,_,rfl⟩
      ·intro _ _;refine⟨es1,B,off,es1.length,cap,k1,hlt,?_⟩;rw[Zbv,←hn,Nat.add_mul,Nat.add_zero,Nat.add_assoc]
     ·cases hes
    ·rename_i hnv;simp only[pureEff,Option.some.injEq]at he;subst he;simp only[Bool.and_eq_true,decide_eq_true_eq]at hok;obtain⟨h0,hi⟩:=hok;cases c with
     |d x=>
      cases x with
      |sl o n es'=>
       cases o with
       |true=>cases hes
       |false=>
        simp only[rowsOf,Option.some.injEq]at hes;subst hes;have hn:n=P.cellsOf e:=by simpa[szFits,szOf]using hsz.2
        obtain⟨_,A,cap,hval,hcap,k1⟩:=h1;rcases k1 with⟨_,rfl,_⟩|⟨B,off,F',rfl,k2,k3⟩
        ·simp at hi;omega
        ·rcases k3 with⟨k3,_⟩|⟨_,k3,k4,k5⟩
         ·cases k3
         ·have hne:es'≠[]:=by intro h;subst h;simp at hi;omega
          obtain⟨G,R,g1,g2,g3,_⟩:=Zb9 i.toNat k2 (by omega)
          refine⟨⟨.pointer (some ((⟨B,off,none⟩:Addr).add (i.toNat*P.cellsOf e))),?_,B,_,by rw[Zbv],?_,.inr (k5.resolve_left hne)⟩,rfl,rfl⟩
          ·simp only[execOp,Sem.run_bind,hval,hk];rw[Zia ht hsz.1 h0 hi];rfl
          ·rw[←hn];exact Zgn g2 (λb=>⟨λh=>k4 b ((g3 b).2 (.inl h)),λh=>h.elim⟩)
      |_=>cases hes
     |nils n=>simp only[rowsOf,Option.some.injEq]at hes;subst hes;simp at hi;omega
     |view r ga gh q n sub=>exact absurd rfl (hnv r ga gh q n sub)
     |_=>cases hes
   ·cases he
  ·cases he
 ·rename_i t a b s ix;obtain⟨u,v,hu,h1,h2⟩:=Za2 hv;simp only[operandsOf,Op.operands,List.map_cons,List.map_nil,List.cons.injEq,and_true]at hu;obtain⟨rfl,rfl⟩:=hu;split at he
  ·rename_i i ht hix;obtain⟨k,hk⟩:=Zej h2 hix;simp only[pureEff,Option.some.injEq]at he;subst he;simp only[Bool.and_eq_true,decide_eq_true_eq]at hok;refine⟨⟨_,?_,Zfs _ _⟩,rfl,rfl⟩;simp only[execOp,Sem.run_bind,Zfd h1,hk,Zmj ht hok.1 hok.2,Result.andThen_ok];rfl
  ·cases he
 ·rename_i t a b cs ix;obtain⟨u,v,hu,h1,h2⟩:=Za2 hv;simp only[operandsOf,Op.operands,List.map_cons,List.map_nil,List.cons.injEq,and_true]at hu;obtain⟨rfl,rfl⟩:=hu;obtain⟨us,e1,h1⟩:=h1;split at he
  ·rename_i len e i ht hix;obtain⟨k',hk⟩:=Zej h2 hix;split at he
   ·rename_i k hte;split at he
    ·rename_i ns hns;split at he
     ·rename_i hcond;simp only[pureEff,Option.some.injEq]at he;subst he;simp only[Bool.and_eq_true,decide_eq_true_eq]at hok;obtain⟨x,r1,r2⟩:=Ztj (P:=P) (k':=k') ht hte hns hcond.1 hcond.2.1 hcond.2.2 h1 hok.1 hok.2;refine⟨⟨x,?_,r2⟩,rfl,rfl⟩;simp only[execOp,Sem.run_bind,e1,hk,r1,Result.andThen_ok];rfl
     ·cases he
    ·cases he
   ·cases he
  ·cases he
 ·rename_i t a r ga gh q n i j;obtain⟨u,hu,h1⟩:=Zax hv;simp only[operandsOf,Op.operands,List.map_cons,List.map_nil,List.cons.injEq,and_true]at hu;subst hu;simp only at he;split at he
  ·rename_i hcond;simp only[Bool.and_eq_true,decide_eq_true_eq]at hcond;split at he
   ·rename_i b cs hld;split at he
    ·rename_i hcl;have hl:=Zar hcond.1;have hov:Zao M rs r=rs.get r:=Za8 hl;have ho:okView (Zao M rs r) ga gh q=true:=by rw[hov];exact hcond.1
     have hin:∃d,P.underlying t=some d:=by
      cases hq:P.underlying t with
      |some d=>exact⟨d,rfl⟩
      |none=>rw[Zhk hq]at hld;simp[loadCells,loadCell]at hld
     obtain⟨d,hin⟩:=hin;have key:pathOk (rs.get r).es q=true→b=true→(isAggB P t=false→cs.length=1)→∃v,(execOp ρ ⟨dst,.load t a,type,pos,after,guard⟩).run P w=.ok (.value v) w∧tvRep w S (Zao M rs) L (.v (isAggB P t) cs) v:=by
      intro hpq hb h1c;subst hb;obtain⟨es1,B,off,cap,F',k1,k2,k3,k4,k5,k6,k7⟩:=Zgl hm h1 ho (by rw[hov];exact hpq)
      rw[hov]at k7;rw[k7]at hld;obtain⟨G,R,g1,g2,g3,_⟩:=Zb9 i k2 k3;have hls:cs.length=(litLeaves P t).length∨True:=.inr trivial;have hlen:j+(litLeaves P t).length≤(es1.getD i []).length:=by
       have:∀{box:Bool} {row:List D} {view:Nat→Nat→C} {ls:List Leaf} {j:Nat} {b:Bool} {cs:List C},loadCells box row view j ls=some (b,cs)→cs.length=ls.length:=by
        intro box row view ls;induction ls with
        |nil=>intro j b cs h;simp only[loadCells,Option.some.injEq,Prod.mk.injEq]at h;rw[←h.2];rfl
        |cons l ls ih=>
         intro j b cs h;simp only[loadCells]at h;split at h
         ·split at h
          ·rename_i h2;simp only[Option.some.injEq,Prod.mk.injEq]at h;rw[←h.2];simp[ih h2]
          ·cases h
         ·cases h
       have:=this hld;omega
      obtain⟨us,l1,l2,hc,hr⟩:=Zel (S:=S) (M:=Zao M rs) (L:=L) g2 (λjj m es u hx hcell=>by
       have hjj:jj<(es1.getD i []).length:=Zci (z:=.dead) (λh=>by rw[h]at hx;cases hx)
       have hh:=Zmi k1 k3 hjj hcell;rw[hx]at hh;obtain⟨u',G',g5,g6,_⟩:=Zcb g2 jj hjj;rw[hcell]at g5;injection g5 with g5;subst g5;rw[hx]at g6;obtain⟨A',cap',rfl,_⟩:=g6;exact⟨⟨h1.1.1,by rw[hov];exact Nat.le_refl _⟩,⟨_,_,_,rfl⟩,λ_ _=>⟨es,A',es.length,cap',hh,rfl⟩⟩) (litLeaves P t) j hld hlen
      obtain⟨v,r1,r2⟩:=Zeb (P:=P) (t:=t) (B:=B) (off:=off+i*n+j) hin (by omega) hc hr h1c
      refine⟨v,?_,r2⟩;simp only[execOp,Sem.run_bind,k6,Instr.loadAt,Instr.sureAddr,Sem.run_pure,Result.andThen_ok,r1]
     split at he
     ·rename_i ha;simp only[pureEff,Option.some.injEq]at he;subst he;simp only[Bool.and_eq_true]at hok;have:=key hok.1 hok.2 (λh=>by rw[ha]at h;cases h)
      rw[ha]at this;exact⟨this,rfl,rfl⟩
     ·rename_i ha;split at he
      ·rename_i h1c;simp only[pureEff,Option.some.injEq]at he;subst he;simp only[Bool.and_eq_true]at hok;have:=key hok.1 hok.2 (λ_=>h1c);rw[Bool.eq_false_iff.2 ha]at this;exact⟨this,rfl,rfl⟩
      ·cases he
    ·cases he
   ·cases he
  ·cases he
 ·rename_i t a xs;obtain⟨u,hu,h1⟩:=Zax hv;simp only[operandsOf,Op.operands,List.map_cons,List.map_nil,List.cons.injEq,and_true]at hu;subst hu;obtain⟨B,off,hp,hrow,_⟩:=h1;split at he
  ·rename_i b cs hld;split at he
   ·rename_i hcl;have hin:∃d,P.underlying t=some d:=by
     cases hq:P.underlying t with
     |some d=>exact⟨d,rfl⟩
     |none=>rw[Zhk hq]at hld;simp[loadRo]at hld
    obtain⟨d,hin⟩:=hin;have key:b=true→(isAggB P t=false→cs.length=1)→∃v,(execOp ρ ⟨dst,.load t a,type,pos,after,guard⟩).run P w=.ok (.value v) w∧tvRep w S (Zao M rs) L (.v (isAggB P t) cs) v:=by
     intro hb h1c;subst hb;obtain⟨us,l1,l2,hc,hr⟩:=Zem (S:=S) (M:=Zao M rs) (L:=L) hrow (litLeaves P t) 0 hld;obtain⟨v,r1,r2⟩:=Zeb (P:=P) (t:=t) (B:=B) (off:=off) hin (by omega) (λk v hk=>by simpa using hc k v hk) hr h1c
     refine⟨v,?_,r2⟩;simp only[execOp,Sem.run_bind,hp,Instr.loadAt,Instr.sureAddr,Sem.run_pure,Result.andThen_ok,r1]
    split at he
    ·rename_i ha;simp only[pureEff,Option.some.injEq]at he;subst he;have:=key hok (λh=>by rw[ha]at h;cases h)
     rw[ha]at this;exact⟨this,rfl,rfl⟩
    ·rename_i ha;split at he
     ·rename_i h1c;simp only[pureEff,Option.some.injEq]at he;subst he;have:=key hok (λ_=>h1c);rw[Bool.eq_false_iff.2 ha]at this;exact⟨this,rfl,rfl⟩
     ·cases he
   ·cases he
  ·cases he
 ·rename_i a r cs;simp only[pureEff,Option.some.injEq]at he;subst he;obtain⟨u,hu,h1⟩:=Zax hv;simp only[operandsOf,Op.operands,List.map_cons,List.map_nil,List.cons.injEq,and_true]at hu;subst hu;obtain⟨B,o,hp⟩:=h1.2.1;exact⟨⟨ρ a,by simp[execOp,hp],h1⟩,rfl,rfl⟩
 ·rename_i s a f r cs;obtain⟨u,hu,h1⟩:=Zax hv;simp only[operandsOf,Op.operands,List.map_cons,List.map_nil,List.cons.injEq,and_true]at hu;subst hu;split at he
  ·rename_i fd hf;split at he
   ·cases he
   ·rename_i hc;simp only[pureEff,Option.some.injEq]at he;subst he;obtain⟨hb,⟨B,o,hp⟩,vs,h2,h3⟩:=h1;refine⟨⟨.pointer (some ⟨B,o+fd.offset,none⟩),by simp only[execOp,hp,Sem.run_bind,Zft hf hc,Result.andThen_ok];rfl,hb,⟨_,_,rfl⟩,vs.drop fd.offset,Zcy _ h2,λhl=>?_⟩,rfl,rfl⟩
    obtain⟨B',off,off0,len,cap,k1,k2,k3⟩:=h3 hl;rw[hp]at k1;injection k1 with k1;injection k1 with k1;injection k1 with k4 k5;subst k4 k5;refine⟨B,o+fd.offset,off0,len,cap,rfl,k2,λk u hk=>?_⟩;rw[List.getElem?_drop]at hk;rw[Nat.add_assoc];exact k3 _ _ hk
  ·cases he
 ·rename_i t a r cs;obtain⟨u,hu,h1⟩:=Zax hv;simp only[operandsOf,Op.operands,List.map_cons,List.map_nil,List.cons.injEq,and_true]at hu;subst hu;obtain⟨_,_,vs,hcs,hlv⟩:=h1;split at he
  ·rename_i hcond;simp only[Bool.and_eq_true,decide_eq_true_eq]at hcond;obtain⟨hl,hin,hle⟩:=hcond;obtain⟨d,hin⟩:=Option.isSome_iff_exists.1 hin;have hov:Zao M rs r=rs.get r:=Za8 hl;obtain⟨B,off,off0,len,cap,e1,e2,e3⟩:=hlv (by rw[hov];exact hl)
   have hlen:=Zbn hcs;have key:(isAggB P t=false→P.cellsOf t=1)→∃v,(execOp ρ ⟨dst,.load t a,type,pos,after,guard⟩).run P w=.ok (.value v) w∧tvRep w S (Zao M rs) L (.v (isAggB P t) (cs.take (P.cellsOf t))) v:=by
    intro h1c;obtain⟨v,r1,r2⟩:=Zeb (P:=P) (t:=t) (B:=B) (off:=off) (us:=vs.take (P.cellsOf t)) (cs:=cs.take (P.cellsOf t)) hin (by rw[List.length_take];omega) (λk v hk=>e3 k v (by
     rw[List.getElem?_take]at hk;split at hk
     ·exact hk
     ·cases hk)) (Zcz _ hcs) (λh=>by rw[List.length_take,h1c h];have:=h1c h;omega)
    refine⟨v,?_,r2⟩;simp only[execOp,Sem.run_bind,e1,Instr.loadAt,Instr.sureAddr,Sem.run_pure,Result.andThen_ok,r1]
   split at he
   ·rename_i ha;simp only[pureEff,Option.some.injEq]at he;subst he;have:=key (λh=>by rw[ha]at h;cases h)
    rw[ha]at this;exact⟨this,rfl,rfl⟩
   ·rename_i ha;split at he
    ·rename_i h1c;simp only[pureEff,Option.some.injEq]at he;subst he;have:=key (λ_=>h1c);rw[Bool.eq_false_iff.2 ha]at this;exact⟨this,rfl,rfl⟩
    ·cases he
  ·cases he
 ·cases he
end
end Go.Ev
