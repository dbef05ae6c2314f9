/- The operations that write nothing, one by one. -/
import Derived.Test.YtihhlajibgoemaaGreatEvPure
namespace Go.Ev
set_option linter.unusedVariables false
set_option linter.unusedSimpArgs false
section
variable {P : Program} {w : World} {S : FP} {M : Mem} {L : Lay}
theorem Zdy{k:IntKind}{n:Int}{v:Value}(h:tvRep w S M L (.v false [.d (.int k n)]) v):v=.int k n:=h.2.1
theorem Zdh{b:Bool}{v:Value}(h:tvRep w S M L (.v false [.d (.bool b)]) v):v=.bool b:=h.2.1
theorem Zfd{s:ByteArray}{v:Value}(h:tvRep w S M L (.v false [.d (.str s)]) v):v=.string s:=h.2.1
theorem Zfs(k:IntKind)(n:Int):tvRep w S M L (.v false [.d (.int k n)]) (.int k n):=⟨rfl,rfl,λ_ h=>h⟩
theorem Zea(b:Bool):tvRep w S M L (.v false [.d (.bool b)]) (.bool b):=⟨rfl,rfl,λ_ h=>h⟩
theorem Zt6(s:ByteArray):tvRep w S M L (.v false [.d (.str s)]) (.string s):=⟨rfl,rfl,λ_ h=>h⟩
def Gives(P:Program)(w:World)(S:FP)(M:Mem)(L:Lay)(s:Sem Value)(x:TV):Prop:=∃v,s.run P w=.ok v w∧tvRep w S M L x v
theorem Zax{x:TV}{us:List Value}(h:opsRep w S M L [x] us):∃u,us=[u]∧tvRep w S M L x u:=by
 match us,h with
 |[u],h=>exact⟨u,rfl,h.1⟩
theorem Za2{x y:TV}{us:List Value}(h:opsRep w S M L [x,y] us):∃u v,us=[u,v]∧tvRep w S M L x u∧tvRep w S M L y v:=by
 match us,h with
 |[u,v],h=>exact⟨u,v,rfl,h.1,h.2.1⟩
theorem Zeo{x y z:TV}{us:List Value}(h:opsRep w S M L [x,y,z] us):∃u v t,us=[u,v,t]∧tvRep w S M L x u∧tvRep w S M L y v∧tvRep w S M L z t:=by
 match us,h with
 |[u,v,t],h=>exact⟨u,v,t,rfl,h.1,h.2.1,h.2.2.1⟩
theorem Zdi:∀(n:Nat) (t:TypeId) {xs ys:List C} {b:Bool} (D:Nat),n≤D→eqTree P n t xs ys=some b→P.eqGuardType D t=false
 |0,t,xs,ys,b,D,hD,h=>by cases h
 |n+1,t,xs,ys,b,0,hD,h=>absurd hD (by omega)
 |n+1,t,xs,ys,b,D+1,hD,h=>by
  unfold eqTree at h;unfold Program.eqGuardType;cases hu:P.underlying t with
  |none=>rfl
  |some d=>
   rw[hu]at h;cases d with
   |struct fs=>
    simp only[]at h⊢;split at h
    ·cases h
    ·rw[←Array.any_toList];generalize fs.toList=l at h;have key : ∀ (l : List Field) {b : Bool}, eqFs P (eqTree P n) xs ys l = some b → (l.any fun f => f.name != "_" && P.eqGuardType D f.type) = false := by
      intro l;induction l with
      |nil=>intro b _;rfl
      |cons f l ih=>
       intro b h;unfold eqFs at h;rw[List.any_cons];split at h
       ·rename_i hn;rw[ih h];simp[hn]
       ·rename_i hn;split at h
        ·split at h
         ·rename_i x h1;split at h
          ·rename_i y h2;rw[ih h2,Zdi n f.type D (by omega) h1];simp
          ·cases h
         ·cases h
        ·cases h
     exact key l h
   |interface ms=>simp[scalarEq]at h
   |array k e=>simp[scalarEq]at h
   |_=>rfl
theorem Zmk{t:TypeId}(h:isAggB P t=true):∃d,P.underlying t=some d:=by
 unfold isAggB at h;cases hu:P.underlying t with
 |none=>rw[hu]at h;cases h
 |some d=>exact⟨d,rfl⟩
theorem Zcy:∀{cs:List C} {vs:List Value} (n:Nat),cellsRep w S M L cs vs→cellsRep w S M L (cs.drop n) (vs.drop n)
 |[],[],n,_=>by simp[cellsRep]
 |c::cs,v::vs,0,h=>h
 |c::cs,v::vs,n+1,h=>Zcy n h.2
 |[],_::_,_,h=>h.elim
 |_::_,[],_,h=>h.elim
theorem Zcz:∀{cs:List C} {vs:List Value} (n:Nat),cellsRep w S M L cs vs→cellsRep w S M L (cs.take n) (vs.take n)
 |[],[],n,_=>by simp[cellsRep]
 |c::cs,v::vs,0,h=>trivial
 |c::cs,v::vs,n+1,h=>⟨h.1,Zcz n h.2⟩
 |[],_::_,_,h=>h.elim
 |_::_,[],_,h=>h.elim
theorem Zhf:∀{cs:List C} {vs:List Value} (n:Nat) {c:C},cellsRep w S M L cs vs→cs[n]?=some c→∃v,vs[n]?=some v∧cRep w S M L c v
 |[],[],n,c,_,h=>by simp at h
 |c::cs,v::vs,0,c',h,hc=>by simp at hc;subst hc;exact⟨v,rfl,h.1⟩
 |c::cs,v::vs,n+1,c',h,hc=>by simpa using Zhf n h.2 (by simpa using hc)
 |[],_::_,_,_,h,_=>h.elim
 |_::_,[],_,_,h,_=>h.elim
theorem Zc6:∀{cs cs':List C} {vs vs':List Value},cellsRep w S M L cs vs→cellsRep w S M L cs' vs'→cellsRep w S M L (cs++cs') (vs++vs')
 |[],_,[],_,_,h=>h
 |c::cs,_,v::vs,_,h,h'=>⟨h.1,Zc6 h.2 h'⟩
 |[],_,_::_,_,h,_=>h.elim
 |_::_,_,[],_,h,_=>h.elim
theorem Zhu{t:TypeId}{d:TypeDesc}{cs ds:List C}{vs:Array Value}{off:Nat}(hu:P.underlying t=some d)(h:cellsRep w S M L cs vs.toList)(hp:partC P t cs off=some ds):
  ∃v,(part t vs off).run P w=.ok v w∧tvRep w S M L (.v (isAggB P t) ds) v:=by
 unfold part partC at *;rw[Sem.run_bind,Ziv hu,Result.andThen_ok];cases ha:isAggB P t with
 |true=>
  rw[ha]at hp;simp only[if_true,Option.some.injEq]at hp;subst hp;refine⟨.agg (vs.extract off (off+P.cellsOf t)),by simp[Zku hu],_,rfl,?_⟩
  have:=Zcz (P.cellsOf t) (Zcy off h);rw[Array.toList_extract,List.extract_eq_take_drop,Nat.add_sub_cancel_left];exact this
 |false=>
  rw[ha]at hp;simp only[Bool.false_eq_true,if_false]at hp⊢;cases hc:cs[off]? with
  |none=>rw[hc]at hp;cases hp
  |some c=>
   rw[hc]at hp;simp only[Option.some.injEq]at hp;subst hp;obtain⟨v,hv,hr⟩:=Zhf off h hc;rw[Array.getElem?_toList]at hv;refine⟨v,by rw[hv];rfl,hr⟩
theorem Zjy:∀(n:Nat) (t:TypeId) (D:Nat) {xs ys:List C} {b:Bool} {u v:Value},n≤D→eqTree P n t xs ys=some b→tvRep w S M L (.v (isAggB P t) xs) u→tvRep w S M L (.v (isAggB P t) ys) v→
  (Op.equalIn D t u v).run P w=.ok b w
 |0,t,D,xs,ys,b,u,v,hD,h,_,_=>by cases h
 |n+1,t,0,xs,ys,b,u,v,hD,h,_,_=>by omega
 |n+1,t,D+1,xs,ys,b,u,v,hD,h,hx,hy=>by
  unfold eqTree at h;cases hu:P.underlying t with
  |none=>rw[hu]at h;cases h
  |some d=>
   rw[hu]at h;cases d with
   |struct fs=>
    simp only[]at h;have ha:isAggB P t=true:=by unfold isAggB;rw[hu]
    rw[ha]at hx hy;obtain⟨us,rfl,hx⟩:=hx;obtain⟨vs,rfl,hy⟩:=hy;split at h
    ·cases h
    ·rename_i hs;have hfo:P.fieldsOf t=fs:=by unfold Program.fieldsOf;rw[hu]
     rw[run_equalIn_struct w D t us vs (by rw[hfo];exact hu) (by simpa using hs),hfo]
     have key:∀(l:List Field) {b:Bool},eqFs P (eqTree P n) xs ys l=some b→(Op.eqFields D us vs l).run P w=.ok b w:=by
      intro l;induction l with
      |nil=>intro b h;simp only[eqFs,Option.some.injEq]at h;subst h;rfl
      |cons f l ih=>
       intro b h;unfold eqFs at h;unfold Op.eqFields;split at h
       ·rename_i hn;simp only[hn,ne_eq,not_true,if_false];exact ih h
       ·rename_i hn;simp only[hn,ne_eq,not_false_eq_true,if_true];split at h
        ·rename_i a b' ha1 hb1;split at h
         ·rename_i x h1;split at h
          ·rename_i y h2;simp only[Option.some.injEq]at h;subst h;obtain⟨d',hd'⟩:∃d',P.underlying f.type=some d':=by
            cases hq:P.underlying f.type with
            |some d'=>exact⟨d',rfl⟩
            |none=>
             cases n with
             |zero=>cases h1
             |succ n=>unfold eqTree at h1;rw[hq]at h1;cases h1
           obtain⟨p,hp1,hp2⟩:=Zhu hd' hx ha1;obtain⟨q,hq1,hq2⟩:=Zhu hd' hy hb1;have he:=Zjy n f.type D (by omega) h1 hp2 hq2
           simp only[Sem.run_bind,hp1,hq1,he,Result.andThen_ok];cases x
           ·simp
           ·simp[ih h2]
          ·cases h
         ·cases h
        ·cases h
     exact key _ h
   |int k=>
    have ha:isAggB P t=false:=by unfold isAggB;rw[hu]
    rw[ha]at hx hy;simp only[]at h;unfold scalarEq at h;split at h
    ·rename_i k1 x k2 y he;split at h
     ·rename_i hk;subst hk;simp only[Option.some.injEq]at h;subst h;rw[Zdy hx,Zdy hy];exact run_equalIn_int w D t _ _ _ _ hu
     ·cases h
    ·rename_i heq;cases heq
    ·rename_i heq;cases heq
    ·cases h
   |bool=>
    have ha:isAggB P t=false:=by unfold isAggB;rw[hu]
    rw[ha]at hx hy;simp only[]at h;unfold scalarEq at h;split at h
    ·rename_i heq;cases heq
    ·simp only[Option.some.injEq]at h;subst h;rw[Zdh hx,Zdh hy];exact run_equalIn_bool w D t _ _ hu
    ·rename_i heq;cases heq
    ·cases h
   |string=>
    have ha:isAggB P t=false:=by unfold isAggB;rw[hu]
    rw[ha]at hx hy;simp only[]at h;unfold scalarEq at h;split at h
    ·rename_i heq;cases heq
    ·rename_i heq;cases heq
    ·simp only[Option.some.injEq]at h;subst h;rw[Zfd hx,Zfd hy];exact run_equalIn_string w D t _ _ hu
    ·cases h
   |_=>simp[scalarEq]at h
theorem Zp5{op:BinOp}{k k':IntKind}{x y:Int}{t:TypeId}{c:C}(h:intBin op k x y=some (true,c))(hk:op=.shl∨op=.shr∨k=k'):
  ∃v,(binOp op t (.int k x) (.int k' y)).run P w=.ok v w∧cRep w S M L c v:=by
 cases op<;>simp only[intBin,Option.some.injEq,Prod.mk.injEq,reduceCtorEq]at h
 case shl=>
  obtain⟨h1,rfl⟩:=h;have:¬y<0:=by simp at h1;omega
  exact⟨_,by simp[binOp,Op.shift,this],rfl,rfl,λ_ h=>h⟩
 case shr=>
  obtain⟨h1,rfl⟩:=h;have:¬y<0:=by simp at h1;omega
  exact⟨_,by simp[binOp,Op.shift,this],rfl,rfl,λ_ h=>h⟩
 all_goals
  obtain rfl:k=k':=by rcases hk with h|h|h<;>first|exact h|cases h
  obtain⟨h1,rfl⟩:=h
 case quo=>
  have:¬y=0:=by simpa using h1
  exact⟨_,by simp[binOp,Op.intDiv,this],rfl,rfl,λ_ h=>h⟩
 case rem=>
  have:¬y=0:=by simpa using h1
  exact⟨_,by simp[binOp,Op.intDiv,this],rfl,rfl,λ_ h=>h⟩
 all_goals exact⟨_,by simp[binOp,Op.intArith,Op.intBits,Op.intCmp],rfl,rfl,λ_ h=>h⟩
theorem Zp6{op:BinOp}{x y:ByteArray}{t:TypeId}{c:C}(h:strBin op x y=some (true,c)):
  ∃v,(binOp op t (.string x) (.string y)).run P w=.ok v w∧cRep w S M L c v:=by
 cases op<;>simp only[strBin,Option.some.injEq,Prod.mk.injEq,reduceCtorEq]at h
 case add=>
  obtain⟨h1,rfl⟩:=h;have h2:x.size+y.size≤9223372036854775807:=by simpa using h1
  exact⟨.string (x++y),by simp only[binOp];exact run_string_add_sum w x y h2,rfl,rfl,λ_ h=>h⟩
 all_goals
  obtain⟨h1,rfl⟩:=h;exact⟨_,by simp[binOp,Op.stringOp],rfl,rfl,λ_ h=>h⟩
theorem Zbi{op:BinOp}{t:TypeId}{x y:Operand}{a b:Value}(ha:a≠.nilIface)(ha':∀cs,a≠.agg cs):(eqGuard op t x y a b).run P w=.ok () w:=by
 unfold eqGuard;cases op<;>first
  |rfl
  |(cases a<;>first|rfl|exact absurd rfl ha|exact absurd rfl (ha' _))
end
end Go.Ev
