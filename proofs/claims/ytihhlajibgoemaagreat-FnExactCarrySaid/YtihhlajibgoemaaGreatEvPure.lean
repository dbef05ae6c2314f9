/- What the operations that write nothing give. -/
import Derived.Test.YtihhlajibgoemaaGreatEvMove
namespace Go.Ev
set_option linter.unusedVariables false
set_option linter.unusedSimpArgs false
section
variable {P : Program} {w : World} {S : FP} {M : Mem} {L : Lay}
def opsRep(w:World)(S:FP)(M:Mem)(L:Lay):List TV→List Value→Prop
 |[],[]=>True
 |x::xs,v::vs=>tvRep w S M L x v∧opsRep w S M L xs vs
 |_,_=>False
theorem Zd6:∀{xs:List TV} {vs:List Value},opsRep w S M L xs vs→xs.length=vs.length
 |[],[],_=>rfl
 |_::_,_::_,h=>by simp[Zd6 h.2]
 |[],_::_,h=>h.elim
 |_::_,[],h=>h.elim
theorem Znq{d:D}{v:Value}{F:FP}(h:repD w S d v F)(hd:d.here=true):v.oneCell'=true:=by
 cases d with
 |int k n=>rw[h.1];rfl
 |bool b=>rw[h.1];rfl
 |str s=>rw[h.1];rfl
 |dead=>cases hd
 |sl o n es=>obtain⟨A,cap,rfl,_⟩:=h;rfl
theorem Zev{c:C}{v:Value}(h:cRep w S M L c v)(hc:c.solid=true):v.oneCell'=true:=by
 cases c with
 |d x=>exact Znq h.2 h.1
 |view=>obtain⟨_,⟨A,n,c,rfl⟩,_⟩:=h;rfl
 |ptr=>obtain⟨_,⟨B,o,rfl⟩,_⟩:=h;rfl
 |rptr xs=>obtain⟨B,off,rfl,_⟩:=h;rfl
 |nils n=>rw[show v=_ from h];rfl
 |undef=>cases hc
 |gone=>cases hc
 |nz p=>obtain⟨b,rfl,_⟩:=h;rfl
theorem Zcs{v:Value}(h:v.oneCell'=true):v.cells=#[v]:=by
 cases v<;>first|rfl|cases h
theorem Zt2{x:TV}{v:Value}{cs:List C}(h:tvRep w S M L x v)(hp:x.parts=some cs):cellsRep w S M L cs v.cells.toList:=by
 cases x with
 |tup vs=>cases hp
 |cp r cs=>cases hp
 |v a xs=>
  cases a with
  |true=>
   simp only[TV.parts,Option.some.injEq]at hp;subst hp;obtain⟨vs,rfl,h⟩:=h;exact h
  |false=>
   match xs,h,hp with
   |[c],h,hp=>
    have hc:c.solid=true:=by cases c<;>first|rfl|simp[TV.parts]at hp
    have:cs=[c]:=by cases c<;>simp[TV.parts]at hp<;>exact hp.symm
    subst this;rw[Zcs (Zev h hc)];exact⟨h,trivial⟩
theorem Zp9{t:TypeId}{d:TypeDesc}(h:P.underlying t=some d):∃i,P.info? t=some i:=by
 unfold Program.underlying at h;cases hi:P.info? t with
 |none=>rw[hi]at h;cases h
 |some i=>exact⟨i,rfl⟩
theorem Zku{t:TypeId}{d:TypeDesc}(h:P.underlying t=some d)(w:World):(sizeOf t).run P w=.ok (P.cellsOf t) w:=by
 obtain⟨i,hi⟩:=Zp9 h;simp[sizeOf,typeInfo,hi,Program.cellsOf]
theorem Ziv{t:TypeId}{d:TypeDesc}(h:P.underlying t=some d)(w:World):(isAgg t).run P w=.ok (isAggB P t) w:=by
 unfold isAgg isAggB;rw[Sem.run_bind,run_underlying h,Result.andThen_ok,h];cases d<;>rfl
theorem Zei{k:IntKind}{o:Bool}{x:D}(h:(Leaf.int k).fit o x=true):∃n,x=.int k n:=by
 cases x<;>simp[Leaf.fit]at h;subst h;exact⟨_,rfl⟩
theorem Zex{o:Bool}{x:D}(h:Leaf.bool.fit o x=true):∃n,x=.bool n:=by
 cases x<;>simp[Leaf.fit]at h;exact⟨_,rfl⟩
theorem Zg0{o:Bool}{x:D}(h:Leaf.str.fit o x=true):∃n,x=.str n:=by
 cases x<;>simp[Leaf.fit]at h;exact⟨_,rfl⟩
theorem Zjf{n:Nat}{f o:Bool}{x:D}(h:(Leaf.sl n f).fit o x=true):∃es,x=.sl o n es:=by
 cases x<;>simp[Leaf.fit]at h;obtain⟨rfl,rfl⟩:=h;exact⟨_,rfl⟩
theorem Znr{n:Nat}{es:List (List D)}{v:Value}{F:FP}(h:repD w S (.sl false n es) v F):repD w S (.sl false n es) v (λ_=>False):=by
 refine Zhb h (λb=>⟨λhb=>?_,λhb=>hb.elim⟩);obtain⟨A,cap,rfl,hc,h⟩:=h;rcases h with⟨_,_,_,h⟩|⟨B,off,F',_,_,h⟩
 ·exact h b hb
 ·rcases h with⟨ho,_⟩|⟨_,h,_⟩
  ·cases ho
  ·exact h b hb
theorem Zi8{box:Bool}{x:D}{u:Value}{F:FP}{view:Nat→C}{l:Leaf}{c:C}(hx:repD w S x u F)(he:loadCell box x view l=some (true,c))
  (hv:∀n es,x=.sl true n es→cRep w S M L (view n) u):cRep w S M L c u:=by
 cases l with
 |int k=>
  simp only[loadCell,Option.some.injEq,Prod.mk.injEq]at he;obtain⟨h1,rfl⟩:=he;obtain⟨n,rfl⟩:=Zei h1;exact⟨rfl,hx.1,λ_ h=>h⟩
 |bool=>
  simp only[loadCell,Option.some.injEq,Prod.mk.injEq]at he;obtain⟨h1,rfl⟩:=he;obtain⟨n,rfl⟩:=Zex h1;exact⟨rfl,hx.1,λ_ h=>h⟩
 |str=>
  simp only[loadCell,Option.some.injEq,Prod.mk.injEq]at he;obtain⟨h1,rfl⟩:=he;obtain⟨n,rfl⟩:=Zg0 h1;exact⟨rfl,hx.1,λ_ h=>h⟩
 |other=>cases he
 |sl n f=>
  cases box with
  |true=>
   simp only[loadCell]at he;split at he
   ·split at he
    ·simp only[Option.some.injEq,Prod.mk.injEq]at he;obtain⟨_,rfl⟩:=he;exact⟨rfl,Znr hx⟩
    ·cases he
   ·split at he
    ·rename_i hn;simp only[Option.some.injEq,Prod.mk.injEq]at he;obtain⟨_,rfl⟩:=he;subst hn;exact hv _ _ rfl
    ·cases he
   ·simp only[Option.some.injEq,Prod.mk.injEq]at he;obtain⟨_,rfl⟩:=he;trivial
  |false=>
   simp only[loadCell,Option.some.injEq,Prod.mk.injEq]at he;obtain⟨h1,rfl⟩:=he;obtain⟨es,rfl⟩:=Zjf h1;exact hv _ _ rfl
theorem Zcb{ds:List D}{B off:Nat}{F:FP}(h:repRow w S ds B off F)(j:Nat)(hj:j<ds.length):∃u G,w.cell? ⟨B,off+j,none⟩=some u∧repD w S (ds.getD j .dead) u G∧∀b,G b→F b:=by
 obtain⟨u,G,R,h1,h2,h3,_⟩:=Zf2 j h hj;exact⟨u,G,h1,h2,λb hb=>(h3 b).2 (.inl hb)⟩
theorem Zel{box:Bool}{row:List D}{B off:Nat}{F:FP}{view:Nat→Nat→C}(hr:repRow w S row B off F)
  (hv:∀jj n es u,row.getD jj .dead=.sl true n es→w.cell? ⟨B,off+jj,none⟩=some u→cRep w S M L (view jj n) u):
  ∀(ls:List Leaf) (j:Nat) {cs:List C},loadCells box row view j ls=some (true,cs)→j+ls.length≤row.length→
   ∃us:List Value,us.length=ls.length∧cs.length=ls.length∧(∀k v,us[k]?=some v→w.cell? ⟨B,off+j+k,none⟩=some v)∧cellsRep w S M L cs us
 |[],j,cs,he,hl=>by
  simp only[loadCells,Option.some.injEq,Prod.mk.injEq]at he;obtain⟨_,rfl⟩:=he;exact⟨[],rfl,rfl,by simp,trivial⟩
 |l::ls,j,cs,he,hl=>by
  simp only[loadCells]at he;split at he
  ·rename_i b c h1;split at he
   ·rename_i b' cs' h2;simp only[Option.some.injEq,Prod.mk.injEq,Bool.and_eq_true]at he;obtain⟨⟨rfl,rfl⟩,rfl⟩:=he;obtain⟨us,l1,l2,hc,hr2⟩:=Zel hr hv ls (j+1) h2 (by simp at hl;omega)
    obtain⟨u,G,hu,hd,_⟩:=Zcb hr j (by simp at hl;omega)
    refine⟨u::us,by simp[l1],by simp[l2],λk v hk=>?_,Zi8 hd h1 (λn es hx=>hv j n es u hx hu),hr2⟩
    cases k with
    |zero=>simp at hk;subst hk;exact hu
    |succ k=>
     have:=hc k v (by simpa using hk)
     rw[show off+j+(k+1)=off+(j+1)+k by omega]
     exact this
   ·cases he
  ·cases he
theorem Zem{row:List D}{B off:Nat}{F:FP}(hr:repRow w S row B off F):
  ∀(ls:List Leaf) (j:Nat) {cs:List C},loadRo row j ls=some (true,cs)→
   ∃us:List Value,us.length=ls.length∧cs.length=ls.length∧(∀k v,us[k]?=some v→w.cell? ⟨B,off+j+k,none⟩=some v)∧cellsRep w S M L cs us
 |[],j,cs,he=>by
  simp only[loadRo,Option.some.injEq,Prod.mk.injEq]at he;obtain⟨_,rfl⟩:=he;exact⟨[],rfl,rfl,by simp,trivial⟩
 |l::ls,j,cs,he=>by
  simp only[loadRo]at he;split at he
  ·rename_i b c h1;split at he
   ·rename_i b' cs' h2;simp only[Option.some.injEq,Prod.mk.injEq,Bool.and_eq_true]at he;obtain⟨⟨rfl,rfl⟩,rfl⟩:=he;obtain⟨us,l1,l2,hc,hr2⟩:=Zem hr ls (j+1) h2;have hj:j<row.length:=Zci (z:=.dead) (λh=>by
     rw[h]at h1;cases l<;>simp[Leaf.fit]at h1)
    obtain⟨u,G,hu,hd,hG⟩:=Zcb hr j hj;have hd0:repD w S (row.getD j .dead) u (λ_=>False):=by
     cases l with
     |int k=>
      simp only[Option.some.injEq,Prod.mk.injEq]at h1;obtain⟨n,hx⟩:=Zei h1.1;rw[hx]at hd⊢;exact⟨hd.1,λ_ h=>h⟩
     |bool=>
      simp only[Option.some.injEq,Prod.mk.injEq]at h1;obtain⟨n,hx⟩:=Zex h1.1;rw[hx]at hd⊢;exact⟨hd.1,λ_ h=>h⟩
     |str=>
      simp only[Option.some.injEq,Prod.mk.injEq]at h1;obtain⟨n,hx⟩:=Zg0 h1.1;rw[hx]at hd⊢;exact⟨hd.1,λ_ h=>h⟩
     |sl n f=>
      simp only[Option.some.injEq,Prod.mk.injEq]at h1;obtain⟨es,hx⟩:=Zjf h1.1;rw[hx]at hd⊢;exact Znr hd
     |other=>cases h1
    refine⟨u::us,by simp[l1],by simp[l2],λk v hk=>?_,?_,hr2⟩
    ·cases k with
     |zero=>simp at hk;subst hk;exact hu
     |succ k=>
      have:=hc k v (by simpa using hk)
      rw[show off+j+(k+1)=off+(j+1)+k by omega]
      exact this
    ·cases l with
     |int k=>
      simp only[Option.some.injEq,Prod.mk.injEq]at h1;obtain⟨h1,rfl⟩:=h1;obtain⟨n,hx⟩:=Zei h1;rw[hx]at hd0⊢;exact⟨rfl,hd0.1,λ_ h=>h⟩
     |bool=>
      simp only[Option.some.injEq,Prod.mk.injEq]at h1;obtain⟨h1,rfl⟩:=h1;obtain⟨n,hx⟩:=Zex h1;rw[hx]at hd0⊢;exact⟨rfl,hd0.1,λ_ h=>h⟩
     |str=>
      simp only[Option.some.injEq,Prod.mk.injEq]at h1;obtain⟨h1,rfl⟩:=h1;obtain⟨n,hx⟩:=Zg0 h1;rw[hx]at hd0⊢;exact⟨rfl,hd0.1,λ_ h=>h⟩
     |other=>cases h1
     |sl n f=>
      simp only[Option.some.injEq,Prod.mk.injEq]at h1;obtain⟨h1,rfl⟩:=h1;obtain⟨es,hx⟩:=Zjf h1;rw[hx]at hd0⊢;exact⟨rfl,hd0⟩
   ·cases he
  ·cases he
theorem Zbv(B off k:Nat):(⟨B,off,none⟩:Addr).add k=⟨B,off+k,none⟩:=by
 unfold Addr.add;split
 ·rename_i h;subst h;rfl
 ·rfl
theorem Zeb{t:TypeId}{d:TypeDesc}{B off:Nat}{us:List Value}{cs:List C}(hu:P.underlying t=some d)(hl:us.length=P.cellsOf t)(hc:∀k v,us[k]?=some v→w.cell? ⟨B,off+k,none⟩=some v)
  (hr:cellsRep w S M L cs us) (h1:isAggB P t=false→cs.length=1):∃v,(loadVar t ⟨B,off,none⟩).run P w=.ok v w∧tvRep w S M L (.v (isAggB P t) cs) v:=by
 unfold loadVar;rw[Sem.run_bind,Ziv hu,Result.andThen_ok];cases ha:isAggB P t with
 |true=>
  have:=run_loadCells_list (P:=P) w ⟨B,off,none⟩ us (λj v hj=>by rw[Zbv];exact hc j v hj)
  rw[hl]at this;refine⟨.agg us.toArray,?_,us.toArray,rfl,by simpa using hr⟩
  simp[Zku hu,this]
 |false=>
  have h2:=Zbn hr;rw[h1 ha]at h2
  match us,h2,hr with
  |[u],_,hr=>
   have h3:=hc 0 u rfl;rw[Nat.add_zero]at h3
   match cs,hr with
   |[c],hr=>exact⟨u,by simp[h3],hr.1⟩
theorem Zhk{t:TypeId}(h:P.underlying t=none):litLeaves P t=[.other]:=by
 unfold litLeaves leaves;rw[h]
theorem Zmi{d:D}{v:Value}{q:Path}{n:Nat}{es:List (List D)}{B off len cap i j:Nat}{v1:Value}(h:HeadAt w d v q (.sl true n es) (.slice (some ⟨B,off,none⟩) len cap))
  (hi:i<es.length) (hj:j<(es.getD i []).length) (hc:w.cell? ⟨B,off+i*n+j,none⟩=some v1):HeadAt w d v (q++[(i,j)]) ((es.getD i []).getD j .dead) v1:=by
 generalize hd':D.sl true n es=d' at h;generalize hv':Value.slice (some ⟨B,off,none⟩) len cap=v' at h;induction h with
 |nil d v=>subst hd' hv';exact .cons hi hj hc (.nil _ _)
 |cons hi2 hj2 hc2 hp ih=>exact .cons hi2 hj2 hc2 (ih hd' hv')
end
end Go.Ev
