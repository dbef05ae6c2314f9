/- What a function's evaluation says of the machine: the contract. -/
import Derived.Test.YtihhlajibgoemaaGreatEvEnter
namespace Go.Ev
open Go.RowKit
set_option linter.unusedVariables false
set_option linter.unusedSimpArgs false
section
variable (P : Program) (w : World) (S : FP)
def aggOk(t:TypeId)(v:Value):Prop:=if isAggB P t=true then ∃vs,v=.agg vs else v.oneCell'=true
def argRep(t:TypeId):Mode→List D→Value→FP→Prop
 |.lend,row,v,F=>(∀b,¬F b)∧aggOk P t v∧datRep w S row v.cells.toList F
 |.give,row,v,F=>aggOk P t v∧datRep w S row v.cells.toList F
 |.ro,row,v,F=>(∀b,¬F b)∧∃B off,v=.pointer (some ⟨B,off,none⟩)∧repRow w S row B off F∧(row=[]∨S B)
 |.inout _ _,row,v,F=>∃B off F',v=.pointer (some ⟨B,off,none⟩)∧repRow w S row B off F'∧¬F' B∧(∀b,F b↔b=B∨F' b)∧ownBlk w B (off+row.length)
def argsRep:List (Mode×TypeId)→List (List D)→List Value→FP→Prop
 |[],[],[],F=>∀b,¬F b
 |(m,t)::ms,row::rows,v::vs,F=>∃F1 F2,argRep P w S t m row v F1∧argsRep ms rows vs F2∧(∀b,F b↔F1 b∨F2 b)∧∀b,F1 b→¬F2 b
 |_,_,_,_=>False
def backRep:List (Mode×TypeId)→List Value→List (List D)→FP→Prop
 |[],[],[],F=>∀b,¬F b
 |(.inout _ _,_)::ms,v::vs,row::rows,F=>∃(B off:Nat) (F' F1 F2:FP),v=.pointer (some ⟨B,off,none⟩)∧repRow w S row B off F'∧¬F' B∧(∀b,F1 b↔b=B∨F' b)∧backRep ms vs rows F2∧(∀b,F b↔F1 b∨F2 b)∧∀b,F1 b→¬F2 b
 |(.inout _ _,_)::_,_,_,_=>False
 |_::ms,_::vs,rows,F=>backRep ms vs rows F
 |_,_,_,_=>False
def outOne(t:TypeId)(row:List D)(v:Value)(F:FP):Prop:=
 if isPtrB P t=true then ∃B off F',v=.pointer (some ⟨B,off,none⟩)∧repRow w S row B off F'∧¬F' B∧(∀b,F b↔b=B∨F' b)∧ownBlk w B (off+row.length)
 else aggOk P t v∧datRep w S row v.cells.toList F
def outRep:List TypeId→List (List D)→List Value→FP→Prop
 |[],[],[],F=>∀b,¬F b
 |t::ts,row::rows,v::vs,F=>∃F1 F2,outOne P w S t row v F1∧outRep ts rows vs F2∧(∀b,F b↔F1 b∨F2 b)∧∀b,F1 b→¬F2 b
 |_,_,_,_=>False
def resVal:List Value→Value
 |[v]=>v
 |vs=>.tuple vs.toArray
def inWithin(w':World):List (Mode×TypeId)→List (List D)→List Value→Prop
 |(.inout _ p,_)::ms,row::rows,v::vs=>(∀B off,v=.pointer (some ⟨B,off,none⟩)→Within w w' (.slice (some ⟨B,off,none⟩) 1 1) row.length p)∧inWithin w' ms rows vs
 |_::ms,_::rows,_::vs=>inWithin w' ms rows vs
 |_,_,_=>True
end
def mutVals:List Mode→List Bool→List Value→List Value
 |.give::ms,true::mu,v::vs=>v.cells.toList++mutVals ms mu vs
 |_::ms,_::mu,_::vs=>mutVals ms mu vs
 |_,_,_=>[]
def Leaves(P:Program)(w:World)(S F:FP)(mts:List (Mode×TypeId))(mu:List Bool)(rts:List TypeId)(rows:List (List D))(vs:List Value)(out back:List (List D))(v:Value)(w':World):Prop:=
 Below 0 w w'∧(∀b,b<w.heap.size→¬F b→w'.heap[b]?=w.heap[b]?)∧inWithin w w' mts rows vs∧
  ∃us G1 G2 G3,v=resVal us∧outRep P w' S rts out us G1∧backRep w' S mts vs (back.take (inouts (mts.map (·.1)))) G2∧datRep w' S (back.drop (inouts (mts.map (·.1)))).flatten (mutVals (mts.map (·.1)) mu vs) G3∧
   ((∀b,G1 b→¬G2 b)∧∀b,(G1 b∨G2 b)→(F b∨w.heap.size≤b)∧b<w'.heap.size∧¬S b)∧(∀b,G3 b→¬G1 b∧¬G2 b)∧∀b,G3 b→(F b∨w.heap.size≤b)∧b<w'.heap.size∧¬S b
def Sound(P:Program)(H:Hints)(call:CallF):Prop:=
 ∀ f fn rows out back, P.funcs[f]? = some fn → call f rows = some (true, out, back) → (fn.name == "runtime.NumGoroutine") = false ∧ fn.body.isNone = false ∧
  ∀(w:World) (S F:FP) (vs:List Value),(∀b,S b→b<w.heap.size)→(∀b,F b→b<w.heap.size∧¬S b)→
   argsRep P w S ((H.modes f fn.params.size).zip fn.params.toList) rows vs F→
   Calls P f vs.toArray w λe w'=>match e with
    |.returned v=>Leaves P w S F ((H.modes f fn.params.size).zip fn.params.toList) (H.muts f) fn.resultTypes.toList rows vs out back v w'
    |_=>False
structure Since(w0:World)(S F0:FP)(n0:Nat)(M0:Mem)(L0:Lay)(w:World)(M:Mem)(L:Lay):Prop where
 below:Below 0 w0 w
 frame:∀b,b<w0.heap.size→¬F0 b→w.heap[b]?=w0.heap[b]?
 fp:∀r,(M r).live=true→∀b,L.fp r b→F0 b∨w0.heap.size≤b
 within:∀r,r<n0→(M r).live=true→(M0 r).live=true∧L.hd r=L0.hd r∧(M r).box=(M0 r).box∧(M r).sz=(M0 r).sz∧(M r).es.length=(M0 r).es.length∧(M r).pin=(M0 r).pin∧((M0 r).box=true→Within w0 w (L0.hd r) ((M0 r).es.length*(M0 r).sz) (M0 r).pin)
theorem Since.step{w0 w w':World}{S F0:FP}{n0:Nat}{M0 M M':Mem}{L0 L L':Lay}{R:List Nat}{N:Nat→Prop}(h:Since w0 S F0 n0 M0 L0 w M L)(t:Turns w w' S S M M' L L' R N)(hN:∀r,N r→n0≤r):Since w0 S F0 n0 M0 L0 w' M' L':=by
 refine⟨h.below.trans t.below,λb hb hF=>?_,λr hr b hb=>?_,λr hr hl=>?_⟩
 ·refine(t.frame b (Nat.lt_of_lt_of_le hb h.below.size) (λr _ hl hf=>?_)).trans (h.frame b hb hF);rcases h.fp r hl b hf with h1|h1
  ·exact hF h1
  ·omega
 ·rcases t.fp r hr b hb with⟨r',h1,h2⟩|h1
  ·exact h.fp r' h1 b h2
  ·have:=h.below.size;exact .inr (by omega)
 ·have hn:¬N r:=λhx=>by have:=hN r hx;omega
  have hl0:=t.live r hn hl;obtain⟨a1,a2,a3,a4,a5,a7,a6⟩:=h.within r hr hl0;obtain⟨b1,b2,b3,b4,b7,b5⟩:=t.within r hn hl0 hl;refine⟨a1,b1.trans a2,b2.trans a3,b3.trans a4,b4.trans a5,b7.trans a7,?_⟩;intro hx;have b5:=b5 (a3.trans hx);rw[a2,a4,a5,a7]at b5;exact(a6 hx).trans b5
section
variable {P : Program} {w : World} {S : FP}
def bkRep(M:Mem)(L:Lay):List (Mode×TypeId)→List (List D)→List Value→List Nat→Prop
 |[],[],[],[]=>True
 |(.inout _ p,_)::ms,row::rows,v::vs,r::bk=>(M r).live=true∧(M r).box=true∧(M r).sz=row.length∧((M r).es.length=1∧(M r).pin=p)∧(∃B off,v=.pointer (some ⟨B,off,none⟩)∧L.hd r=.slice (some ⟨B,off,none⟩) 1 1)∧bkRep M L ms rows vs bk
 |(.inout _ _,_)::_,_,_,_=>False
 |_::ms,_::rows,_::vs,bk=>bkRep M L ms rows vs bk
 |_,_,_,_=>False
theorem Zm9{M:Mem}{L:Lay}{t:TypeId}{v:Value}{cs:List C}(ha:aggOk P t v)(h:cellsRep w S M L cs v.cells.toList):tvRep w S M L (.v (isAggB P t) cs) v:=by
 unfold aggOk at ha;cases hb:isAggB P t with
 |true=>
  rw[hb]at ha;obtain⟨vs,rfl⟩:=ha;exact⟨vs,rfl,h⟩
 |false=>
  rw[hb]at ha;simp only[Bool.false_eq_true,if_false]at ha;rw[Zcs ha]at h
  match cs,h with
  |[c],h=>exact h.1
theorem Zer{own:Bool}{row:List D}:∀{ls:List Leaf} {k:Nat},(typedRow own row k ls).length=ls.length
 |[],_=>rfl
 |l::ls,k=>by simp[typedRow,Zer (ls:=ls)]
theorem Zka{M M':Mem}{L L':Lay}:∀{mts:List (Mode×TypeId)} {rows:List (List D)} {vs:List Value} {bk:List Nat},(∀r∈bk,M' r=M r∧L'.hd r=L.hd r)→bkRep M L mts rows vs bk→bkRep M' L' mts rows vs bk
 |[],[],[],[],_,h=>h
 |(.inout o p,t)::ms,row::rows,v::vs,r::bk,hs,h=>by
  obtain⟨h1,h2,h3,h4,h5,h6⟩:=h;obtain⟨e1,e2⟩:=hs r (by simp)
  exact⟨by rw[e1];exact h1,by rw[e1];exact h2,by rw[e1];exact h3,by rw[e1];exact h4,by rw[e2];exact h5,Zka (λx hx=>hs x (by simp[hx])) h6⟩
 |(.lend,t)::ms,row::rows,v::vs,bk,hs,h=>Zka (mts:=ms) (rows:=rows) (vs:=vs) hs h
 |(.give,t)::ms,row::rows,v::vs,bk,hs,h=>Zka (mts:=ms) (rows:=rows) (vs:=vs) hs h
 |(.ro,t)::ms,row::rows,v::vs,bk,hs,h=>Zka (mts:=ms) (rows:=rows) (vs:=vs) hs h
 |[],[],[],_::_,_,h=>h.elim
 |[],[],_::_,_,_,h=>h.elim
 |[],_::_,_,_,_,h=>h.elim
 |(.inout _ _,_)::_,[],_,_,_,h=>h.elim
 |(.inout _ _,_)::_,_::_,[],_,_,h=>h.elim
 |(.inout _ _,_)::_,_::_,_::_,[],_,h=>h.elim
 |(.lend,_)::_,[],_,_,_,h=>h.elim
 |(.lend,_)::_,_::_,[],_,_,h=>h.elim
 |(.give,_)::_,[],_,_,_,h=>h.elim
 |(.give,_)::_,_::_,[],_,_,h=>h.elim
 |(.ro,_)::_,[],_,_,_,h=>h.elim
 |(.ro,_)::_,_::_,[],_,_,h=>h.elim
theorem Zh1:∀{mts:List (Mode×TypeId)} {rows:List (List D)} {vs:List Value} {F:FP} {nx:Nat} {M:Mem} {L:Lay} {tvs:List TV} {rs:List Root} {bk:List Nat},argsRep P w S mts rows vs F→MemRep w S M L→(∀r,nx≤r→(M r).born=false)→
  (∀r,(M r).live=true→∀b,F b→¬L.fp r b)→(∀b,F b→b<w.heap.size∧¬S b)→enter P mts rows nx=some (true,tvs,rs,bk)→
  ∃L',Adds w S M (addNew M nx rs) L L' nx rs.length F∧opsRep w S (addNew M nx rs) L' tvs vs∧bkRep (addNew M nx rs) L' mts rows vs bk∧∀r∈bk,newOf nx rs.length r
 |[],[],[],F,nx,M,L,tvs,rs,bk,h,hm,hb,hd,ho,he=>by
  simp only[enter,Option.some.injEq,Prod.mk.injEq,true_and]at he;obtain⟨rfl,rfl,rfl⟩:=he;exact⟨L,Adds.none hm nx F,trivial,trivial,by simp⟩
 |(m,t)::ms,row::rows,v::vs,F,nx,M,L,tvs,rs,bk,⟨F1,F2,h1,h2,h3,h4⟩,hm,hb,hd,ho,he=>by
  have step:∀{tv:TV} {r1 r2:List Root} {tvs2:List TV} {bk2:List Nat} {L1:Lay},Adds w S M (addNew M nx r1) L L1 nx r1.length F1→tvRep w S (addNew M nx r1) L1 tv v→enter P ms rows (nx+r1.length)=some (true,tvs2,r2,bk2)→
    ∃L',Adds w S M (addNew M nx (r1++r2)) L L' nx (r1++r2).length F∧opsRep w S (addNew M nx (r1++r2)) L' (tv::tvs2) (v::vs)∧bkRep (addNew M nx (r1++r2)) L' ms rows vs bk2∧(∀r∈bk2,newOf (nx+r1.length) r2.length r)∧
     ∀r,newOf nx r1.length r→(addNew M nx (r1++r2)) r=(addNew M nx r1) r∧L'.hd r=L1.hd r:=by
   intro tv r1 r2 tvs2 bk2 L1 a1 c1 he2;have hb1:∀r,nx+r1.length≤r→(addNew M nx r1 r).born=false:=λr hr=>by
    rw[Zbq (by unfold newOf;omega)];exact hb r (by omega)
   obtain⟨L2,a2,c2,b2,n2⟩:=Zh1 (M:=addNew M nx r1) (L:=L1) h2 a1.rep hb1 (λr hr b hf=>by
    by_cases hn:newOf nx r1.length r
    ·exact λhx=>h4 b (a1.fp r hn b hx) hf
    ·obtain⟨e1,_,e3⟩:=a1.old r hn;rw[e1]at hr;rw[e3];exact hd r hr b ((h3 b).2 (.inr hf))) (λb hf=>ho b ((h3 b).2 (.inr hf))) he2
   have a3:=Adds.trans (F:=F) a1 a2 (λb hf=>(h3 b).2 (.inl hf)) (λb hf=>(h3 b).2 (.inr hf));have heq:=Zch M nx r1 r2;have hc:=Zcg (λc v hc=>a2.cRep (λr hr=>hb1 r hr.1) hc) (Zg2 (a2.keeps (λr hr=>hb1 r hr.1))) c1;refine⟨L2,a3,?_,?_,n2,λr hr=>?_⟩
   ·rw[←heq];exact⟨hc,c2⟩
   ·rw[←heq];exact b2
   ·obtain⟨e1,e2,_⟩:=a2.old r (λh=>by unfold newOf at h hr;omega)
    rw[←heq];exact⟨e1,e2⟩
  have frame:∀(own:Bool),aggOk P t v→datRep w S row v.cells.toList F1→fits own (leaves P 9 t) row=true→
    ∃L1,Adds w S M (addNew M nx (frameCells own (typedRow own row 0 (leaves P 9 t)) nx).2) L L1 nx (frameCells own (typedRow own row 0 (leaves P 9 t)) nx).2.length F1∧tvRep w S (addNew M nx (frameCells own (typedRow own row 0 (leaves P 9 t)) nx).2) L1 (.v (isAggB P t) (frameCells own (typedRow own row 0 (leaves P 9 t)) nx).1) v:=by
   intro own ha hdt hf;rw[Zey hf];obtain⟨L1,a1,c1⟩:=Zc8 (nx:=nx) hf hdt hm (λr hr=>hb r hr.1) (λr hr b hx=>hd r hr b ((h3 b).2 (.inl hx))) (λb hx=>ho b ((h3 b).2 (.inl hx)));exact⟨L1,a1,Zm9 ha c1⟩
  cases m with
  |ro=>
   simp only[enter]at he;split at he
   ·rename_i b tvs2 rs2 bk2 he2;simp only[Option.some.injEq,Prod.mk.injEq]at he;obtain⟨rfl,rfl,rfl,rfl⟩:=he;obtain⟨hF1,B,off,rfl,hr,hS⟩:=h1;have hro:tvRep w S (addNew M nx []) L (.v false [.rptr row]) (.pointer (some ⟨B,off,none⟩)):=⟨B,off,rfl,Zgn hr (λb=>⟨λh=>hF1 b h,λh=>h.elim⟩),hS⟩;obtain⟨L',a,c,b,n,_⟩:=step (r1:=[]) (Adds.none hm nx F1) hro he2;exact⟨L',a,c,b,λr hr=>n r hr⟩
   ·cases he
  |inout o p=>
   simp only[enter]at he;split at he
   ·rename_i b tvs2 rs2 bk2 he2;simp only[Option.some.injEq,Prod.mk.injEq,Bool.and_eq_true]at he;obtain⟨⟨hf,rfl⟩,rfl,rfl,rfl⟩:=he;obtain⟨B,off,F',rfl,hr,hnB,hFB,hblk⟩:=h1;rw[Zey hf];have hrep:repD w S (rootD { box:=true,sz:=row.length,es:=[row],pin:=p }) (.slice (some ⟨B,off,none⟩) 1 1) F1:=
     ⟨_,1,rfl,Nat.le_refl _,.inr ⟨B,off,F',rfl,⟨F',λ_=>False,rfl,hr,λ_ h=>h,λb=>by simp,λ_ _ h=>h⟩,.inl ⟨rfl,hnB,hFB,⟨by simpa using hblk,by omega⟩⟩⟩⟩
    have a1:=Adds.one (nx:=nx) (x:={ box:=true,sz:=row.length,es:=[row],pin:=p }) hm (hb nx (Nat.le_refl _)) rfl rfl hrep (λb hx=>ho b ((h3 b).2 (.inl hx))) (λr hr b hx=>hd r hr b ((h3 b).2 (.inl hx)));have hpt:tvRep w S (addNew M nx [{ box:=true,sz:=row.length,es:=[row],pin:=p }]) ⟨λk=>if k=nx then .slice (some ⟨B,off,none⟩) 1 1 else L.hd k,λk=>if k=nx then F1 else L.fp k⟩ (.v false [.ptr nx 0 0 [] row.length 0 0]) (.pointer (some ⟨B,off,none⟩)):=by
     refine⟨by rw[Zbu];simp,⟨_,_,rfl⟩,λ_ _=>⟨[row],B,off,1,1,?_,by simp,by simp⟩⟩
     rw[Zbu];simp only[if_true];exact .nil _ _
    obtain⟨L',a,c,b,n,k⟩:=step (r1:=[{ box:=true,sz:=row.length,es:=[row],pin:=p }]) a1 hpt he2;obtain⟨k1,k2⟩:=k nx (by unfold newOf;simp)
    refine⟨L',a,c,?_,λr hr=>?_⟩
    ·have e1:addNew M nx ([{ box:=true,sz:=row.length,es:=[row],pin:=p }]++rs2) nx={ box:=true,sz:=row.length,es:=[row],pin:=p }:=by rw[k1,Zbu];simp
     refine⟨?_,?_,?_,?_,⟨B,off,rfl,by rw[k2];simp⟩,b⟩
     ·show(addNew M nx ([{ box:=true,sz:=row.length,es:=[row],pin:=p }]++rs2) nx).live=true;rw[e1]
     ·show(addNew M nx ([{ box:=true,sz:=row.length,es:=[row],pin:=p }]++rs2) nx).box=true;rw[e1]
     ·show(addNew M nx ([{ box:=true,sz:=row.length,es:=[row],pin:=p }]++rs2) nx).sz=_;rw[e1]
     ·show(addNew M nx ([{ box:=true,sz:=row.length,es:=[row],pin:=p }]++rs2) nx).es.length=_∧(addNew M nx ([{ box:=true,sz:=row.length,es:=[row],pin:=p }]++rs2) nx).pin=p;rw[e1];exact⟨rfl,rfl⟩
    ·rcases List.mem_cons.1 hr with rfl|hr
     ·unfold newOf;simp
     ·have:=n r hr;unfold newOf at this ⊢;simp at this ⊢;omega
   ·cases he
  |lend=>
   simp only[enter]at he;split at he
   ·rename_i b tvs2 rs2 bk2 he2;simp only[Option.some.injEq,Prod.mk.injEq,Bool.and_eq_true]at he;obtain⟨⟨hf,rfl⟩,rfl,rfl,rfl⟩:=he;obtain⟨L1,a1,c1⟩:=frame false h1.2.1 h1.2.2 hf;obtain⟨L',a,c,b,n,_⟩:=step a1 c1 he2;exact⟨L',a,c,b,λr hr=>by have:=n r hr;unfold newOf at this ⊢;rw[List.length_append];omega⟩
   ·cases he
  |give=>
   simp only[enter]at he;split at he
   ·rename_i b tvs2 rs2 bk2 he2;simp only[Option.some.injEq,Prod.mk.injEq,Bool.and_eq_true]at he;obtain⟨⟨hf,rfl⟩,rfl,rfl,rfl⟩:=he;obtain⟨L1,a1,c1⟩:=frame true h1.1 h1.2 hf;obtain⟨L',a,c,b,n,_⟩:=step a1 c1 he2;exact⟨L',a,c,b,λr hr=>by have:=n r hr;unfold newOf at this ⊢;rw[List.length_append];omega⟩
   ·cases he
 |[],[],_::_,_,_,_,_,_,_,_,h,_,_,_,_,_=>h.elim
 |[],_::_,_,_,_,_,_,_,_,_,h,_,_,_,_,_=>h.elim
 |_::_,[],_,_,_,_,_,_,_,_,h,_,_,_,_,_=>h.elim
 |_::_,_::_,[],_,_,_,_,_,_,_,h,_,_,_,_,_=>h.elim
end
end Go.Ev
