/- What is owned, in memory; a frame's cells; what stays known of them. -/
import Derived.Test.YtihhlajibgoemaaGreatEvPath
namespace Go.Ev
set_option linter.unusedVariables false
abbrev Mem:=Nat→Root
structure Lay where
 hd:Nat→Value
 fp:Nat→FP
def rootD(x:Root):D:=.sl true x.sz x.es
structure MemRep(w:World)(S:FP)(M:Mem)(L:Lay):Prop where
 rep:∀r,(M r).live=true→repD w S (rootD (M r)) (L.hd r) (L.fp r)
 born:∀r,(M r).live=true→(M r).born=true
 own:∀r,(M r).live=true→∀b,L.fp r b→b<w.heap.size∧¬S b
 apart:∀r r',(M r).live=true→(M r').live=true→r≠r'→∀b,L.fp r b→¬L.fp r' b
 lent:∀b,S b→b<w.heap.size
def subHead(A:Option Addr)(len cap sz:Nat):Option (Nat×Nat)→Value→Prop
 |none,v=>v=.slice A len cap
 |some (o,n),v=>o+n≤len∧((A=none∧n=0∧v=.slice none 0 0)∨
  ∃B off off' cap',A=some ⟨B,off,none⟩∧v=.slice (some ⟨B,off',none⟩) n cap'∧n≤cap'∧(n=0∨off'=off+o*sz)∧off≤off'∧off'+cap'*sz≤off+cap*sz∧cap'≤cap)
def D.here:D→Bool |.dead=>false|_=>true
def cRep(w:World)(S:FP)(M:Mem)(L:Lay):C→Value→Prop
 |.d x,v=>x.here=true∧repD w S x v (λ_=>False)
 |.view r ga gh q sz sub,v=>((M r).born=true∧gh≤(M r).gh)∧(∃A n c,v=.slice A n c)∧(okView (M r) ga gh q=true→pathOk (M r).es q=true→
  ∃es A len cap,HeadAt w (rootD (M r)) (L.hd r) q (.sl true sz es) (.slice A len cap)∧subHead A len cap sz sub v)
 |.ptr r ga gh q sz i j,v=>((M r).born=true∧gh≤(M r).gh)∧(∃B o,v=.pointer (some ⟨B,o,none⟩))∧(okView (M r) ga gh q=true→pathOk (M r).es q=true→
  ∃es B off len cap,HeadAt w (rootD (M r)) (L.hd r) q (.sl true sz es) (.slice (some ⟨B,off,none⟩) len cap)∧i<es.length∧v=.pointer (some ⟨B,off+i*sz+j,none⟩))
 |.rptr xs,v=>∃B off,v=.pointer (some ⟨B,off,none⟩)∧repRow w S xs B off (λ_=>False)∧(xs=[]∨S B)
 |.nils _,v=>v=.slice none 0 0
 |.undef,_=>True
 |.gone,v=>v=Go.undef
 |.nz p,v=>∃b:Bool,v=.bool b∧(b=true→p=true)
def cellsRep(w:World)(S:FP)(M:Mem)(L:Lay):List C→List Value→Prop
 |[],[]=>True
 |c::cs,v::vs=>cRep w S M L c v∧cellsRep w S M L cs vs
 |_,_=>False
def tvRep1(w:World)(S:FP)(M:Mem)(L:Lay):Bool→List C→Value→Prop
 |true,cs,v=>∃vs:Array Value,v=.agg vs∧cellsRep w S M L cs vs.toList
 |false,cs,v=>match cs with|[c]=>cRep w S M L c v|_=>False
def tupRep(w:World)(S:FP)(M:Mem)(L:Lay):List (Bool×List C)→List Value→Prop
 |[],[]=>True
 |x::xs,v::vs=>tvRep1 w S M L x.1 x.2 v∧tupRep w S M L xs vs
 |_,_=>False
def tvRep(w:World)(S:FP)(M:Mem)(L:Lay):TV→Value→Prop
 |.v a cs,v=>tvRep1 w S M L a cs v
 |.tup xs,v=>∃vs:Array Value,v=.tuple vs∧tupRep w S M L xs vs.toList
 |.cp r cs,v=>((M r).born=true∧(M r).frz=true)∧(∃B o,v=.pointer (some ⟨B,o,none⟩))∧∃vs:List Value,cellsRep w S M L cs vs∧((M r).live=true→
  ∃B off off0 len cap,v=.pointer (some ⟨B,off,none⟩)∧L.hd r=.slice (some ⟨B,off0,none⟩) len cap∧∀(k:Nat) (u:Value),vs[k]?=some u→w.cell? ⟨B,off+k,none⟩=some u)
def KeepF(w w':World)(x x':Root)(h h':Value):Prop:=
 x.frz=true→x'.frz=true∧(x'.live=true→x.live=true∧h'=h∧∀B off len cap,h=.slice (some ⟨B,off,none⟩) len cap→w'.heap[B]?=w.heap[B]?)
theorem KeepF.no{w w':World}{x x':Root}{h h':Value}(hx:x.frz=false):KeepF w w' x x' h h':=λh=>by rw[hx]at h;cases h
def Keeps(w w':World)(x x':Root)(h h':Value):Prop:=
 x.born=true→(x'.born=true∧x.gh≤x'.gh)∧(∀ga gh q,gh≤x.gh→okView x' ga gh q=true→pathOk x'.es q=true→okView x ga gh q=true∧pathOk x.es q=true∧
  ∀sz es v,HeadAt w (rootD x) h q (.sl true sz es) v→∃es',es'.length=es.length∧HeadAt w' (rootD x') h' q (.sl true sz es') v)∧KeepF w w' x x' h h'
theorem Zbw{w w':World}{S S':FP}{M M':Mem}{L L':Lay}(hS:∀b,S b→S' b∧w'.heap[b]?=w.heap[b]?)
  (hM:∀r,Keeps w w' (M r) (M' r) (L.hd r) (L'.hd r)) {c:C} {v:Value} (h:cRep w S M L c v):cRep w' S' M' L' c v:=by
 cases c with
 |d x=>exact⟨h.1,Zbp hS h.2 (λb hb=>hb.elim)⟩
 |view r ga gh q sz sub=>
  obtain⟨⟨hb,hgh⟩,h1,h⟩:=h;obtain⟨⟨k1,k3⟩,k2,_⟩:=hM r hb;refine⟨⟨k1,Nat.le_trans hgh k3⟩,h1,λho hp=>?_⟩;obtain⟨a1,a2,a3⟩:=k2 ga gh q hgh ho hp;obtain⟨es,A,len,cap,h1,h2⟩:=h a1 a2;obtain⟨es',_,h3⟩:=a3 _ _ _ h1;exact⟨es',A,len,cap,h3,h2⟩
 |ptr r ga gh q sz i j=>
  obtain⟨⟨hb,hgh⟩,h1,h⟩:=h;obtain⟨⟨k1,k3⟩,k2,_⟩:=hM r hb;refine⟨⟨k1,Nat.le_trans hgh k3⟩,h1,λho hp=>?_⟩;obtain⟨a1,a2,a3⟩:=k2 ga gh q hgh ho hp;obtain⟨es,B,off,len,cap,h1,h2,h3⟩:=h a1 a2;obtain⟨es',hl,h4⟩:=a3 _ _ _ h1;exact⟨es',B,off,len,cap,h4,by omega,h3⟩
 |rptr xs=>
  obtain⟨B,off,h1,h2,h3⟩:=h;rcases h3 with h3|h3
  ·subst h3;exact⟨B,off,h1,h2,.inl rfl⟩
  ·exact⟨B,off,h1,Zdd hS h2 (λb hb=>hb.elim) (hS B h3).2,.inr (hS B h3).1⟩
 |nils n=>exact h
 |undef=>trivial
 |gone=>exact h
 |nz p=>exact h
section
variable {w w' : World} {S S' : FP} {M M' : Mem} {L L' : Lay}
theorem Zb0(hc:∀c v,cRep w S M L c v→cRep w' S' M' L' c v):∀{cs:List C} {vs:List Value},cellsRep w S M L cs vs→cellsRep w' S' M' L' cs vs
 |[],[],_=>trivial
 |c::cs,v::vs,h=>⟨hc c v h.1,Zb0 hc h.2⟩
 |[],_::_,h=>h.elim
 |_::_,[],h=>h.elim
theorem Zed(hc:∀c v,cRep w S M L c v→cRep w' S' M' L' c v){a:Bool}{cs:List C}{v:Value}(h:tvRep1 w S M L a cs v):tvRep1 w' S' M' L' a cs v:=by
 cases a with
 |true=>obtain⟨vs,h1,h2⟩:=h;exact⟨vs,h1,Zb0 hc h2⟩
 |false=>
  match cs,h with
  |[c],h=>exact hc c v h
theorem Zi5(hc:∀c v,cRep w S M L c v→cRep w' S' M' L' c v):∀{xs:List (Bool×List C)} {vs:List Value},tupRep w S M L xs vs→tupRep w' S' M' L' xs vs
 |[],[],_=>trivial
 |c::cs,v::vs,h=>⟨Zed hc h.1,Zi5 hc h.2⟩
 |[],_::_,h=>h.elim
 |_::_,[],h=>h.elim
theorem Zcg(hc:∀c v,cRep w S M L c v→cRep w' S' M' L' c v)(hf:∀r,(M r).born=true→(M' r).born=true∧KeepF w w' (M r) (M' r) (L.hd r) (L'.hd r)){x:TV}{v:Value}(h:tvRep w S M L x v):tvRep w' S' M' L' x v:=by
 cases x with
 |v a cs=>exact Zed hc h
 |tup xs=>obtain⟨vs,h1,h2⟩:=h;exact⟨vs,h1,Zi5 hc h2⟩
 |cp r cs=>
  obtain⟨⟨h1,h2⟩,h0,vs,h3,h4⟩:=h;obtain⟨g1,g2⟩:=hf r h1;obtain⟨g2,g3⟩:=g2 h2;refine⟨⟨g1,g2⟩,h0,vs,Zb0 hc h3,λhl=>?_⟩;obtain⟨k1,k2,k3⟩:=g3 hl;obtain⟨B,off,off0,len,cap,e1,e2,e3⟩:=h4 k1;exact⟨B,off,off0,len,cap,e1,k2.trans e2,λk u hk=>(Za3 (k3 _ _ _ _ e2) _).trans (e3 k u hk)⟩
end
theorem Zg2{w w':World}{M M':Mem}{L L':Lay}(h:∀r,Keeps w w' (M r) (M' r) (L.hd r) (L'.hd r)):∀r,(M r).born=true→(M' r).born=true∧KeepF w w' (M r) (M' r) (L.hd r) (L'.hd r):=
 fun r hb=>⟨(h r hb).1.1,(h r hb).2.2⟩
theorem Zbn{w:World}{S:FP}{M:Mem}{L:Lay}:∀{cs:List C} {vs:List Value},cellsRep w S M L cs vs→cs.length=vs.length
 |[],[],_=>rfl
 |c::cs,v::vs,h=>by simp[Zbn h.2]
 |[],_::_,h=>h.elim
 |_::_,[],h=>h.elim
theorem Zfn{w w':World}{S:FP}{d:D}{v:Value}{q:Path}{d1:D}{u:Value}(h:HeadAt w d v q d1 u):∀{F:FP},repD w S d v F→(∀b,F b→w'.heap[b]?=w.heap[b]?)→HeadAt w' d v q d1 u:=by
 induction h with
 |nil d v=>intro F _ _;exact .nil _ _
 |@cons n es B off len cap i j v1 p d' v' hi hj hc hp ih=>
  intro F hr hF;obtain⟨A,c2,he,hcap,hr⟩:=hr;injection he with he1 he2 he3;subst he1;rcases hr with⟨hA,_⟩|⟨B',off',F',hA,hr,hown⟩
  ·simp at hA
  injection hA with hA;injection hA with hB hO;subst hB hO;rcases hown with⟨_,hnB,hF2,_⟩|⟨ho,_⟩
  ·obtain⟨G1,R1,hl,hrow,hF1,_,_⟩:=Zb9 i hr hi;obtain⟨u,G2,R2,hcell,hrep,hF3,_,_⟩:=Zf2 j hrow hj;rw[hc]at hcell;injection hcell with hcell;subst hcell;refine .cons hi hj ((Za3 (hF B ((hF2 B).2 (.inl rfl))) _).trans hc) (ih hrep (λb hb=>hF b ((hF2 b).2 (.inr ((hF1 b).2 (.inl ((hF3 b).2 (.inl hb))))))))
  ·cases ho
theorem Zar{x:Root}{ga gh:Nat}{q:Path}(h:okView x ga gh q=true):x.live=true:=by
 unfold okView at h;simp only[Bool.and_eq_true]at h;exact h.1.1.1
theorem Zg7{x:Root}{ga gh:Nat}{q:Path}(h:okView x ga gh q=true):x.frz=false:=by
 unfold okView at h;simp only[Bool.and_eq_true,Bool.not_eq_true']at h;exact h.1.1.2
theorem Zx7{w:World}{S:FP}{x:Root}{B off len cap:Nat}{F:FP}(h:repD w S (rootD x) (.slice (some ⟨B,off,none⟩) len cap) F):F B:=by
 obtain⟨A,c2,he,_,h⟩:=h;injection he with he1 he2 he3;subst he1;rcases h with⟨h1,_⟩|⟨B',off',F',hA,_,h⟩
 ·simp at h1
 injection hA with hA;injection hA with hB hO;subst hB;rcases h with⟨_,_,hF,_⟩|⟨h,_⟩
 ·exact(hF B).2 (.inl rfl)
 ·cases h
theorem Zdv{w w':World}{S:FP}{x:Root}{h:Value}{F:FP}(hr:x.live=true→repD w S (rootD x) h F∧∀b,F b→w'.heap[b]?=w.heap[b]?):Keeps w w' x x h h:=by
 refine λhb=>⟨⟨hb,Nat.le_refl _⟩,λga gh q _ ho hp=>⟨ho,hp,λsz es v hh=>?_⟩,λhf=>⟨hf,λhl=>⟨hl,rfl,λB off len cap he=>?_⟩⟩⟩
 ·obtain⟨h1,h2⟩:=hr (Zar ho);exact⟨es,rfl,Zfn hh h1 h2⟩
 ·obtain⟨h1,h2⟩:=hr hl;subst he;exact h2 B (Zx7 h1)
theorem Zc5(w:World)(x:Root)(h:Value):Keeps w w x x h h:=λhb=>⟨⟨hb,Nat.le_refl _⟩,λga gh q _ ho hp=>⟨ho,hp,λsz es v hh=>⟨es,rfl,hh⟩⟩,λhf=>⟨hf,λhl=>⟨hl,rfl,λ_ _ _ _ _=>rfl⟩⟩⟩
theorem Zp2{w w':World}{x x':Root}{h h':Value}(hl:x'.live=false)(hb:x.born=true→x'.born=true)(hg:x.gh≤x'.gh)(hz:x.frz=true→x'.frz=true):Keeps w w' x x' h h':=by
 refine λhx=>⟨⟨hb hx,hg⟩,λga gh q _ ho hp=>?_,λhf=>⟨hz hf,λh=>?_⟩⟩
 ·rw[Zar ho]at hl;cases hl
 ·rw[hl]at h;cases h
theorem Zco{w w1 w2:World}{x x1 x2:Root}{h h1 h2:Value}(a:Keeps w w1 x x1 h h1)(b:Keeps w1 w2 x1 x2 h1 h2):Keeps w w2 x x2 h h2:=by
 intro hb;obtain⟨⟨a1,ag⟩,a2,af⟩:=a hb;obtain⟨⟨b1,bg⟩,b2,bf⟩:=b a1;refine⟨⟨b1,Nat.le_trans ag bg⟩,λga gh q hg ho hp=>?_,λhf=>?_⟩
 ·obtain⟨c1,c2,c3⟩:=b2 ga gh q (Nat.le_trans hg ag) ho hp;obtain⟨d1,d2,d3⟩:=a2 ga gh q hg c1 c2;refine⟨d1,d2,λsz es v hh=>?_⟩;obtain⟨es',l1,h1⟩:=d3 sz es v hh;obtain⟨es'',l2,h2⟩:=c3 sz es' v h1;exact⟨es'',l2.trans l1,h2⟩
 ·obtain⟨f1,f2⟩:=af hf;obtain⟨g1,g2⟩:=bf f1;refine⟨g1,λhl=>?_⟩;obtain⟨l1,e1,k1⟩:=g2 hl;obtain⟨l0,e0,k0⟩:=f2 l1;exact⟨l0,e1.trans e0,λB off len cap he=>(k1 B off len cap (e0.trans he)).trans (k0 B off len cap he)⟩
theorem Zci{α:Type}{l:List α}{i:Nat}{z:α}(h:l.getD i z≠z):i<l.length:=by
 rcases Nat.lt_or_ge i l.length with hi|hi
 ·exact hi
 ·rw[List.getD_eq_getElem?_getD,List.getElem?_eq_none hi]at h;exact absurd rfl h
theorem Zfo{es:List (List D)}{i j:Nat}(h:((es.getD i []).getD j .dead).isOwn=true):i<es.length∧j<(es.getD i []).length∧∃n es',(es.getD i []).getD j .dead=.sl true n es':=by
 have hj:j<(es.getD i []).length:=Zci (z:=.dead) (λhe=>by rw[he]at h;cases h)
 have hi:i<es.length:=Zci (z:=[]) (λhe=>by rw[he]at hj;simp at hj)
 refine⟨hi,hj,?_⟩;cases hd:(es.getD i []).getD j .dead with
 |sl o n es'=>rw[hd]at h;cases o with|true=>exact⟨n,es',rfl⟩|false=>cases h
 |_=>rw[hd]at h;cases h
theorem Zi6{w:World}{S:FP}:∀(q:Path) {n:Nat} {es:List (List D)} {v:Value} {F:FP},repD w S (.sl true n es) v F→pathOk es q=true→
  ∃n' A len cap,HeadAt w (.sl true n es) v q (.sl true n' (rowsAt es q)) (.slice A len cap)
 |[],n,es,v,F,h,_=>by
  obtain⟨A,cap,rfl,_⟩:=h;exact⟨n,A,_,_,.nil _ _⟩
 |(i,j)::q,n,es,v,F,h,hp=>by
  unfold pathOk at hp;simp only[Bool.and_eq_true]at hp;obtain⟨hi,hj,n1,es1,hd⟩:=Zfo hp.1;obtain⟨A,cap,rfl,hcap,h⟩:=h;rcases h with⟨_,he,_⟩|⟨B,off,F',rfl,hr,hown⟩
  ·subst he;simp at hi
  obtain⟨G1,R1,hl,hrow,hF1,_,_⟩:=Zb9 i hr hi;obtain⟨u,G2,R2,hcell,hrep,hF3,_,_⟩:=Zf2 j hrow hj;rw[hd]at hrep;have hp2:=hp.2;rw[hd]at hp2;obtain⟨n',A',len',cap',hh⟩:=Zi6 q hrep hp2;refine⟨n',A',len',cap',?_⟩;refine .cons hi hj hcell ?_;rw[hd];unfold rowsAt;rw[hd];exact hh
end Go.Ev
