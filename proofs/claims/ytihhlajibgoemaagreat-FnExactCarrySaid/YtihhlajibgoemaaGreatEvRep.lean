/- What a tree of data is in memory: who owns which blocks. -/
import Derived.Test.YtihhlajibgoemaaGreatEvRun
import Derived.DataElems
namespace Go.Ev
set_option linter.unusedVariables false
abbrev FP:=Nat→Prop
def ownBlk(w:World)(B n:Nat):Prop:=∃cs t,w.heap[B]?=some (.cells cs t (0,0))∧n≤cs.size
def ownSl(w:World)(B off cap sz:Nat):Prop:=ownBlk w B (off+cap*sz)∧cap≤9223372036854775807
mutual
def repD(w:World)(S:FP):D→Value→FP→Prop
 |.int k n,v,F=>v=.int k n∧∀b,¬F b
 |.bool x,v,F=>v=.bool x∧∀b,¬F b
 |.str s,v,F=>v=.string s∧∀b,¬F b
 |.dead,v,F=>v.oneCell'=true∧∀b,¬F b
 |.sl own sz es,v,F=>∃A cap,v=.slice A es.length cap∧es.length≤cap∧
  (((A=none∨own=false)∧es=[]∧cap=0∧∀b,¬F b)∨
   ∃B off F',A=some ⟨B,off,none⟩∧repRows w S es B off sz F'∧
    ((own=true∧¬F' B∧(∀b,F b↔b=B∨F' b)∧ownSl w B off cap sz)∨
     (own=false∧(∀b,¬F b)∧(∀b,¬F' b)∧(es=[]∨S B))))
def repRow(w:World)(S:FP):List D→Nat→Nat→FP→Prop
 |[],_,_,F=>∀b,¬F b
 |d::ds,B,off,F=>∃v F1 F2,w.cell? ⟨B,off,none⟩=some v∧repD w S d v F1∧repRow w S ds B (off+1) F2∧(∀b,F b↔F1 b∨F2 b)∧∀b,F1 b→¬F2 b
def repRows(w:World)(S:FP):List (List D)→Nat→Nat→Nat→FP→Prop
 |[],_,_,_,F=>∀b,¬F b
 |e::es,B,off,sz,F=>∃F1 F2,e.length=sz∧repRow w S e B off F1∧repRows w S es B (off+sz) sz F2∧(∀b,F b↔F1 b∨F2 b)∧∀b,F1 b→¬F2 b
end
theorem Za3{w w':World}{B:Nat}(h:w'.heap[B]?=w.heap[B]?)(off:Nat):w'.cell? ⟨B,off,none⟩=w.cell? ⟨B,off,none⟩:=by
 simp[World.cell?,h]
mutual
theorem Zbp{w w':World}{S S':FP}(hS:∀b,S b→S' b∧w'.heap[b]?=w.heap[b]?):∀{d:D} {v:Value} {F:FP},repD w S d v F→(∀b,F b→w'.heap[b]?=w.heap[b]?)→repD w' S' d v F
 |.int k n,v,F,h,_=>h
 |.bool x,v,F,h,_=>h
 |.str s,v,F,h,_=>h
 |.dead,v,F,h,_=>h
 |.sl own sz es,v,F,h,hF=>by
  obtain⟨A,cap,rfl,hc,h⟩:=h;refine⟨A,cap,rfl,hc,?_⟩;rcases h with h|⟨B,off,F',rfl,hr,h⟩
  ·exact .inl h
  ·rcases h with⟨ho,hn,hf,hb⟩|⟨ho,hf,hf',hs⟩
   ·refine .inr ⟨B,off,F',rfl,Zep hS hr (λb hb=>hF b ((hf b).2 (.inr hb))) (.inr (hF B ((hf B).2 (.inl rfl)))),.inl ⟨ho,hn,hf,?_⟩⟩;obtain⟨⟨cs,t,h1,h2⟩,h3⟩:=hb;exact⟨⟨cs,t,(hF B ((hf B).2 (.inl rfl))).trans h1,h2⟩,h3⟩
   ·refine .inr ⟨B,off,F',rfl,Zep hS hr (λb hb=>absurd hb (hf' b)) ?_,.inr ⟨ho,hf,hf',?_⟩⟩
    ·rcases hs with hs|hs
     ·exact .inl hs
     ·exact .inr (hS B hs).2
    ·rcases hs with hs|hs
     ·exact .inl hs
     ·exact .inr (hS B hs).1
theorem Zdd{w w':World}{S S':FP}(hS:∀b,S b→S' b∧w'.heap[b]?=w.heap[b]?):∀{ds:List D} {B off:Nat} {F:FP},repRow w S ds B off F→(∀b,F b→w'.heap[b]?=w.heap[b]?)→w'.heap[B]?=w.heap[B]?→repRow w' S' ds B off F
 |[],_,_,_,h,_,_=>h
 |d::ds,B,off,F,h,hF,hB=>by
  obtain⟨v,F1,F2,h1,h2,h3,h4,h5⟩:=h;exact⟨v,F1,F2,(Za3 hB off).trans h1,Zbp hS h2 (λb hb=>hF b ((h4 b).2 (.inl hb))),Zdd hS h3 (λb hb=>hF b ((h4 b).2 (.inr hb))) hB,h4,h5⟩
theorem Zep{w w':World}{S S':FP}(hS:∀b,S b→S' b∧w'.heap[b]?=w.heap[b]?):∀{es:List (List D)} {B off sz:Nat} {F:FP},repRows w S es B off sz F→(∀b,F b→w'.heap[b]?=w.heap[b]?)→(es=[]∨w'.heap[B]?=w.heap[B]?)→repRows w' S' es B off sz F
 |[],_,_,_,_,h,_,_=>h
 |e::es,B,off,sz,F,h,hF,hB=>by
  obtain⟨F1,F2,h1,h2,h3,h4,h5⟩:=h;have hB':w'.heap[B]?=w.heap[B]?:=hB.resolve_left (by simp)
  exact⟨F1,F2,h1,Zdd hS h2 (λb hb=>hF b ((h4 b).2 (.inl hb))) hB',Zep hS h3 (λb hb=>hF b ((h4 b).2 (.inr hb))) (.inr hB'),h4,h5⟩
end
theorem Zhb{w:World}{S:FP}{d:D}{v:Value}{F F':FP}(h:repD w S d v F)(he:∀b,F b↔F' b):repD w S d v F':=by
 have:F=F':=funext λb=>propext (he b);rw[←this];exact h
theorem Zgn{w:World}{S:FP}{ds:List D}{B off:Nat}{F F':FP}(h:repRow w S ds B off F)(he:∀b,F b↔F' b):repRow w S ds B off F':=by
 have:F=F':=funext λb=>propext (he b);rw[←this];exact h
theorem Zjw{w:World}{S:FP}{es:List (List D)}{B off sz:Nat}{F F':FP}(h:repRows w S es B off sz F)(he:∀b,F b↔F' b):repRows w S es B off sz F':=by
 have:F=F':=funext λb=>propext (he b);rw[←this];exact h
theorem Zbr{w:World}{S:FP}:∀{xs ys:List D} {B off:Nat} {F:FP},repRow w S (xs++ys) B off F↔∃F1 F2,repRow w S xs B off F1∧repRow w S ys B (off+xs.length) F2∧(∀b,F b↔F1 b∨F2 b)∧∀b,F1 b→¬F2 b
 |[],ys,B,off,F=>by
  constructor
  ·intro h;exact⟨λ_=>False,F,λ_ h=>h,by simpa using h,by simp,by simp⟩
  ·rintro⟨F1,F2,h1,h2,h3,_⟩;exact Zgn (by simpa using h2) (λb=>by have:=h1 b;rw[h3 b];simp[this])
 |x::xs,ys,B,off,F=>by
  constructor
  ·rintro⟨v,G1,G2,h1,h2,h3,h4,h5⟩;obtain⟨F1,F2,k1,k2,k3,k4⟩:=Zbr.1 h3;refine⟨λb=>G1 b∨F1 b,F2,⟨v,G1,F1,h1,h2,k1,λb=>Iff.rfl,λb hb hb'=>h5 b hb ((k3 b).2 (.inl hb'))⟩,?_,λb=>?_,λb hb hb'=>?_⟩
   ·rw[show off+(x::xs).length=off+1+xs.length by simp;omega];exact k2
   ·rw[h4 b,k3 b];exact or_assoc.symm
   ·rcases hb with hb|hb
    ·exact h5 b hb ((k3 b).2 (.inr hb'))
    ·exact k4 b hb hb'
  ·rintro⟨F1,F2,⟨v,G1,G2,h1,h2,h3,h4,h5⟩,k2,k3,k4⟩;refine⟨v,G1,λb=>G2 b∨F2 b,h1,h2,Zbr.2 ⟨G2,F2,h3,?_,λb=>Iff.rfl,λb hb hb'=>k4 b ((h4 b).2 (.inr hb)) hb'⟩,λb=>?_,λb hb hb'=>?_⟩
   ·rw[show off+1+xs.length=off+(x::xs).length by simp;omega];exact k2
   ·rw[k3 b,h4 b];exact or_assoc
   ·rcases hb' with hb' |hb'
    ·exact h5 b hb hb'
    ·exact k4 b ((h4 b).2 (.inl hb)) hb'
theorem Zcc{w:World}{S:FP}:∀{xs ys:List (List D)} {B off sz:Nat} {F:FP},repRows w S (xs++ys) B off sz F↔∃F1 F2,repRows w S xs B off sz F1∧repRows w S ys B (off+xs.length*sz) sz F2∧(∀b,F b↔F1 b∨F2 b)∧∀b,F1 b→¬F2 b
 |[],ys,B,off,sz,F=>by
  constructor
  ·intro h;exact⟨λ_=>False,F,λ_ h=>h,by simpa using h,by simp,by simp⟩
  ·rintro⟨F1,F2,h1,h2,h3,_⟩;exact Zjw (by simpa using h2) (λb=>by have:=h1 b;rw[h3 b];simp[this])
 |x::xs,ys,B,off,sz,F=>by
  constructor
  ·rintro⟨G1,G2,h1,h2,h3,h4,h5⟩;obtain⟨F1,F2,k1,k2,k3,k4⟩:=Zcc.1 h3;refine⟨λb=>G1 b∨F1 b,F2,⟨G1,F1,h1,h2,k1,λb=>Iff.rfl,λb hb hb'=>h5 b hb ((k3 b).2 (.inl hb'))⟩,?_,λb=>?_,λb hb hb'=>?_⟩
   ·rw[show off+(x::xs).length*sz=off+sz+xs.length*sz by rw[List.length_cons,Nat.add_mul];omega];exact k2
   ·rw[h4 b,k3 b];exact or_assoc.symm
   ·rcases hb with hb|hb
    ·exact h5 b hb ((k3 b).2 (.inr hb'))
    ·exact k4 b hb hb'
  ·rintro⟨F1,F2,⟨G1,G2,h1,h2,h3,h4,h5⟩,k2,k3,k4⟩;refine⟨G1,λb=>G2 b∨F2 b,h1,h2,Zcc.2 ⟨G2,F2,h3,?_,λb=>Iff.rfl,λb hb hb'=>k4 b ((h4 b).2 (.inr hb)) hb'⟩,λb=>?_,λb hb hb'=>?_⟩
   ·rw[show off+sz+xs.length*sz=off+(x::xs).length*sz by rw[List.length_cons,Nat.add_mul];omega];exact k2
   ·rw[k3 b,h4 b];exact or_assoc
   ·rcases hb' with hb' |hb'
    ·exact h5 b hb hb'
    ·exact k4 b ((h4 b).2 (.inl hb)) hb'
end Go.Ev
