/- What comes into a frame: parameters, results. -/
import Derived.Test.YtihhlajibgoemaaGreatEvPut
namespace Go.Ev
open Go.RowKit
set_option linter.unusedVariables false
set_option linter.unusedSimpArgs false
section
variable {w : World} {S : FP}
structure Adds(w:World)(S:FP)(M M':Mem)(L L':Lay)(nx k:Nat)(F:FP):Prop where
 rep:MemRep w S M' L'
 old:∀r,¬newOf nx k r→M' r=M r∧L'.hd r=L.hd r∧L'.fp r=L.fp r
 fp:∀r,newOf nx k r→∀b,L'.fp r b→F b
theorem Adds.keeps{M M':Mem}{L L':Lay}{nx k:Nat}{F:FP}(h:Adds w S M M' L L' nx k F)(hf:∀r,newOf nx k r→(M r).born=false)(r:Nat):Keeps w w (M r) (M' r) (L.hd r) (L'.hd r):=by
 by_cases hr:newOf nx k r
 ·intro hb;rw[hf r hr]at hb;cases hb
 ·obtain⟨h1,h2,_⟩:=h.old r hr;rw[h1,h2];exact Zc5 _ _ _
theorem Adds.cRep{M M':Mem}{L L':Lay}{nx k:Nat}{F:FP}(h:Adds w S M M' L L' nx k F)(hf:∀r,newOf nx k r→(M r).born=false){c:C}{v:Value}(hc:cRep w S M L c v):cRep w S M' L' c v:=
 Zbw (λb hb=>⟨hb,rfl⟩) (h.keeps hf) hc
theorem Adds.none{M:Mem}{L:Lay}(h:MemRep w S M L)(nx:Nat)(F:FP):Adds w S M (addNew M nx []) L L nx 0 F:=by
 rw[Zet];exact⟨h,λr _=>⟨rfl,rfl,rfl⟩,λr hr=>by unfold newOf at hr;omega⟩
theorem Adds.one{M:Mem}{L:Lay}{nx:Nat}{x:Root}{hd:Value}{F:FP}(hm:MemRep w S M L)(hf:(M nx).born=false)(hx:x.live=true)(hb:x.born=true)(hr:repD w S (rootD x) hd F)
  (hF:∀b,F b→b<w.heap.size∧¬S b) (hd2:∀r,(M r).live=true→∀b,F b→¬L.fp r b):
  Adds w S M (addNew M nx [x]) L ⟨λk=>if k=nx then hd else L.hd k,λk=>if k=nx then F else L.fp k⟩ nx 1 F:=by
 rw[Zbu];refine⟨⟨λk hk=>?_,λk hk=>?_,λk hk b hb=>?_,λk k' hk hk' hne b hb hb'=>?_,hm.lent⟩,λk hk=>?_,λk hk b hb=>?_⟩
 ·by_cases hkn:k=nx
  ·subst hkn;simp only[if_true];exact hr
  ·simp only[if_neg hkn]at hk ⊢;exact hm.rep k hk
 ·by_cases hkn:k=nx
  ·subst hkn;simp only[if_true];exact hb
  ·simp only[if_neg hkn]at hk ⊢;exact hm.born k hk
 ·by_cases hkn:k=nx
  ·subst hkn;simp only[if_true]at hb;exact hF b hb
  ·simp only[if_neg hkn]at hk hb;exact hm.own k hk b hb
 ·by_cases hkn:k=nx
  ·by_cases hkn':k'=nx
   ·exact hne (hkn.trans hkn'.symm)
   ·subst hkn;simp only[if_true]at hb;simp only[if_neg hkn']at hk' hb';exact hd2 k' hk' b hb hb'
  ·simp only[if_neg hkn]at hk hb;by_cases hkn':k'=nx
   ·subst hkn';simp only[if_true]at hb';exact hd2 k hk b hb' hb
   ·simp only[if_neg hkn']at hk' hb';exact hm.apart k k' hk hk' hne b hb hb'
 ·have hkn:k≠nx:=λh=>hk (by unfold newOf;omega)
  simp only[if_neg hkn];exact⟨trivial,trivial,trivial⟩
 ·have hkn:k=nx:=by unfold newOf at hk;omega
  subst hkn;simpa using hb
theorem Zch(M:Mem)(nx:Nat)(a b:List Root):addNew (addNew M nx a) (nx+a.length) b=addNew M nx (a++b):=by
 funext r
 unfold addNew;by_cases h1:nx+a.length≤r∧r<nx+a.length+b.length
 ·rw[if_pos h1,if_pos (by rw[List.length_append];omega)]
  rw[List.getD_eq_getElem?_getD,List.getD_eq_getElem?_getD,List.getElem?_append_right (by omega),show r-nx-a.length=r-(nx+a.length) by omega]
 ·rw[if_neg h1];by_cases h2:nx≤r∧r<nx+a.length
  ·rw[if_pos h2,if_pos (by rw[List.length_append];omega)]
   rw[List.getD_eq_getElem?_getD,List.getD_eq_getElem?_getD,List.getElem?_append_left (by omega)]
  ·rw[if_neg h2,if_neg (by rw[List.length_append];omega)]
theorem Zbq{M:Mem}{nx:Nat}{a:List Root}{r:Nat}(h:¬newOf nx a.length r):addNew M nx a r=M r:=by
 unfold addNew;exact if_neg h
theorem Adds.trans{M:Mem}{L L1 L2:Lay}{nx:Nat}{a b:List Root}{F1 F2 F:FP}(h1:Adds w S M (addNew M nx a) L L1 nx a.length F1)(h2:Adds w S (addNew M nx a) (addNew (addNew M nx a) (nx+a.length) b) L1 L2 (nx+a.length) b.length F2)
  (hF1:∀b,F1 b→F b) (hF2:∀b,F2 b→F b):Adds w S M (addNew M nx (a++b)) L L2 nx (a++b).length F:=by
 have h2':=h2;rw[Zch]at h2';refine⟨h2'.rep,λr hr=>?_,λr hr x hx=>?_⟩
 ·have e1:¬newOf (nx+a.length) b.length r:=λh=>hr (by unfold newOf at h ⊢;rw[List.length_append];omega)
  have e2:¬newOf nx a.length r:=λh=>hr (by unfold newOf at h ⊢;rw[List.length_append];omega)
  obtain⟨a1,a2,a3⟩:=h2'.old r e1;obtain⟨b1,b2,b3⟩:=h1.old r e2;exact⟨a1.trans b1,a2.trans b2,a3.trans b3⟩
 ·by_cases e1:newOf (nx+a.length) b.length r
  ·exact hF2 x (h2'.fp r e1 x hx)
  ·obtain⟨_,_,a3⟩:=h2'.old r e1;rw[a3]at hx;exact hF1 x (h1.fp r (by unfold newOf at hr e1 ⊢;rw[List.length_append]at hr;omega) x hx)
theorem Zf1{own:Bool}{d:D}(h:Leaf.other.fit own d=true):d=.dead:=by cases d<;>first|rfl|cases h
theorem Zjg{own:Bool}:∀{ls:List Leaf} {row pre:List D},fits own ls row=true→typedRow own (pre++row) pre.length ls=row
 |[],[],pre,_=>rfl
 |l::ls,d::ds,pre,h=>by
  unfold fits at h;rw[Bool.and_eq_true]at h;have hg:(pre++d::ds).getD pre.length .dead=d:=by simp
  have ih:=Zjg (own:=own) (ls:=ls) (row:=ds) (pre:=pre++[d]) h.2;rw[List.append_assoc,List.singleton_append,List.length_append,List.length_singleton]at ih;unfold typedRow;rw[hg,ih]
  congr 1
  cases l with
  |int k=>obtain⟨n,rfl⟩:=Zei h.1;rfl
  |bool=>obtain⟨n,rfl⟩:=Zex h.1;rfl
  |str=>obtain⟨n,rfl⟩:=Zg0 h.1;rfl
  |sl n f=>obtain⟨es,rfl⟩:=Zjf h.1;rfl
  |other=>rw[Zf1 h.1];rfl
 |[],_::_,_,h=>by cases h
 |_::_,[],_,h=>by cases h
theorem Zey{own:Bool}{ls:List Leaf}{row:List D}(h:fits own ls row=true):typedRow own row 0 ls=row:=Zjg (pre:=[]) h
theorem Zc8{own:Bool}:∀{ls:List Leaf} {row:List D} {us:List Value} {F:FP} {nx:Nat} {M:Mem} {L:Lay},fits own ls row=true→datRep w S row us F→MemRep w S M L→(∀r,newOf nx (frameCells own row nx).2.length r→(M r).born=false)→
  (∀r,(M r).live=true→∀b,F b→¬L.fp r b)→(∀b,F b→b<w.heap.size∧¬S b)→
  ∃L',Adds w S M (addNew M nx (frameCells own row nx).2) L L' nx (frameCells own row nx).2.length F∧cellsRep w S (addNew M nx (frameCells own row nx).2) L' (frameCells own row nx).1 us
 |[],[],[],F,nx,M,L,_,h,hm,_,_,_=>⟨L,Adds.none hm nx F,trivial⟩
 |l::ls,d::ds,u::us,F,nx,M,L,hf,⟨F1,F2,h1,h2,h3,h4⟩,hm,hb,hdis,hown=>by
  unfold fits at hf;rw[Bool.and_eq_true]at hf;have plain:(∀b,¬F1 b)→d.here=true→(∀n,frameCells own (d::ds) n=(.d d::(frameCells own ds n).1,(frameCells own ds n).2))→
    ∃L',Adds w S M (addNew M nx (frameCells own (d::ds) nx).2) L L' nx (frameCells own (d::ds) nx).2.length F∧cellsRep w S (addNew M nx (frameCells own (d::ds) nx).2) L' (frameCells own (d::ds) nx).1 (u::us):=by
   intro hF1 hh he;obtain⟨L',a,c⟩:=Zc8 hf.2 h2 hm (λr hr=>hb r (by rw[he];exact hr)) (λr hr b hb2=>hdis r hr b ((h3 b).2 (.inr hb2))) (λb hb2=>hown b ((h3 b).2 (.inr hb2)))
   rw[he];refine⟨L',⟨a.rep,a.old,λr hr b hb2=>(h3 b).2 (.inr (a.fp r hr b hb2))⟩,⟨hh,Zhb h1 (λb=>⟨λh=>hF1 b h,λh=>h.elim⟩)⟩,c⟩
  cases l with
  |int k=>obtain⟨n,rfl⟩:=Zei hf.1;exact plain h1.2 rfl (λ_=>rfl)
  |bool=>obtain⟨n,rfl⟩:=Zex hf.1;exact plain h1.2 rfl (λ_=>rfl)
  |str=>obtain⟨n,rfl⟩:=Zg0 hf.1;exact plain h1.2 rfl (λ_=>rfl)
  |other=>
   have hd:=Zf1 hf.1;subst hd;have he:∀n,frameCells own (.dead::ds) n=(.undef::(frameCells own ds n).1,(frameCells own ds n).2):=λ_=>rfl;obtain⟨L',a,c⟩:=Zc8 hf.2 h2 hm (λr hr=>hb r (by rw[he];exact hr)) (λr hr b hb2=>hdis r hr b ((h3 b).2 (.inr hb2))) (λb hb2=>hown b ((h3 b).2 (.inr hb2)))
   rw[he];exact⟨L',⟨a.rep,a.old,λr hr b hb2=>(h3 b).2 (.inr (a.fp r hr b hb2))⟩,trivial,c⟩
  |sl n f=>
   obtain⟨es,rfl⟩:=Zjf hf.1;cases own with
   |false=>
    refine plain (λb hb2=>?_) rfl (λ_=>rfl);obtain⟨A,cap,_,_,h1⟩:=h1;rcases h1 with⟨_,_,_,h⟩|⟨B,off,F',_,_,h⟩
    ·exact h b hb2
    ·rcases h with⟨ho,_⟩|⟨_,h,_⟩
     ·cases ho
     ·exact h b hb2
   |true=>
    have hlen:(frameCells true (.sl true n es::ds) nx).2.length=(frameCells true ds (nx+1)).2.length+1:=rfl;have a1:=Adds.one (x:={ box:=false,sz:=n,es:=es }) (nx:=nx) hm (hb nx ⟨Nat.le_refl _,by omega⟩) rfl rfl h1 (λb hb2=>hown b ((h3 b).2 (.inl hb2))) (λr hr b hb2=>hdis r hr b ((h3 b).2 (.inl hb2)))
    have hb':∀r,newOf (nx+1) (frameCells true ds (nx+1)).2.length r→(addNew M nx [{ box:=false,sz:=n,es:=es }] r).born=false:=λr hr=>by
     unfold newOf at hr;rw[Zbq (by unfold newOf;simp;omega)];exact hb r ⟨by omega,by omega⟩
    have hdis2:∀r,(addNew M nx [{ box:=false,sz:=n,es:=es }] r).live=true→∀b,F2 b→¬(if r=nx then F1 else L.fp r) b:=by
     intro r hr b hb2;by_cases hrn:r=nx
     ·subst hrn;simp only[if_true];exact λhf1=>h4 b hf1 hb2
     ·rw[Zbq (by unfold newOf;simp;omega)]at hr
      simp only[if_neg hrn];exact hdis r hr b ((h3 b).2 (.inr hb2))
    obtain⟨L2,a2,c2⟩:=Zc8 (nx:=nx+1) hf.2 h2 a1.rep hb' hdis2 (λb hb2=>hown b ((h3 b).2 (.inr hb2)))
    ·have a2':Adds w S (addNew M nx [{ box:=false,sz:=n,es:=es }]) (addNew (addNew M nx [{ box:=false,sz:=n,es:=es }]) (nx+[({ box:=false,sz:=n,es:=es }:Root)].length) (frameCells true ds (nx+1)).2) _ L2 (nx+[({ box:=false,sz:=n,es:=es }:Root)].length) (frameCells true ds (nx+1)).2.length F2:=a2;have a3:=Adds.trans (F:=F) a1 a2' (λb hb2=>(h3 b).2 (.inl hb2)) (λb hb2=>(h3 b).2 (.inr hb2));have heq:addNew (addNew M nx [{ box:=false,sz:=n,es:=es }]) (nx+1) (frameCells true ds (nx+1)).2=addNew M nx ([{ box:=false,sz:=n,es:=es }]++(frameCells true ds (nx+1)).2):=Zch M nx [{ box:=false,sz:=n,es:=es }] (frameCells true ds (nx+1)).2;refine⟨L2,a3,?_,?_⟩
     ·have hr:cRep w S (addNew M nx [{ box:=false,sz:=n,es:=es }]) ⟨λk=>if k=nx then u else L.hd k,λk=>if k=nx then F1 else L.fp k⟩ (.view nx 0 0 [] n none) u:=by
       obtain⟨A,cap,rfl,_⟩:=h1;refine⟨by rw[Zbu];simp,⟨_,_,_,rfl⟩,λ_ _=>⟨es,A,_,cap,?_,rfl⟩⟩
       rw[Zbu];simp only[if_true];exact .nil _ _
      have:=a2.cRep (λr hr=>hb' r hr) hr;rw[heq]at this;exact this
     ·rw[heq]at c2;exact c2
 |[],_::_,_,_,_,_,_,hf,_,_,_,_,_=>by cases hf
 |_::_,[],_,_,_,_,_,hf,_,_,_,_,_=>by cases hf
 |[],[],_::_,_,_,_,_,_,h,_,_,_,_=>h.elim
 |_::_,_::_,[],_,_,_,_,_,h,_,_,_,_=>h.elim
end
end Go.Ev
