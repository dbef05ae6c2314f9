/- What is made anew. -/
import Derived.Test.YtihhlajibgoemaaGreatEvTurns
namespace Go.Ev
open Go.RowKit
set_option linter.unusedVariables false
set_option linter.unusedSimpArgs false
theorem Turns.refl{w:World}{S:FP}{M:Mem}{L:Lay}(h:MemRep w S M L)(R:List Nat):Turns w w S S M M L L R (λ_=>False):=
 ⟨h,Below.refl 0 w,λb hb=>hb,λb _ _=>rfl,λr _=>Zc5 _ _ _,λr _ hl=>hl,λr _ _=>⟨rfl,rfl,λ_ b hb=>hb⟩,λr hl b hb=>.inl ⟨r,hl,hb⟩,λb hb=>.inl hb,
  fun r _ _ _=>⟨rfl,rfl,rfl,rfl,rfl,λ_=>Within.refl (λ_ _ _ _ _=>rfl)⟩,λr _ hl _=>hl⟩
theorem Zgi{w w':World}{S:FP}{M M1:Mem}{L L1:Lay}{R1 R:List Nat}{G F:FP}{nx:Nat}{x:Root}{hd:Value}
  (hm:MemRep w S M L) (mv:Moves w S M M1 L L1 R1 G) (hR:∀k∈R1,k∈R) (hbelow:Below 0 w w') (hext:∀b,b<w.heap.size→¬G b→w'.heap[b]?=w.heap[b]?)
  (hrep:repD w' S (rootD x) hd F) (hx:x.live=true) (hxb:x.born=true) (hF:∀b,F b→G b∨(w.heap.size≤b∧b<w'.heap.size)) (hfresh:(M nx).born=false):
  Turns w w' S S M (λk=>if k=nx then x else M1 k) L ⟨λk=>if k=nx then hd else L1.hd k,λk=>if k=nx then F else L1.fp k⟩ R (λk=>k=nx):=by
 have hnxM1:(M1 nx).live=false:=by
  cases h:(M1 nx).live with
  |false=>rfl
  |true=>have:=hm.born nx (mv.live nx h);rw[hfresh]at this;cases this
 have hGout:∀b,G b→∃k,(M k).live=true∧L.fp k b:=λb hb=>by obtain⟨k,_,h1,h2⟩:=mv.out b hb;exact⟨k,h1,h2⟩
 have hGown:∀b,G b→b<w.heap.size∧¬S b:=λb hb=>by obtain⟨k,h1,h2⟩:=hGout b hb;exact hm.own k h1 b h2
 have hS:∀b,S b→S b∧w'.heap[b]?=w.heap[b]?:=λb hb=>⟨hb,hext b (hm.lent b hb) (λhg=>(hGown b hg).2 hb)⟩;have hold:∀k,(M1 k).live=true→∀b,L1.fp k b→w'.heap[b]?=w.heap[b]?:=λk hk b hb=>hext b (mv.rep.own k hk b hb).1 (λhg=>mv.apart k hk b hg hb);have hlv:∀k,k≠nx→((if k=nx then x else M1 k):Root)=M1 k:=λk hk=>if_neg hk;refine⟨⟨λk hk=>?_,λk hk=>?_,λk hk b hb=>?_,λk k' hk hk' hne b hb hb'=>?_,λb hb=>Nat.lt_of_lt_of_le (hm.lent b hb) hbelow.size⟩,hbelow,λb hb=>hb,λb hb hnr=>?_,λk hk=>?_,λk hk hl=>?_,λk hk hn=>?_,λk hk b hb=>?_,λb hb=>.inl hb,λk hk hl hl'=>?_,λk hk hl hb=>?_⟩
 ·by_cases hkn:k=nx
  ·subst hkn;simp only[if_true];exact hrep
  ·simp only[if_neg hkn]at hk ⊢;exact Zbp hS (mv.rep.rep k hk) (hold k hk)
 ·by_cases hkn:k=nx
  ·subst hkn;simp only[if_true];exact hxb
  ·simp only[if_neg hkn]at hk ⊢;exact mv.rep.born k hk
 ·by_cases hkn:k=nx
  ·subst hkn;simp only[if_true]at hb;rcases hF b hb with h|h
   ·exact⟨Nat.lt_of_lt_of_le (hGown b h).1 hbelow.size,(hGown b h).2⟩
   ·exact⟨h.2,λhs=>by have:=hm.lent b hs;omega⟩
  ·simp only[if_neg hkn]at hk hb;have:=mv.rep.own k hk b hb;exact⟨Nat.lt_of_lt_of_le this.1 hbelow.size,this.2⟩
 ·have key:∀k,k≠nx→(M1 k).live=true→∀b,F b→¬L1.fp k b:=λk hk hl b hb hb'=>by
   rcases hF b hb with h|h
   ·exact mv.apart k hl b h hb'
   ·have:=(mv.rep.own k hl b hb').1;omega
  by_cases hkn:k=nx
  ·by_cases hkn':k'=nx
   ·exact hne (hkn.trans hkn'.symm)
   ·simp only[if_neg hkn']at hk' hb';subst hkn;simp only[if_true]at hb;exact key k' hkn' hk' b hb hb'
  ·simp only[if_neg hkn]at hk hb;by_cases hkn':k'=nx
   ·subst hkn';simp only[if_true]at hb';exact key k hkn hk b hb' hb
   ·simp only[if_neg hkn']at hk' hb';exact mv.rep.apart k k' hk hk' hne b hb hb'
 ·exact hext b hb (λhg=>by obtain⟨k,h1,h2,h3⟩:=mv.out b hg;exact hnr k (hR k h1) h2 h3)
 ·have hkn:k≠nx:=hk;simp only[if_neg hkn];exact Zco (mv.keeps k) (Zdv (F:=L1.fp k) (λhl=>⟨mv.rep.rep k hl,hold k hl⟩))
 ·have hkn:k≠nx:=hk;simp only[if_neg hkn]at hl;exact mv.live k hl
 ·have hkn:k≠nx:=hn;simp only[if_neg hkn];exact⟨mv.same k (λh=>hk (hR k h)),mv.hd k,λhl b hb=>mv.fp k hl b hb⟩
 ·by_cases hkn:k=nx
  ·subst hkn;simp only[if_true]at hb;rcases hF b hb with h|h
   ·exact .inl (hGout b h)
   ·exact .inr h.1
  ·simp only[if_neg hkn]at hk hb;exact .inl ⟨k,mv.live k hk,mv.fp k hk b hb⟩
 ·have hkn:k≠nx:=hk;simp only[if_neg hkn]at hl'⊢;obtain⟨e1,e2,e3⟩:=mv.keep k;refine⟨mv.hd k,e1,e2,e3,mv.pins k,λ_=>Within.refl (λB off len cap he=>?_)⟩;have hrk:=mv.rep.rep k hl';rw[mv.hd k,he]at hrk;obtain⟨F',_,_,_,_,hGB,_⟩:=Zbm hrk;exact hold k hl' B ((hGB B).2 (.inl rfl))
 ·have hkn:k≠nx:=hk;simp only[if_neg hkn];exact mv.box k hl hb
theorem Zgo{w:World}{S:FP}{B sz:Nat}:∀{es:List (List D)} {off:Nat},(∀i,i<es.length→(es.getD i []).length=sz∧repRow w S (es.getD i []) B (off+i*sz) (λ_=>False))→repRows w S es B off sz (λ_=>False)
 |[],_,_=>λ_ h=>h
 |e::es,off,h=>by
  have h0:=h 0 (by simp)
  refine⟨λ_=>False,λ_=>False,h0.1,by simpa using h0.2,Zgo (λi hi=>?_),λb=>by simp,λb hb=>hb.elim⟩
  have h1:=h (i+1) (by simpa using hi)
  rw[show off+sz+i*sz=off+(i+1)*sz by rw[Nat.add_mul];omega]
  exact h1
def rowsDat(w:World)(S:FP)(sz:Nat):List (List D)→List (List Value)→FP→Prop
 |[],[],F=>∀b,¬F b
 |e::es,v::vs,F=>∃F1 F2,e.length=sz∧datRep w S e v F1∧rowsDat w S sz es vs F2∧(∀b,F b↔F1 b∨F2 b)∧∀b,F1 b→¬F2 b
 |_,_,_=>False
theorem Zdk{w w':World}{S S':FP}(hS:∀b,S b→S' b∧w'.heap[b]?=w.heap[b]?){B sz:Nat}:∀{es:List (List D)} {vss:List (List Value)} {G:FP} {off:Nat},rowsDat w S sz es vss G→(∀b,G b→w'.heap[b]?=w.heap[b]?)→
  (∀(k:Nat) (v:Value),vss.flatten[k]?=some v→w'.cell? ⟨B,off+k,none⟩=some v)→repRows w' S' es B off sz G
 |[],[],G,off,h,_,_=>h
 |e::es,v::vss,G,off,h,hG,hc=>by
  obtain⟨F1,F2,h0,h1,h2,h3,h4⟩:=h;have hl:=Za4 h1;refine⟨F1,F2,h0,Zc4 hS h1 (λb hb=>hG b ((h3 b).2 (.inl hb))) (λk u hk=>hc k u ?_),Zdk hS h2 (λb hb=>hG b ((h3 b).2 (.inr hb))) (λk u hk=>?_),h3,h4⟩
  ·rw[List.flatten_cons,List.getElem?_append_left ((List.getElem?_eq_some_iff.1 hk).1)];exact hk
  ·rw[show off+sz+k=off+(sz+k) by omega]
   refine hc (sz+k) u ?_;rw[List.flatten_cons,List.getElem?_append_right (by omega),show sz+k-v.length=k by omega]
   exact hk
 |[],_::_,_,_,h,_,_=>h.elim
 |_::_,[],_,_,h,_,_=>h.elim
theorem Zfe(w:World)(o:Obj):Below 0 w (w.alloc o):=⟨rfl,rfl,rfl,by simp,λk hk=>absurd hk (Nat.not_lt_zero k)⟩
theorem Zgu{w:World}{cs:Array Value}{t:TypeId}(k:Nat):(w.alloc (.cells cs t)).cell? ⟨w.heap.size,k,none⟩=cs[k]?:=by
 unfold World.cell?;rw[show(w.alloc (.cells cs t)).heap[w.heap.size]?=some (.cells cs t)from heap_alloc_new w _];rfl
theorem Zee{w:World}(o:Obj){b:Nat}(h:b<w.heap.size):(w.alloc o).heap[b]?=w.heap[b]?:=Below.heap_alloc w o b h
theorem Zgv(w:World)(o:Obj):(w.alloc o).heap.size=w.heap.size+1:=by simp
theorem Ze1{w w0:World}{S:FP}{M M1:Mem}{L L1:Lay}{R1 R:List Nat}{G:FP}{nx sz cap:Nat}{box:Bool}{es:List (List D)}{cs:Array Value}{t:TypeId}
  (hm:MemRep w S M L) (mv:Moves w S M M1 L L1 R1 G) (hR:∀k∈R1,k∈R) (hfresh:(M nx).born=false) (h0:w0.heap=w.heap) (hb0:Below 0 w w0) (hcap:es.length≤cap) (hc63:cap≤9223372036854775807) (hcs:cap*sz≤cs.size)
  (hrows:∀{w':World},(∀b,b<w.heap.size→w'.heap[b]?=w.heap[b]?)→(∀k,w'.cell? ⟨w.heap.size,k,none⟩=cs[k]?)→repRows w' S es w.heap.size 0 sz G) (fz:Bool:=false):
  Turns w (w0.alloc (.cells cs t)) S S M (λk=>if k=nx then { box:=box,sz:=sz,es:=es,frz:=fz }else M1 k) L
   ⟨λk=>if k=nx then .slice (some ⟨w.heap.size,0,none⟩) es.length cap else L1.hd k,λk=>if k=nx then(λb=>b=w.heap.size∨G b)else L1.fp k⟩ R (λk=>k=nx):=by
 have hsz:w0.heap.size=w.heap.size:=by rw[h0]
 have hGown:∀b,G b→b<w.heap.size:=λb hb=>by obtain⟨k,_,h1,h2⟩:=mv.out b hb;exact(hm.own k h1 b h2).1
 have hold:∀b,b<w.heap.size→(w0.alloc (.cells cs t)).heap[b]?=w.heap[b]?:=λb hb=>by rw[Zee _ (by omega),h0]
 have hr:=hrows (w':=w0.alloc (.cells cs t)) hold (λk=>by rw[←hsz];exact Zgu k)
 refine Zgi hm mv hR (hb0.trans (Zfe _ _)) (λb hb _=>hold b hb) ?_ rfl rfl ?_ hfresh
 ·refine⟨some ⟨w.heap.size,0,none⟩,cap,rfl,hcap,.inr ⟨w.heap.size,0,G,rfl,hr,.inl ⟨rfl,λhg=>Nat.lt_irrefl _ (hGown _ hg),λb=>Iff.rfl,⟨cs,t,?_,by simpa using hcs⟩,hc63⟩⟩⟩
  rw[←hsz];exact heap_alloc_new w0 _
 ·rintro b (rfl|hb)
  ·exact .inr ⟨Nat.le_refl _,by rw[Zgv];omega⟩
  ·exact .inl hb
theorem Zkb{w:World}{S:FP}{M:Mem}{L:Lay}{x:TV}{v:Value}{ls:List Leaf}{rs:Look}{y:Bool×List D×Look}(h:tvRep w S M L x v)(hmv:moveAll (fixNils ls x.cells) rs=some y):cellsRep w S M L (fixNils ls x.cells) v.cells.toList:=by
 have hund:∀{ls:List Leaf} {rs:Look},moveAll (fixNils ls [.undef]) rs=none:=by
  intro ls rs;cases ls with
  |nil=>rfl
  |cons l ls=>cases l<;>rfl
 have hgone:∀{ls:List Leaf} {rs:Look},moveAll (fixNils ls [.gone]) rs=none:=by
  intro ls rs;cases ls with
  |nil=>rfl
  |cons l ls=>cases l<;>rfl
 cases x with
 |tup xs=>simp only[TV.cells]at hmv;rw[hund]at hmv;cases hmv
 |cp r cs=>simp only[TV.cells]at hmv;rw[hund]at hmv;cases hmv
 |v a cs=>
  cases a with
  |true=>obtain⟨vs,rfl,h⟩:=h;exact Zbj h
  |false=>
   match cs,h,hmv with
   |[c],h,hmv=>
    have hc:c.solid=true:=by
     cases c with
     |undef=>simp only[TV.cells]at hmv;rw[hund]at hmv;cases hmv
     |gone=>simp only[TV.cells]at hmv;rw[hgone]at hmv;cases hmv
     |_=>rfl
    rw[Zcs (Zev h hc)];exact Zbj ⟨h,trivial⟩
end Go.Ev
