/- A tree in memory, opened at a place and put together again. -/
import Derived.Test.YtihhlajibgoemaaGreatEvRep
namespace Go.Ev
set_option linter.unusedVariables false
theorem Zcf{w w':World}{S S':FP}(hS:∀b,S b→S' b∧w'.heap[b]?=w.heap[b]?):∀{ds:List D} {B off:Nat} {F:FP},repRow w S ds B off F→(∀b,F b→w'.heap[b]?=w.heap[b]?)→
  (∀k,k<ds.length→w'.cell? ⟨B,off+k,none⟩=w.cell? ⟨B,off+k,none⟩)→repRow w' S' ds B off F
 |[],_,_,_,h,_,_=>h
 |d::ds,B,off,F,h,hF,hB=>by
  obtain⟨v,F1,F2,h1,h2,h3,h4,h5⟩:=h;refine⟨v,F1,F2,(hB 0 (by simp)).trans h1,Zbp hS h2 (λb hb=>hF b ((h4 b).2 (.inl hb))),Zcf hS h3 (λb hb=>hF b ((h4 b).2 (.inr hb))) (λk hk=>?_),h4,h5⟩
  have:=hB (k+1) (by simpa using hk)
  rw[show off+(k+1)=off+1+k by omega]at this
  exact this
theorem Zd9{w w':World}{S S':FP}(hS:∀b,S b→S' b∧w'.heap[b]?=w.heap[b]?):∀{es:List (List D)} {B off sz:Nat} {F:FP},repRows w S es B off sz F→(∀b,F b→w'.heap[b]?=w.heap[b]?)→
  (∀k,k<es.length*sz→w'.cell? ⟨B,off+k,none⟩=w.cell? ⟨B,off+k,none⟩)→repRows w' S' es B off sz F
 |[],_,_,_,_,h,_,_=>h
 |e::es,B,off,sz,F,h,hF,hB=>by
  obtain⟨F1,F2,h1,h2,h3,h4,h5⟩:=h;refine⟨F1,F2,h1,Zcf hS h2 (λb hb=>hF b ((h4 b).2 (.inl hb))) (λk hk=>hB k ?_),Zd9 hS h3 (λb hb=>hF b ((h4 b).2 (.inr hb))) (λk hk=>?_),h4,h5⟩
  ·rw[List.length_cons,Nat.add_mul];omega
  ·have:=hB (sz+k) (by rw[List.length_cons,Nat.add_mul];omega)
   rw[show off+(sz+k)=off+sz+k by omega]at this
   exact this
theorem Zkp{w:World}{S:FP}:∀{ds:List D} {B off:Nat} {F:FP},repRow w S ds B off F→∀k,k<ds.length→∃v,w.cell? ⟨B,off+k,none⟩=some v
 |[],_,_,_,_,k,hk=>absurd hk (Nat.not_lt_zero k)
 |d::ds,B,off,F,h,k,hk=>by
  obtain⟨v,F1,F2,h1,h2,h3,h4,h5⟩:=h;cases k with
  |zero=>exact⟨v,h1⟩
  |succ k=>
   obtain⟨u,hu⟩:=Zkp h3 k (by simpa using hk)
   exact⟨u,by rw[show off+(k+1)=off+1+k by omega];exact hu⟩
theorem Zf2{w:World}{S:FP}:∀{ds:List D} {B off:Nat} {F:FP} (j:Nat),repRow w S ds B off F→j<ds.length→
  ∃(v:Value) (G R:FP),w.cell? ⟨B,off+j,none⟩=some v∧repD w S (ds.getD j .dead) v G∧(∀b,F b↔G b∨R b)∧(∀b,G b→¬R b)∧
   ∀{w':World} {S':FP} {d':D} {v':Value} {G':FP},(∀b,S b→S' b∧w'.heap[b]?=w.heap[b]?)→(∀b,R b→w'.heap[b]?=w.heap[b]?)→
    (∀k,k<ds.length→k≠j→w'.cell? ⟨B,off+k,none⟩=w.cell? ⟨B,off+k,none⟩)→w'.cell? ⟨B,off+j,none⟩=some v'→repD w' S' d' v' G'→(∀b,G' b→¬R b)→
    repRow w' S' (ds.set j d') B off (λb=>G' b∨R b)
 |[],_,_,_,j,_,hj=>absurd hj (Nat.not_lt_zero j)
 |d::ds,B,off,F,0,h,_=>by
  obtain⟨v,F1,F2,h1,h2,h3,h4,h5⟩:=h;refine⟨v,F1,F2,h1,h2,h4,h5,?_⟩;intro w' S' d' v' G' hS hR hk hv hd hG;refine⟨v',G',F2,hv,hd,Zcf hS h3 hR (λk hk'=>?_),λb=>Iff.rfl,hG⟩;have:=hk (k+1) (by simpa using hk') (by omega)
  rw[show off+(k+1)=off+1+k by omega]at this
  exact this
 |d::ds,B,off,F,j+1,h,hj=>by
  obtain⟨v,F1,F2,h1,h2,h3,h4,h5⟩:=h;obtain⟨u,G,R,k1,k2,k3,k4,k5⟩:=Zf2 j h3 (by simpa using hj)
  refine⟨u,G,λb=>F1 b∨R b,by rw[show off+(j+1)=off+1+j by omega];exact k1,k2,λb=>?_,λb hb hb'=>?_,?_⟩
  ·rw[h4 b,k3 b];constructor
   ·rintro(h|h|h)<;>simp[h]
   ·rintro(h|h|h)<;>simp[h]
  ·rcases hb' with hb' |hb'
   ·exact h5 b hb' ((k3 b).2 (.inl hb))
   ·exact k4 b hb hb'
  ·intro w' S' d' v' G' hS hR hk hv hd hG;refine⟨v,F1,λb=>G' b∨R b,?_,Zbp hS h2 (λb hb=>hR b (.inl hb)),?_,λb=>?_,λb hb hb'=>?_⟩
   ·have:=hk 0 (by simp) (by omega)
    rw[Nat.add_zero]at this;exact this.trans h1
   ·refine k5 hS (λb hb=>hR b (.inr hb)) (λk hk1 hk2=>?_) (by rw[show off+1+j=off+(j+1) by omega];exact hv) hd (λb hb hb'=>hG b hb (.inr hb'))
    have:=hk (k+1) (by simpa using hk1) (by omega)
    rw[show off+(k+1)=off+1+k by omega]at this
    exact this
   ·constructor
    ·rintro(h|h|h)<;>simp[h]
    ·rintro(h|h|h)<;>simp[h]
   ·rcases hb' with hb' |hb'
    ·exact hG b hb' (.inl hb)
    ·exact h5 b hb ((k3 b).2 (.inr hb'))
theorem Zb9{w:World}{S:FP}:∀{es:List (List D)} {B off sz:Nat} {F:FP} (i:Nat),repRows w S es B off sz F→i<es.length→
  ∃(G R:FP),(es.getD i []).length=sz∧repRow w S (es.getD i []) B (off+i*sz) G∧(∀b,F b↔G b∨R b)∧(∀b,G b→¬R b)∧
   ∀{w':World} {S':FP} {row:List D} {G':FP},(∀b,S b→S' b∧w'.heap[b]?=w.heap[b]?)→(∀b,R b→w'.heap[b]?=w.heap[b]?)→
    (∀k,k<es.length*sz→¬(i*sz≤k∧k<i*sz+sz)→w'.cell? ⟨B,off+k,none⟩=w.cell? ⟨B,off+k,none⟩)→row.length=sz→repRow w' S' row B (off+i*sz) G'→(∀b,G' b→¬R b)→
    repRows w' S' (es.set i row) B off sz (λb=>G' b∨R b)
 |[],_,_,_,_,i,_,hi=>absurd hi (Nat.not_lt_zero i)
 |e::es,B,off,sz,F,0,h,_=>by
  obtain⟨F1,F2,h1,h2,h3,h4,h5⟩:=h;refine⟨F1,F2,h1,by simpa using h2,h4,h5,?_⟩
  intro w' S' row G' hS hR hk hl hr hG;refine⟨G',F2,hl,by simpa using hr,Zd9 hS h3 hR (λk hk'=>?_),λb=>Iff.rfl,hG⟩
  have:=hk (sz+k) (by rw[List.length_cons,Nat.add_mul];omega) (by omega)
  rw[show off+(sz+k)=off+sz+k by omega]at this
  exact this
 |e::es,B,off,sz,F,i+1,h,hi=>by
  obtain⟨F1,F2,h1,h2,h3,h4,h5⟩:=h;obtain⟨G,R,k0,k1,k3,k4,k5⟩:=Zb9 i h3 (by simpa using hi)
  have hoff:off+(i+1)*sz=off+sz+i*sz:=by rw[Nat.add_mul];omega
  refine⟨G,λb=>F1 b∨R b,k0,by rw[hoff];exact k1,λb=>?_,λb hb hb'=>?_,?_⟩
  ·rw[h4 b,k3 b];constructor
   ·rintro(h|h|h)<;>simp[h]
   ·rintro(h|h|h)<;>simp[h]
  ·rcases hb' with hb' |hb'
   ·exact h5 b hb' ((k3 b).2 (.inl hb))
   ·exact k4 b hb hb'
  ·intro w' S' row G' hS hR hk hl hr hG;refine⟨F1,λb=>G' b∨R b,h1,Zcf hS h2 (λb hb=>hR b (.inl hb)) (λk hk'=>?_),?_,λb=>?_,λb hb hb'=>?_⟩
   ·exact hk k (by rw[List.length_cons,Nat.add_mul];omega) (by rw[Nat.add_mul];omega)
   ·refine k5 hS (λb hb=>hR b (.inr hb)) (λk hk1 hk2=>?_) hl (by rw[←hoff];exact hr) (λb hb hb'=>hG b hb (.inr hb'))
    have:=hk (sz+k) (by rw[List.length_cons,Nat.add_mul];omega) (by rw[Nat.add_mul];omega)
    rw[show off+(sz+k)=off+sz+k by omega]at this
    exact this
   ·constructor
    ·rintro(h|h|h)<;>simp[h]
    ·rintro(h|h|h)<;>simp[h]
   ·rcases hb' with hb' |hb'
    ·exact hG b hb' (.inl hb)
    ·exact h5 b hb ((k3 b).2 (.inr hb'))
def putD:D→Path→D→D
 |_,[],d'=>d'
 |.sl o n es,(i,j)::p,d'=>.sl o n (es.set i ((es.getD i []).set j (putD ((es.getD i []).getD j .dead) p d')))
 |d,_::_,_=>d
inductive HeadAt(w:World):D→Value→Path→D→Value→Prop
 |nil (d:D) (v:Value):HeadAt w d v [] d v
 |cons {n:Nat} {es:List (List D)} {B off len cap i j:Nat} {v1:Value} {p:Path} {d':D} {v':Value}:i<es.length→j<(es.getD i []).length→
  w.cell? ⟨B,off+i*n+j,none⟩=some v1→HeadAt w ((es.getD i []).getD j .dead) v1 p d' v'→HeadAt w (.sl true n es) (.slice (some ⟨B,off,none⟩) len cap) ((i,j)::p) d' v'
theorem Zmq{w w':World}{B n:Nat}(h:ownBlk w B n)(hh:w'.heap[B]?=w.heap[B]?):ownBlk w' B n:=by
 obtain⟨cs,t,h1,h2⟩:=h;exact⟨cs,t,hh.trans h1,h2⟩
theorem Zat{α:Type}(l:List α)(i:Nat)(x z:α)(h:i<l.length):(l.set i x).getD i z=x:=by
 rw[List.getD_eq_getElem?_getD,List.getElem?_set_self h];rfl
theorem Zc7{w:World}{S:FP}{d:D}{v:Value}{p:Path}{d':D}{v':Value}(hp:HeadAt w d v p d' v'):∀{F:FP},repD w S d v F→
  ∃(G R:FP),repD w S d' v' G∧(∀b,F b↔G b∨R b)∧(∀b,G b→¬R b)∧
   ∀{w':World} {S':FP} {d2:D} {G':FP},(∀b,S b→S' b∧w'.heap[b]?=w.heap[b]?)→(∀b,R b→w'.heap[b]?=w.heap[b]?)→repD w' S' d2 v' G'→(∀b,G' b→¬R b)→
    repD w' S' (putD d p d2) v (λb=>G' b∨R b)∧HeadAt w' (putD d p d2) v p d2 v':=by
 induction hp with
 |nil d v=>
  intro F h;refine⟨F,λ_=>False,h,by simp,by simp,?_⟩
  intro w' S' d2 G' hS hR hd hG;exact⟨Zhb hd (λb=>by simp),.nil _ _⟩
 |@cons n es B off len cap i j v1 p d' v' hi hj hc hp ih=>
  intro F h;obtain⟨A,c2,he,hcap,h⟩:=h;injection he with he1 he2 he3;subst he1 he2 he3;rcases h with⟨hA,_⟩|⟨B',off',F',hA,hr,hown⟩
  ·simp at hA
  injection hA with hA;injection hA with hB hO;subst hB hO;rcases hown with⟨_,hnB,hF,hblk⟩|⟨ho,_⟩
  ·obtain⟨G1,R1,hl,hrow,hF1,hd1,back1⟩:=Zb9 i hr hi;obtain⟨u,G2,R2,hcell,hrep,hF2,hd2,back2⟩:=Zf2 j hrow hj;rw[hc]at hcell;injection hcell with hcell;subst hcell;obtain⟨G3,R3,hrep3,hF3,hd3,back3⟩:=ih hrep;refine⟨G3,λb=>b=B∨R1 b∨R2 b∨R3 b,hrep3,λb=>?_,λb hb hb'=>?_,?_⟩
   ·rw[hF b,hF1 b,hF2 b,hF3 b];constructor
    ·rintro(h|((h|h)|h)|h)<;>simp[h]
    ·rintro(h|h|h|h|h)<;>simp[h]
   ·have g2:G2 b:=(hF3 b).2 (.inl hb);have g1:G1 b:=(hF2 b).2 (.inl g2);rcases hb' with rfl|hb' |hb' |hb'
    ·exact hnB ((hF1 b).2 (.inl g1))
    ·exact hd1 b g1 hb'
    ·exact hd2 b g2 hb'
    ·exact hd3 b hb hb'
   ·intro w' S' d2 G' hS hR hd hG;have hBh:w'.heap[B]?=w.heap[B]?:=hR B (.inl rfl);obtain⟨hput,hhead⟩:=back3 hS (λb hb=>hR b (.inr (.inr (.inr hb)))) hd (λb hb hb'=>hG b hb (.inr (.inr (.inr hb'))));have dis1:∀b,(G' b∨R3 b)→¬R2 b:=λb hb hb'=>by
     rcases hb with hb|hb
     ·exact hG b hb (.inr (.inr (.inl hb')))
     ·exact hd2 b ((hF3 b).2 (.inr hb)) hb'
    have row2:=back2 hS (λb hb=>hR b (.inr (.inr (.inl hb)))) (λk _ _=>Za3 hBh _) ((Za3 hBh _).trans hc) hput dis1;have dis2:∀b,((G' b∨R3 b)∨R2 b)→¬R1 b:=λb hb hb'=>by
     rcases hb with(hb|hb)|hb
     ·exact hG b hb (.inr (.inl hb'))
     ·exact hd1 b ((hF2 b).2 (.inl ((hF3 b).2 (.inr hb)))) hb'
     ·exact hd1 b ((hF2 b).2 (.inr hb)) hb'
    have rows2:=back1 hS (λb hb=>hR b (.inr (.inl hb))) (λk _ _=>Za3 hBh _) (by simpa using hl) row2 dis2
    refine⟨⟨_,_,by rw[List.length_set],by rw[List.length_set];exact hcap,.inr ⟨B,off,_,rfl,rows2,.inl ⟨rfl,?_,λb=>?_,⟨Zmq hblk.1 hBh,hblk.2⟩⟩⟩⟩,?_⟩
    ·rintro(((hb|hb)|hb)|hb)
     ·exact hG B hb (.inl rfl)
     ·exact hnB ((hF1 B).2 (.inl ((hF2 B).2 (.inl ((hF3 B).2 (.inr hb))))))
     ·exact hnB ((hF1 B).2 (.inl ((hF2 B).2 (.inr hb))))
     ·exact hnB ((hF1 B).2 (.inr hb))
    ·constructor
     ·rintro(h|h|h|h|h)<;>simp[h]
     ·rintro(h|((h|h)|h)|h)<;>simp[h]
    ·refine .cons (by rw[List.length_set];exact hi) ?_ ((Za3 hBh _).trans hc) ?_
     ·rw[Zat _ _ _ _ hi,List.length_set];exact hj
     ·rw[Zat _ _ _ _ hi,Zat _ _ _ _ hj];exact hhead
  ·cases ho
theorem Zmh{w:World}{d:D}{v:Value}{p:Path}{d':D}{v':Value}(h:HeadAt w d v p d' v'):d'.rows=rowsAt d.rows p∨p=[]∧d'=d:=by
 induction h with
 |nil d v=>exact .inr ⟨rfl,rfl⟩
 |cons hi hj hc hp ih=>
  left;rcases ih with ih|⟨rfl,rfl⟩
  ·simpa[rowsAt,D.rows]using ih
  ·simp[rowsAt,D.rows]
theorem Zdj{w:World}{d:D}{v:Value}{p:Path}{d':D}{v':Value}(h:HeadAt w d v p d' v'):d'.rows=rowsAt d.rows p:=by
 rcases Zmh h with h|⟨rfl,rfl⟩
 ·exact h
 ·rfl
theorem Zll{w:World}{d:D}{v:Value}{p:Path}{d':D}{v':Value}(h:HeadAt w d v p d' v')(f:List (List D)→List (List D)):∀{n:Nat} {es:List (List D)} {o:Bool},d'=.sl o n es→
  ∀{n0:Nat} {es0:List (List D)} {o0:Bool},d=.sl o0 n0 es0→putD d p (.sl o n (f es))=.sl o0 n0 (modAt f es0 p):=by
 induction h with
 |nil d v=>intro n es o h1 n0 es0 o0 h2;rw[h1]at h2;injection h2 with a b c;subst a b c;rfl
 |@cons n1 es1 B off len cap i j v1 p d' v' hi hj hc hp ih=>
  intro n es o h1 n0 es0 o0 h2;injection h2 with a b c;subst a b c;cases hd:(es1.getD i []).getD j .dead with
  |sl o2 n2 es2=>
   have:=ih h1 hd;simp only[putD,modAt,hd];rw[hd]at this;rw[this]
  |int k m=>rw[hd]at hp;cases hp;cases h1
  |bool x=>rw[hd]at hp;cases hp;cases h1
  |str x=>rw[hd]at hp;cases hp;cases h1
  |dead=>rw[hd]at hp;cases hp;cases h1
theorem Zjk{w:World}{d:D}{v:Value}{p:Path}{d':D}{v':Value}(h:HeadAt w d v p d' v'):p≠[]→∀{n0:Nat} {es0:List (List D)} {o0:Bool},d=.sl o0 n0 es0→putD d p .dead=.sl o0 n0 (killAt es0 p):=by
 induction h with
 |nil d v=>intro h;exact absurd rfl h
 |@cons n1 es1 B off len cap i j v1 p d' v' hi hj hc hp ih=>
  intro _ n0 es0 o0 h2;injection h2 with a b c;subst a b c;cases p with
  |nil=>simp[putD,killAt]
  |cons x p=>
   cases hd:(es1.getD i []).getD j .dead with
   |sl o2 n2 es2=>
    have:=ih (by simp) hd
    rw[hd]at this;simp only[putD,killAt,hd];simp only[putD]at this;rw[this]
   |int k m=>rw[hd]at hp;cases hp
   |bool x=>rw[hd]at hp;cases hp
   |str x=>rw[hd]at hp;cases hp
   |dead=>rw[hd]at hp;cases hp
theorem Zck(xs:List D)(j:Nat)(vs:List D)(h:j+vs.length≤xs.length):(splice xs j vs).length=xs.length:=by
 unfold splice;simp;omega
theorem Zfl{w:World}{S:FP}{row:List D}{B off j n:Nat}{F:FP}(h:repRow w S row B off F)(hj:j+n≤row.length):
  ∃(G R:FP),repRow w S ((row.drop j).take n) B (off+j) G∧(∀b,F b↔G b∨R b)∧(∀b,G b→¬R b)∧
   ∀{w':World} {S':FP} {ds:List D} {G':FP},ds.length=n→(∀b,S b→S' b∧w'.heap[b]?=w.heap[b]?)→(∀b,R b→w'.heap[b]?=w.heap[b]?)→
    (∀k,k<row.length→¬(j≤k∧k<j+n)→w'.cell? ⟨B,off+k,none⟩=w.cell? ⟨B,off+k,none⟩)→repRow w' S' ds B (off+j) G'→(∀b,G' b→¬R b)→
    repRow w' S' (splice row j ds) B off (λb=>G' b∨R b):=by
 have e:row=row.take j++((row.drop j).take n++row.drop (j+n)):=by
  rw[←List.drop_drop,List.take_append_drop,List.take_append_drop]
 rw[e]at h;obtain⟨F1,F2,h1,h2,h3,h4⟩:=Zbr.1 h;obtain⟨F3,F4,k1,k2,k3,k4⟩:=Zbr.1 h2;have l1:(row.take j).length=j:=by rw[List.length_take];omega
 have l2:((row.drop j).take n).length=n:=by rw[List.length_take,List.length_drop];omega
 rw[l1]at k1 k2;rw[l2]at k2;refine⟨F3,λb=>F1 b∨F4 b,k1,λb=>?_,λb hb hb'=>?_,?_⟩
 ·rw[h3 b,k3 b];constructor
  ·rintro(h|h|h)<;>simp[h]
  ·rintro(h|h|h)<;>simp[h]
 ·rcases hb' with hb' |hb'
  ·exact h4 b hb' ((k3 b).2 (.inl hb))
  ·exact k4 b hb hb'
 ·intro w' S' ds G' hl hS hR hk hd hG;have r1:repRow w' S' (row.take j) B off F1:=Zcf hS h1 (λb hb=>hR b (.inl hb)) (λk hk'=>hk k (by omega) (by omega))
  have r4:repRow w' S' (row.drop (j+n)) B (off+j+n) F4:=Zcf hS k2 (λb hb=>hR b (.inr hb)) (λk hk'=>by
   have:=hk (j+n+k) (by rw[List.length_drop]at hk';omega) (by omega)
   rw[show off+(j+n+k)=off+j+n+k by omega]at this
   exact this)
  unfold splice;rw[List.append_assoc,hl];refine Zbr.2 ⟨F1,λb=>G' b∨F4 b,r1,?_,λb=>?_,λb hb hb'=>?_⟩
  ·rw[l1];refine Zbr.2 ⟨G',F4,hd,by rw[hl];exact r4,λb=>Iff.rfl,λb hb hb'=>hG b hb (.inr hb')⟩
  ·constructor
   ·rintro(h|h|h)<;>simp[h]
   ·rintro(h|h|h)<;>simp[h]
  ·rcases hb' with hb' |hb'
   ·exact hG b hb' (.inl hb)
   ·exact h4 b hb ((k3 b).2 (.inr hb'))
end Go.Ev
