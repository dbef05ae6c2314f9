/- A call's return, on the caller's side: roots that were out come back. -/
import Derived.Test.YtihhlajibgoemaaGreatEvArgs
import Derived.Test.YtihhlajibgoemaaGreatEvOpEff
namespace Go.Ev
open Go.RowKit
set_option linter.unusedVariables false
set_option linter.unusedSimpArgs false
section
variable {w w' : World} {S : FP}
theorem Z2i{M:Mem}{L:Lay}{r:Nat}{x:Root}{hd:Value}{F:FP}(hm:MemRep w S M L)(hdead:(M r).live=false)(hb:x.born=true)(hr:repD w S (rootD x) hd F)
  (hF:∀b,F b→b<w.heap.size∧¬S b) (hd2:∀k,(M k).live=true→∀b,F b→¬L.fp k b):
  MemRep w S (λk=>if k=r then x else M k) ⟨λk=>if k=r then hd else L.hd k,λk=>if k=r then F else L.fp k⟩:=by
 refine⟨λk hk=>?_,λk hk=>?_,λk hk b hb=>?_,λk k' hk hk' hne b hb hb'=>?_,hm.lent⟩
 ·by_cases hkn:k=r
  ·subst hkn;simp only[if_true];exact hr
  ·simp only[if_neg hkn]at hk ⊢;exact hm.rep k hk
 ·by_cases hkn:k=r
  ·subst hkn;simp only[if_true];exact hb
  ·simp only[if_neg hkn]at hk ⊢;exact hm.born k hk
 ·by_cases hkn:k=r
  ·subst hkn;simp only[if_true]at hb;exact hF b hb
  ·simp only[if_neg hkn]at hk hb;exact hm.own k hk b hb
 ·by_cases hkn:k=r
  ·by_cases hkn':k'=r
   ·exact hne (hkn.trans hkn'.symm)
   ·subst hkn;simp only[if_true]at hb;simp only[if_neg hkn']at hk' hb';exact hd2 k' hk' b hb hb'
  ·simp only[if_neg hkn]at hk hb;by_cases hkn':k'=r
   ·subst hkn';simp only[if_true]at hb';exact hd2 k hk b hb' hb
   ·simp only[if_neg hkn']at hk' hb';exact hm.apart k k' hk hk' hne b hb hb'
def holes(M:Mem)(X:List Nat):Mem:=λr=>if r∈X then { M r with live:=false }else M r
theorem Zb3{M:Mem}{X:List Nat}{r:Nat}(h:(holes M X r).live=true):r∉X∧(M r).live=true∧holes M X r=M r:=by
 unfold holes at h⊢;by_cases hr:r∈X
 ·rw[if_pos hr]at h;cases h
 ·rw[if_neg hr]at h ⊢;exact⟨hr,h,rfl⟩
theorem Zlg{M:Mem}{L:Lay}{X:List Nat}(hm:MemRep w S M L)(hsz:w.heap.size≤w'.heap.size)(hS:∀b,S b→w'.heap[b]?=w.heap[b]?)(hR:∀r,r∉X→(M r).live=true→∀b,L.fp r b→w'.heap[b]?=w.heap[b]?):
  MemRep w' S (holes M X) L:=by
 refine⟨λr hr=>?_,λr hr=>?_,λr hr b hb=>?_,λr r' hr hr' hne=>?_,λb hb=>Nat.lt_of_lt_of_le (hm.lent b hb) hsz⟩
 ·obtain⟨h1,h2,h3⟩:=Zb3 hr;rw[h3];exact Zbp (λb hb=>⟨hb,hS b hb⟩) (hm.rep r h2) (hR r h1 h2)
 ·obtain⟨h1,h2,h3⟩:=Zb3 hr;rw[h3];exact hm.born r h2
 ·obtain⟨h1,h2,h3⟩:=Zb3 hr;have:=hm.own r h2 b hb;exact⟨Nat.lt_of_lt_of_le this.1 hsz,this.2⟩
 ·obtain⟨h1,h2,h3⟩:=Zb3 hr;obtain⟨h1',h2',h3'⟩:=Zb3 hr';exact hm.apart r r' h2 h2' hne
theorem Zjt:∀(row:List D) (k:Nat),pinned [] k row=row
 |[],_=>rfl
 |d::ds,k=>by
  show d::pinned [] (k+1) ds=_;rw[Zjt ds]
theorem Zl9:∀(row old:List D) (k:Nat),unpin [] k row old=row
 |[],_,_=>rfl
 |d::ds,old,k=>by
  show d::unpin [] (k+1) ds old.tail=_;rw[Zl9 ds]
theorem Zt4(p:List Nat)(row:List D):pinRow p row=pinned p 0 row:=by
 unfold pinRow;cases p with
 |nil=>rw[Zjt];rfl
 |cons=>rfl
theorem Zmx(p:List Nat)(row old:List D):unpinRow p row old=unpin p 0 row old:=by
 unfold unpinRow;cases p with
 |nil=>rw[Zl9];rfl
 |cons=>rfl
theorem Zgk(p:List Nat):∀(row:List D) (k:Nat),(pinned p k row).length=row.length
 |[],_=>rfl
 |d::ds,k=>by simp[pinned,Zgk p ds]
theorem Zhs(p:List Nat):∀(row old:List D) (k:Nat),(unpin p k row old).length=row.length
 |[],_,_=>rfl
 |d::ds,old,k=>by simp[unpin,Zhs p ds]
theorem Zj4(p:List Nat):∀(row old:List D) (k m:Nat),row.length≤m→unpin p k row (old.take m)=unpin p k row old
 |[],_,_,_,_=>rfl
 |d::ds,old,k,0,h=>by simp at h
 |d::ds,old,k,m+1,h=>by
  have ih:=Zj4 p ds old.tail (k+1) m (by simpa using h)
  cases old with
  |nil=>rfl
  |cons o old=>
   simp only[List.take_succ_cons,unpin,List.headD_cons,List.tail_cons];rw[show unpin p (k+1) ds (old.take m)=unpin p (k+1) ds old from ih]
theorem Zny(p:List Nat):∀(row old:List D) (k i:Nat),i<row.length→i<old.length→p.contains (k+i)=true→(unpin p k row old).getD i .dead=old.getD i .dead
 |[],_,_,_,h,_,_=>by simp at h
 |d::ds,[],_,_,_,h,_=>by simp at h
 |d::ds,o::old,k,0,_,_,h=>by
  simp only[unpin,List.getD_cons_zero,List.headD_cons];rw[show p.contains k=true from h];rfl
 |d::ds,o::old,k,i+1,h1,h2,h=>by
  simp only[unpin,List.getD_cons_succ,List.tail_cons];exact Zny p ds old (k+1) i (by simpa using h1) (by simpa using h2) (by rw[show k+1+i=k+(i+1) by omega];exact h)
theorem Zj3(p:List Nat):∀(row old:List D) (k:Nat),(∀i,i<row.length→p.contains (k+i)=true→row.getD i .dead=.dead)→(unpin p k row old).all D.noSl=true→row.all D.noSl=true
 |[],_,_,_,_=>rfl
 |d::ds,old,k,hd,h=>by
  simp only[unpin,List.all_cons,Bool.and_eq_true]at h⊢;refine⟨?_,Zj3 p ds old.tail (k+1) (λi hi hp=>?_) h.2⟩
  ·cases hp:p.contains k with
   |true=>
    have:=hd 0 (by simp) hp
    simp only[List.getD_cons_zero]at this;rw[this];rfl
   |false=>
    have h1:=h.1;rw[hp]at h1;exact h1
  ·have:=hd (i+1) (by simpa using hi) (by rw[show k+(i+1)=k+1+i by omega];exact hp)
   simpa using this
theorem Zlw{B:Nat}(p:List Nat):∀{row:List D} {k off:Nat} {G:FP},repRow w S row B off G→∃Gu Gp:FP,repRow w S (pinned p k row) B off Gu∧(∀b,G b↔Gu b∨Gp b)∧(∀b,Gu b→¬Gp b)∧(p=[]→∀b,¬Gp b)∧
  ∀{w':World} {ds:List D} {G':FP},ds.length=row.length→(∀b,S b→w'.heap[b]?=w.heap[b]?)→(∀b,Gp b→w'.heap[b]?=w.heap[b]?)→(∀i,i<row.length→p.contains (k+i)=true→w'.cell? ⟨B,off+i,none⟩=w.cell? ⟨B,off+i,none⟩)→
   (∀i,i<row.length→p.contains (k+i)=true→ds.getD i .dead=.dead)→repRow w' S ds B off G'→(∀b,G' b→¬Gp b)→repRow w' S (unpin p k ds row) B off (λb=>G' b∨Gp b)
 |[],k,off,G,h=>by
  refine⟨λ_=>False,λ_=>False,λ_ h=>h,λb=>⟨λhb=>absurd hb (h b),λhb=>by simp at hb⟩,λ_ h=>h.elim,λ_ _ h=>h,λ{w' ds G'} hl _ _ _ _ h' _=>?_⟩
  have:ds=[]:=List.eq_nil_of_length_eq_zero hl;subst this;exact λb hb=>hb.elim (h' b) (λh=>h)
 |d::row,k,off,G,h=>by
  obtain⟨v,F1,F2,h1,h2,h3,h4,h5⟩:=h;obtain⟨Gu,Gp,a1,a2,a3,a5,a4⟩:=Zlw (k:=k+1) p h3;have tail:∀{w':World} {e:D} {ds:List D},(∀i,i<(d::row).length→p.contains (k+i)=true→w'.cell? ⟨B,off+i,none⟩=w.cell? ⟨B,off+i,none⟩)→(∀i,i<(d::row).length→p.contains (k+i)=true→(e::ds).getD i .dead=.dead)→
    (∀i,i<row.length→p.contains (k+1+i)=true→w'.cell? ⟨B,off+1+i,none⟩=w.cell? ⟨B,off+1+i,none⟩)∧(∀i,i<row.length→p.contains (k+1+i)=true→ds.getD i .dead=.dead):=by
   intro w' e ds hc hd;refine⟨λi hi hp=>?_,λi hi hp=>?_⟩
   ·rw[show off+1+i=off+(i+1) by omega]
    exact hc (i+1) (by simpa using hi) (by rw[show k+(i+1)=k+1+i by omega];exact hp)
   ·have:=hd (i+1) (by simpa using hi) (by rw[show k+(i+1)=k+1+i by omega];exact hp)
    simpa using this
  cases hp:p.contains k with
  |true=>
   refine⟨Gu,λb=>F1 b∨Gp b,?_,λb=>?_,λb hb hb'=>?_,λhn=>by subst hn;simp at hp,?_⟩
   ·simp only[pinned,hp,cond_true];exact⟨v,λ_=>False,Gu,h1,⟨Zgm h2,λ_ h=>h⟩,a1,λb=>by simp,λ_ h=>h.elim⟩
   ·rw[h4 b,a2 b];constructor
    ·rintro(h|h|h)<;>simp[h]
    ·rintro(h|h|h)<;>simp[h]
   ·rcases hb' with hb' |hb'
    ·exact h5 b hb' ((a2 b).2 (.inl hb))
    ·exact a3 b hb hb'
   ·intro w' ds G' hl hS hG hc hd h' hdis
    match ds,hl,h' with
    |e::ds,hl,h'=>
     obtain⟨t1,t2⟩:=tail hc hd;have he:e=.dead:=by simpa using hd 0 (by simp) hp
     subst he;obtain⟨v',K1,K2,b1,b2,b3,b4,b5⟩:=h';have hK1:∀b,¬K1 b:=b2.2;have ih:=a4 (w':=w') (ds:=ds) (G':=K2) (by simpa using hl) hS (λb hb=>hG b (.inr hb)) t1 t2 b3 (λb hb hb'=>hdis b ((b4 b).2 (.inr hb)) (.inr hb'))
     simp only[unpin,hp,cond_true,List.headD_cons,List.tail_cons];refine⟨v,F1,_,(hc 0 (by simp) hp).trans h1,Zbp (λb hb=>⟨hb,hS b hb⟩) h2 (λb hb=>hG b (.inl hb)),ih,λb=>?_,λb hb hb'=>?_⟩
     ·show G' b∨(F1 b∨Gp b)↔F1 b∨(K2 b∨Gp b);rw[b4 b];constructor
      ·rintro((h|h)|h|h)
       ·exact absurd h (hK1 b)
       ·exact .inr (.inl h)
       ·exact .inl h
       ·exact .inr (.inr h)
      ·rintro(h|h|h)
       ·exact .inr (.inl h)
       ·exact .inl (.inr h)
       ·exact .inr (.inr h)
     ·rcases hb' with hb' |hb'
      ·exact hdis b ((b4 b).2 (.inr hb')) (.inl hb)
      ·exact h5 b hb ((a2 b).2 (.inr hb'))
    |[],hl,_=>simp at hl
  |false=>
   refine⟨λb=>F1 b∨Gu b,Gp,?_,λb=>?_,λb hb hb'=>?_,a5,?_⟩
   ·simp only[pinned,hp,cond_false];exact⟨v,F1,Gu,h1,h2,a1,λb=>Iff.rfl,λb hb hb'=>h5 b hb ((a2 b).2 (.inl hb'))⟩
   ·rw[h4 b,a2 b];exact or_assoc.symm
   ·rcases hb with hb|hb
    ·exact h5 b hb ((a2 b).2 (.inr hb'))
    ·exact a3 b hb hb'
   ·intro w' ds G' hl hS hG hc hd h' hdis
    match ds,hl,h' with
    |e::ds,hl,h'=>
     obtain⟨t1,t2⟩:=tail hc hd;obtain⟨v',K1,K2,b1,b2,b3,b4,b5⟩:=h';have ih:=a4 (w':=w') (ds:=ds) (G':=K2) (by simpa using hl) hS hG t1 t2 b3 (λb hb hb'=>hdis b ((b4 b).2 (.inr hb)) hb')
     simp only[unpin,hp,cond_false,List.tail_cons];refine⟨v',K1,_,b1,b2,ih,λb=>?_,λb hb hb'=>?_⟩
     ·show G' b∨Gp b↔K1 b∨(K2 b∨Gp b);rw[b4 b];exact or_assoc
     ·rcases hb' with hb' |hb'
      ·exact b5 b hb hb'
      ·exact hdis b ((b4 b).2 (.inl hb)) hb'
    |[],hl,_=>simp at hl
def Handed(P:Program)(w:World)(S Sc:FP)(M1:Mem)(L1:Lay)(t:TypeId)(o:Bool)(p:List Nat)(tv:TV)(row:List D)(v:Value)(F:FP):Prop:=
 ∃(r ga gh:Nat) (q:Path) (n i j B c:Nat) (Go Ro:FP),tv=.v false [.ptr r ga gh q n i j]∧okView (M1 r) ga gh q=true∧v=.pointer (some ⟨B,c,none⟩)∧row.length=P.cellsOf (elemOf P t)∧argRep P w Sc t (.inout o p) row v F∧
  (∀b,F b↔b=B∨Go b)∧(∀b,L1.fp r b↔F b∨Ro b)∧(∀b,F b→¬Ro b)∧((leavesP P p (elemOf P t)).any Leaf.isSl=true∨∀b,¬Go b)∧
  ∀{w':World} {ds:List D} {G:FP},ds.length=row.length→(∀b,S b→w'.heap[b]?=w.heap[b]?)→(∀b,Ro b→w'.heap[b]?=w.heap[b]?)→Within w w' (.slice (some ⟨B,c,none⟩) 1 1) row.length p→(∀k,k<row.length→p.contains k=true→ds.getD k .dead=.dead)→
   repRow w' S ds B c G→(∀b,G b→b≠B∧¬Ro b)→
   repD w' S (rootD (putRoot (M1 r) q i j n (unpinRow p ds (((rowsAt (M1 r).es q).getD i []).drop j)) p)) (L1.hd r) (λb=>b=B∨G b∨Ro b)∧(putRoot (M1 r) q i j n (unpinRow p ds (((rowsAt (M1 r).es q).getD i []).drop j)) p).es.length=(M1 r).es.length∧
   ((ds.all D.noSl=true→∀b,L1.fp r b→b≠B→w'.heap[b]?=w.heap[b]?)→Keeps w w' (M1 r) (putRoot (M1 r) q i j n (unpinRow p ds (((rowsAt (M1 r).es q).getD i []).drop j)) p) (L1.hd r) (L1.hd r))∧
   Within w w' (L1.hd r) ((M1 r).es.length*(M1 r).sz) (M1 r).pin
theorem Zu5:∀{ds:List D} {B off:Nat} {F:FP},repRow w S ds B off F→ds.all D.noSl=true→∀b,¬F b:=by
 intro ds B off F h hn;obtain⟨vs,h1,_⟩:=Zkr h;exact Zeh h1 hn
theorem Z0i{P:Program}{Sc:FP}{M1:Mem}{L1:Lay}{t:TypeId}{o:Bool}{p:List Nat}{tv:TV}{row:List D}{v:Value}{G:FP}(hm:MemRep w S M1 L1)(hS:∀b,S b→Sc b)(h:argDone P w S Sc M1 L1 t (.inout o p) tv row v G):∃F,Handed P w S Sc M1 L1 t o p tv row v F:=by
 obtain⟨_,r,ga,gh,q,n,i,j,es,B,off,cap,rfl,hok,hh,hi,⟨hj,hfree⟩,hrow,rfl,hfl⟩:=h;have hl:=Zar hok;obtain⟨Go,Ro,k1,k2,k3,k4,k5,k6,k7,back⟩:=Zvb (hm.rep r hl) hh hi hj (λb hb=>(hm.own r hl b hb).2) (Zg7 hok) hfree;have hes:rowsAt (M1 r).es q=es:=(Zdj hh).symm;obtain⟨Gu,Gp,s1,s2,s3,_,s4⟩:=Zlw (k:=0) p k1;rw[Zt4]at hrow;subst hrow;have hlen0:(pinned p 0 (((es.getD i []).drop j).take (P.cellsOf (elemOf P t)))).length=P.cellsOf (elemOf P t):=by rw[Zgk,k7]
 have hGp:∀b,Gp b→b≠B∧¬Ro b:=λb hb=>⟨λhe=>k3 (he▸(s2 b).2 (.inr hb)),k6 b ((s2 b).2 (.inr hb))⟩;refine⟨λb=>b=B∨Gu b,r,ga,gh,q,n,i,j,B,off+i*n+j,Gu,λb=>Gp b∨Ro b,rfl,hok,rfl,hlen0,⟨B,_,Gu,rfl,Zdd (λb hb=>⟨hS b hb,rfl⟩) s1 (λb _=>rfl) rfl,λhb=>k3 ((s2 B).2 (.inl hb)),λb=>Iff.rfl,by rw[hlen0];exact k2⟩,λb=>Iff.rfl,λb=>?_,λb hb hb'=>?_,hfl.imp id (λh=>Zu5 s1 h),?_⟩
 ·rw[k5 b,s2 b];constructor
  ·rintro(h|(h|h)|h)<;>simp[h]
  ·rintro((h|h)|h|h)<;>simp[h]
 ·rcases hb with rfl|hb
  ·exact hb'.elim (λh=>(hGp _ h).1 rfl) k4
  ·rcases hb' with hb' |hb'
   ·exact s3 b hb hb'
   ·exact k6 b ((s2 b).2 (.inl hb)) hb'
 ·intro w' ds G hlen h1 h2 h3 hdead h4 h5;rw[hlen0]at hlen h3 hdead;rw[hes,Zmx,←Zj4 p ds ((es.getD i []).drop j) 0 (P.cellsOf (elemOf P t)) (by omega)]
  have hcell:∀k,k<P.cellsOf (elemOf P t)→p.contains k=true→w'.cell? ⟨B,off+i*n+j+k,none⟩=w.cell? ⟨B,off+i*n+j+k,none⟩:=by
   intro k hk hp;obtain⟨cs,ty,hblk,_⟩:=k2;obtain⟨cs',hc4,hc5,hc6⟩:=h3 B _ 1 1 rfl cs ty _ hblk;unfold World.cell?;simp only[hc4,hblk];exact hc6 _ (λh=>h.2.2 (by rw[show off+i*n+j+k-(off+i*n+j)=k by omega];simpa using hp))
  have hrow':=s4 (w':=w') (ds:=ds) (G':=G) (by rw[k7];exact hlen) h1 (λb hb=>h2 b (.inl hb)) (λk hk hp=>by rw[k7]at hk;rw[Nat.zero_add]at hp;exact hcell k hk hp) (λk hk hp=>by rw[k7]at hk;rw[Nat.zero_add]at hp;exact hdead k hk hp) h4 (λb hb hb'=>(h5 b hb).2 (.inl hb'))
  obtain⟨c1,c2,c3,c4⟩:=back (w':=w') (ds:=unpin p 0 ds (((es.getD i []).drop j).take (P.cellsOf (elemOf P t)))) (G:=λb=>G b∨Gp b) (by rw[Zhs];exact hlen) h1 (λb hb=>h2 b (.inr hb)) h3 (λk hk hp=>by
    rw[Zny p ds _ 0 k (by omega) (by omega) (by rw[Nat.zero_add];simpa using hp)]
    simp only[List.getD_eq_getElem?_getD,List.getElem?_take_of_lt hk,List.getElem?_drop]) hrow' (λb hb=>by
    rcases hb with hb|hb
    ·exact⟨(h5 b hb).1,λhx=>(h5 b hb).2 (.inr hx)⟩
    ·exact hGp b hb)
  refine⟨Zhb c1 (λb=>?_),c2,λhk=>c3 (λhns=>hk (Zj3 p _ _ 0 (λk hk hp=>by rw[Nat.zero_add]at hp;exact hdead k (by omega) hp) hns)),c4⟩
  constructor
  ·rintro(h|(h|h)|h)<;>simp[h]
  ·rintro(h|h|h|h)<;>simp[h]
def inRoots:List (Mode×TypeId)→List TV→List Nat
 |(.inout _ _,_)::ms,v::vs=>v.roots++inRoots ms vs
 |_::ms,_::vs=>inRoots ms vs
 |_,_=>[]
def inApart:List (Mode×TypeId)→List TV→Prop
 |(.inout _ _,_)::ms,v::vs=>(∀r∈v.roots,r∉inRoots ms vs)∧inApart ms vs
 |_::ms,_::vs=>inApart ms vs
 |_,_=>True
def argsOut(P:Program)(w:World)(S Sc:FP)(M1:Mem)(L1:Lay):List (Mode×TypeId)→List TV→List (List D)→List Value→FP→Prop
 |[],[],[],[],F=>∀b,¬F b
 |(.inout o p,t)::ms,tv::tvs,row::rows,v::vs,F=>∃F1 F2,Handed P w S Sc M1 L1 t o p tv row v F1∧argsOut P w S Sc M1 L1 ms tvs rows vs F2∧(∀b,F b↔F1 b∨F2 b)∧∀b,F1 b→¬F2 b
 |(m,t)::ms,tv::tvs,row::rows,v::vs,F=>∃F1 F2,argDone P w S Sc M1 L1 t m tv row v F1∧argsOut P w S Sc M1 L1 ms tvs rows vs F2∧(∀b,F b↔F1 b∨F2 b)∧∀b,F1 b→¬F2 b
 |_,_,_,_,_=>False
theorem Zdp{P:Program}{Sc:FP}{M1:Mem}{L1:Lay}(hm:MemRep w S M1 L1)(hS:∀b,S b→Sc b):∀{mts:List (Mode×TypeId)} {tvs:List TV} {rows:List (List D)} {vs:List Value} {G:FP},inApart mts tvs→argsDone P w S Sc M1 L1 mts tvs rows vs G→
  (∀b,G b→b<w.heap.size∧¬S b∧∀r,(M1 r).live=true→¬L1.fp r b)→
  ∃F,argsOut P w S Sc M1 L1 mts tvs rows vs F∧argsRep P w Sc mts rows vs F∧∀b,F b→G b∨∃r,r∈inRoots mts tvs∧(M1 r).live=true∧L1.fp r b
 |[],[],[],[],G,_,h,_=>⟨λ_=>False,λ_ h=>h,λ_ h=>h,λ_ h=>h.elim⟩
 |(.inout o p,t)::ms,tv::tvs,row::rows,v::vs,G,hap,h,hG=>by
  obtain⟨G1,G2,h1,h2,h3,h4⟩:=h;obtain⟨F2,a1,a2,a3⟩:=Zdp hm hS hap.2 h2 (λb hb=>hG b ((h3 b).2 (.inr hb)));obtain⟨F1,hh⟩:=Z0i hm hS h1;have hh':=hh;obtain⟨r,ga,gh,q,n,i,j,B,c,Go,Ro,rfl,hok,rfl,_,harg,hFB,hfp,_⟩:=hh';have hl:=Zar hok;have hr:r∈(TV.v false [C.ptr r ga gh q n i j]).roots:=by simp[TV.roots,C.roots]
  have hdis:∀b,F1 b→¬F2 b:=λb hb hb2=>by
   have hf:L1.fp r b:=(hfp b).2 (.inl hb);rcases a3 b hb2 with hg|⟨r',hr',hl',hf'⟩
   ·exact(hG b ((h3 b).2 (.inr hg))).2.2 r hl hf
   ·exact hm.apart r r' hl hl' (λhe=>hap.1 r hr (he▸hr')) b hf hf'
  refine⟨λb=>F1 b∨F2 b,⟨F1,F2,hh,a1,λb=>Iff.rfl,hdis⟩,⟨F1,F2,harg,a2,λb=>Iff.rfl,hdis⟩,λb hb=>?_⟩;rcases hb with hb|hb
  ·exact .inr ⟨r,by unfold inRoots;exact List.mem_append_left _ hr,hl,(hfp b).2 (.inl hb)⟩
  ·rcases a3 b hb with hg|⟨r',hr',hl',hf'⟩
   ·exact .inl ((h3 b).2 (.inr hg))
   ·exact .inr ⟨r',by unfold inRoots;exact List.mem_append_right _ hr',hl',hf'⟩
 |(.lend,t)::ms,tv::tvs,row::rows,v::vs,G,hap,h,hG=>by
  obtain⟨G1,G2,h1,h2,h3,h4⟩:=h;obtain⟨F2,a1,a2,a3⟩:=Zdp hm hS (mts:=ms) (tvs:=tvs) hap h2 (λb hb=>hG b ((h3 b).2 (.inr hb)));refine⟨λb=>G1 b∨F2 b,⟨G1,F2,h1,a1,λb=>Iff.rfl,λb hb=>absurd hb (h1.1 b)⟩,⟨G1,F2,h1,a2,λb=>Iff.rfl,λb hb=>absurd hb (h1.1 b)⟩,λb hb=>?_⟩;rcases hb with hb|hb
  ·exact absurd hb (h1.1 b)
  ·exact(a3 b hb).imp (λhg=>(h3 b).2 (.inr hg)) id
 |(.ro,t)::ms,tv::tvs,row::rows,v::vs,G,hap,h,hG=>by
  obtain⟨G1,G2,h1,h2,h3,h4⟩:=h;obtain⟨F2,a1,a2,a3⟩:=Zdp hm hS (mts:=ms) (tvs:=tvs) hap h2 (λb hb=>hG b ((h3 b).2 (.inr hb)));refine⟨λb=>G1 b∨F2 b,⟨G1,F2,h1,a1,λb=>Iff.rfl,λb hb=>absurd hb (h1.1 b)⟩,⟨G1,F2,h1,a2,λb=>Iff.rfl,λb hb=>absurd hb (h1.1 b)⟩,λb hb=>?_⟩;rcases hb with hb|hb
  ·exact absurd hb (h1.1 b)
  ·exact(a3 b hb).imp (λhg=>(h3 b).2 (.inr hg)) id
 |(.give,t)::ms,tv::tvs,row::rows,v::vs,G,hap,h,hG=>by
  obtain⟨G1,G2,h1,h2,h3,h4⟩:=h;obtain⟨F2,a1,a2,a3⟩:=Zdp hm hS (mts:=ms) (tvs:=tvs) hap h2 (λb hb=>hG b ((h3 b).2 (.inr hb)));have hdis:∀b,G1 b→¬F2 b:=λb hb hb2=>by
   rcases a3 b hb2 with hg|⟨r',hr',hl',hf'⟩
   ·exact h4 b hb hg
   ·exact(hG b ((h3 b).2 (.inl hb))).2.2 r' hl' hf'
  have hsc:datRep w Sc row v.cells.toList G1:=by
   have:∀{ds:List D} {us:List Value} {F:FP},datRep w S ds us F→datRep w Sc ds us F:=by
    intro ds;induction ds with
    |nil=>intro us F h;cases us<;>exact h
    |cons d ds ih=>
     intro us F h;cases us with
     |nil=>exact h
     |cons u us=>
      obtain⟨A1,A2,b1,b2,b3,b4⟩:=h;exact⟨A1,A2,Zbp (λb hb=>⟨hS b hb,rfl⟩) b1 (λb _=>rfl),ih b2,b3,b4⟩
   exact this h1.2.1
  refine⟨λb=>G1 b∨F2 b,⟨G1,F2,h1,a1,λb=>Iff.rfl,hdis⟩,⟨G1,F2,⟨h1.1,hsc⟩,a2,λb=>Iff.rfl,hdis⟩,λb hb=>?_⟩;rcases hb with hb|hb
  ·exact .inl ((h3 b).2 (.inl hb))
  ·exact(a3 b hb).imp (λhg=>(h3 b).2 (.inr hg)) id
 |[],_::_,_,_,_,_,h,_=>h.elim
 |[],[],_::_,_,_,_,h,_=>h.elim
 |[],[],[],_::_,_,_,h,_=>h.elim
 |_::_,[],_,_,_,_,h,_=>h.elim
 |_::_,_::_,[],_,_,_,h,_=>h.elim
 |_::_,_::_,_::_,[],_,_,h,_=>h.elim
end
end Go.Ev
