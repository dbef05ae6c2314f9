/- Writing at a place. -/
import Derived.Test.YtihhlajibgoemaaGreatEvOpAll
namespace Go.Ev
set_option linter.unusedVariables false
set_option linter.unusedSimpArgs false
def modCell(f:List (List D)→List (List D))(es:List (List D))(a b:Nat)(p:Path):D:=
 match cellAt es a b with |.sl o n es'=>.sl o n (modAt f es' p)|d=>d
theorem Zg4(f:List (List D)→List (List D))(es:List (List D))(a b:Nat)(p:Path):modAt f es ((a,b)::p)=set2 es a b (modCell f es a b p):=by
 show(match cellAt es a b with |.sl o n es'=>_|_=>es)=_
 unfold modCell;cases hd:cellAt es a b with
 |sl o n es'=>rfl
 |_=>simp only[];rw[←hd,Zl4]
theorem Zen(f:List (List D)→List (List D))(hf:∀xs,(f xs).length=xs.length)(es:List (List D))(q:Path):(modAt f es q).length=es.length:=by
 match q with
 |[]=>exact hf es
 |(a,b)::p=>rw[Zg4,Zbk]
section
variable {w : World} {S : FP}
theorem Zt7:∀{ds:List D} {B off:Nat} {F:FP} {j k:Nat},repRow w S ds B off F→j<ds.length→k<ds.length→j≠k→
  ∃u G v H,w.cell? ⟨B,off+j,none⟩=some u∧repD w S (ds.getD j .dead) u G∧w.cell? ⟨B,off+k,none⟩=some v∧repD w S (ds.getD k .dead) v H∧(∀b,G b→F b)∧(∀b,H b→F b)∧∀b,G b→¬H b
 |[],B,off,F,j,k,h,hj,hk,hn=>absurd hj (Nat.not_lt_zero _)
 |d::ds,B,off,F,0,0,h,hj,hk,hn=>absurd rfl hn
 |d::ds,B,off,F,0,k+1,h,hj,hk,hn=>by
  obtain⟨v,F1,F2,h1,h2,h3,h4,h5⟩:=h;obtain⟨u,H,k1,k2,k3⟩:=Zcb h3 k (by simpa using hk)
  refine⟨v,F1,u,H,h1,h2,by rw[show off+(k+1)=off+1+k by omega];exact k1,k2,λb hb=>(h4 b).2 (.inl hb),λb hb=>(h4 b).2 (.inr (k3 b hb)),λb hb hb'=>h5 b hb (k3 b hb')⟩
 |d::ds,B,off,F,j+1,0,h,hj,hk,hn=>by
  obtain⟨v,F1,F2,h1,h2,h3,h4,h5⟩:=h;obtain⟨u,H,k1,k2,k3⟩:=Zcb h3 j (by simpa using hj)
  refine⟨u,H,v,F1,by rw[show off+(j+1)=off+1+j by omega];exact k1,k2,h1,h2,λb hb=>(h4 b).2 (.inr (k3 b hb)),λb hb=>(h4 b).2 (.inl hb),λb hb hb'=>h5 b hb' (k3 b hb)⟩
 |d::ds,B,off,F,j+1,k+1,h,hj,hk,hn=>by
  obtain⟨v,F1,F2,h1,h2,h3,h4,h5⟩:=h;obtain⟨u,G,v',H,a1,a2,a3,a4,a5,a6,a7⟩:=Zt7 h3 (j:=j) (k:=k) (by simpa using hj) (by simpa using hk) (by omega)
  exact⟨u,G,v',H,by rw[show off+(j+1)=off+1+j by omega];exact a1,a2,by rw[show off+(k+1)=off+1+k by omega];exact a3,a4,λb hb=>(h4 b).2 (.inr (a5 b hb)),λb hb=>(h4 b).2 (.inr (a6 b hb)),a7⟩
theorem Zbs:∀{es:List (List D)} {B off sz:Nat} {F:FP} (i:Nat),repRows w S es B off sz F→i<es.length→∃G,(es.getD i []).length=sz∧repRow w S (es.getD i []) B (off+i*sz) G∧∀b,G b→F b:=by
 intro es B off sz F i h hi;obtain⟨G,R,h1,h2,h3,_⟩:=Zb9 i h hi;exact⟨G,h1,h2,λb hb=>(h3 b).2 (.inl hb)⟩
theorem Zns:∀{es:List (List D)} {B off sz:Nat} {F:FP} {i k:Nat},repRows w S es B off sz F→i<es.length→k<es.length→i≠k→
  ∃G H,repRow w S (es.getD i []) B (off+i*sz) G∧repRow w S (es.getD k []) B (off+k*sz) H∧(∀b,G b→F b)∧(∀b,H b→F b)∧∀b,G b→¬H b
 |[],B,off,sz,F,i,k,h,hi,hk,hn=>absurd hi (Nat.not_lt_zero _)
 |e::es,B,off,sz,F,0,0,h,hi,hk,hn=>absurd rfl hn
 |e::es,B,off,sz,F,0,k+1,h,hi,hk,hn=>by
  obtain⟨F1,F2,h1,h2,h3,h4,h5⟩:=h;obtain⟨H,_,k1,k2⟩:=Zbs k h3 (by simpa using hk)
  refine⟨F1,H,by simpa using h2,by rw[show off+(k+1)*sz=off+sz+k*sz by rw[Nat.add_mul];omega];exact k1,λb hb=>(h4 b).2 (.inl hb),λb hb=>(h4 b).2 (.inr (k2 b hb)),λb hb hb'=>h5 b hb (k2 b hb')⟩
 |e::es,B,off,sz,F,i+1,0,h,hi,hk,hn=>by
  obtain⟨F1,F2,h1,h2,h3,h4,h5⟩:=h;obtain⟨H,_,k1,k2⟩:=Zbs i h3 (by simpa using hi)
  refine⟨H,F1,by rw[show off+(i+1)*sz=off+sz+i*sz by rw[Nat.add_mul];omega];exact k1,by simpa using h2,λb hb=>(h4 b).2 (.inr (k2 b hb)),λb hb=>(h4 b).2 (.inl hb),λb hb hb'=>h5 b hb' (k2 b hb)⟩
 |e::es,B,off,sz,F,i+1,k+1,h,hi,hk,hn=>by
  obtain⟨F1,F2,h1,h2,h3,h4,h5⟩:=h;obtain⟨G,H,a1,a2,a3,a4,a5⟩:=Zns h3 (i:=i) (k:=k) (by simpa using hi) (by simpa using hk) (by omega)
  exact⟨G,H,by rw[show off+(i+1)*sz=off+sz+i*sz by rw[Nat.add_mul];omega];exact a1,by rw[show off+(k+1)*sz=off+sz+k*sz by rw[Nat.add_mul];omega];exact a2,
   fun b hb=>(h4 b).2 (.inr (a3 b hb)),λb hb=>(h4 b).2 (.inr (a4 b hb)),a5⟩
theorem Zs8{es:List (List D)}{B off sz:Nat}{F:FP}{i j i' j':Nat}(h:repRows w S es B off sz F)(hi:i<es.length)(hj:j<(es.getD i []).length)(hi':i'<es.length)(hj':j'<(es.getD i' []).length)(hn:¬(i=i'∧j=j')):
  ∃u G v H,w.cell? ⟨B,off+i*sz+j,none⟩=some u∧repD w S (cellAt es i j) u G∧w.cell? ⟨B,off+i'*sz+j',none⟩=some v∧repD w S (cellAt es i' j') v H∧(∀b,G b→F b)∧(∀b,H b→F b)∧∀b,G b→¬H b:=by
 by_cases hii:i=i'
 ·subst hii;obtain⟨G,_,h1,h2⟩:=Zbs i h hi;obtain⟨u,G1,v,H1,a1,a2,a3,a4,a5,a6,a7⟩:=Zt7 h1 hj hj' (λhe=>hn ⟨rfl,he⟩);exact⟨u,G1,v,H1,a1,a2,a3,a4,λb hb=>h2 b (a5 b hb),λb hb=>h2 b (a6 b hb),a7⟩
 ·obtain⟨G,H,h1,h2,h3,h4,h5⟩:=Zns h hi hi' hii;obtain⟨u,G1,a1,a2,a3⟩:=Zcb h1 j hj;obtain⟨v,H1,b1,b2,b3⟩:=Zcb h2 j' hj';exact⟨u,G1,v,H1,a1,a2,b1,b2,λb hb=>h3 b (a3 b hb),λb hb=>h4 b (b3 b hb),λb hb hb'=>h5 b (a3 b hb) (b3 b hb')⟩
theorem Zg1{d:D}{v:Value}{q:Path}{n:Nat}{es:List (List D)}{B off len cap:Nat}{F:FP}(hh:HeadAt w d v q (.sl true n es) (.slice (some ⟨B,off,none⟩) len cap))(h:repD w S d v F):F B:=by
 obtain⟨G,R,hG,hF,_,_⟩:=Zc7 hh h;obtain⟨A',cap',he,hcap,hG⟩:=hG;injection he with e1 e2 e3;subst e1;rcases hG with⟨h1,_⟩|⟨B',off',F',hA,hr,hown⟩
 ·simp at h1
 injection hA with hA;injection hA with hB hO;subst hB hO;rcases hown with⟨_,hnB,hFG,_⟩|⟨ho,_⟩
 ·exact(hF B).2 (.inl ((hFG B).2 (.inl rfl)))
 ·cases ho
theorem Zbm{n:Nat}{es:List (List D)}{B off len cap:Nat}{F:FP}(h:repD w S (.sl true n es) (.slice (some ⟨B,off,none⟩) len cap) F):
  ∃F',len=es.length∧es.length≤cap∧repRows w S es B off n F'∧¬F' B∧(∀b,F b↔b=B∨F' b)∧ownSl w B off cap n:=by
 obtain⟨A',cap',he,hcap,hG⟩:=h;injection he with e1 e2 e3;subst e1 e3;rcases hG with⟨h1,_⟩|⟨B',off',F',hA,hr,hown⟩
 ·simp at h1
 injection hA with hA;injection hA with hB hO;subst hB hO;rcases hown with⟨_,hnB,hFG,hb⟩|⟨ho,_⟩
 ·exact⟨F',e2,hcap,hr,hnB,hFG,hb⟩
 ·cases ho
theorem Zc1{rows:List (List D)}{i j n:Nat}{ds:List D}(h:(rows.getD i []).length=n):newRow rows i j n ds=splice (rows.getD i []) j ds:=by
 unfold newRow;cases hc:(j==0)&&(ds.length==n)with
 |false=>rfl
 |true=>
  simp only[Bool.and_eq_true,beq_iff_eq]at hc;obtain⟨rfl,h2⟩:=hc;simp only[cond_true,splice];rw[List.drop_eq_nil_of_le (by omega)]
  simp
theorem Zi0{xs ds:List D}{j k:Nat}(h:j+ds.length≤xs.length):(splice xs j ds).getD k .dead=if j≤k∧k<j+ds.length then ds.getD (k-j) .dead else xs.getD k .dead:=by
 have hl:(xs.take j).length=j:=by rw[List.length_take];omega
 have hl2:(xs.take j++ds).length=j+ds.length:=by rw[List.length_append,hl]
 simp only[List.getD_eq_getElem?_getD];unfold splice;by_cases h1:k<j
 ·rw[if_neg (by omega),List.append_assoc,List.getElem?_append_left (by omega),List.getElem?_take_of_lt h1]
 ·by_cases h2:k<j+ds.length
  ·rw[if_pos ⟨by omega,h2⟩,List.getElem?_append_left (by omega),List.getElem?_append_right (by omega),hl]
  ·rw[if_neg (by omega),List.getElem?_append_right (by omega),List.getElem?_drop,hl2,show j+ds.length+(k-(j+ds.length))=k by omega]
end
theorem Zhi{w w':World}{S:FP}{i0 j0 n1:Nat}{es1:List (List D)}{ds:List D}{B0 off0 len0 cap0:Nat}(hds:ds.all D.noSl=true)(hi0:i0<es1.length)(hj0:j0+ds.length≤n1)
  (hcells:∀k,¬(off0+i0*n1+j0≤k∧k<off0+i0*n1+j0+ds.length)→w'.cell? ⟨B0,k,none⟩=w.cell? ⟨B0,k,none⟩):
  ∀{q0:Path} {d:D} {v:Value} {d1:D} {v1:Value},HeadAt w d v q0 d1 v1→d1=.sl true n1 es1→v1=.slice (some ⟨B0,off0,none⟩) len0 cap0→
  ∀{n:Nat} {es:List (List D)},d=.sl true n es→∀{F:FP},repD w S d v F→(∀b,F b→b≠B0→w'.heap[b]?=w.heap[b]?)→∀{q:Path},pathOk (modAt (λrows=>rows.set i0 (newRow rows i0 j0 n1 ds)) es q0) q=true→
   pathOk es q=true∧∀{sz:Nat} {es2:List (List D)} {u:Value},HeadAt w d v q (.sl true sz es2) u→
    ∃es2',es2'.length=es2.length∧HeadAt w' (.sl true n (modAt (λrows=>rows.set i0 (newRow rows i0 j0 n1 ds)) es q0)) v q (.sl true sz es2') u:=by
 intro q0 d v d1 v1 h;induction h with
 |nil d v=>
  intro e1 e2 n es e3 F hr hblk q hp;subst e2;rw[e1]at e3;injection e3 with _ e4 e5;subst e4 e5 e1;obtain⟨F',_,_,hrows,hnB,hF,_⟩:=Zbm hr;obtain⟨_,hrl,_,_⟩:=Zbs i0 hrows hi0;have hnr:=Zc1 (j:=j0) (ds:=ds) hrl;simp only[modAt]at hp⊢;rw[hnr]at hp⊢;cases q with
  |nil=>
   refine⟨rfl,λ{sz es2 u} hh=>?_⟩;obtain⟨a1,a2⟩:=Za0 hh;injection a1 with _ a3 a4;subst a3 a4 a2;exact⟨_,by rw[List.length_set],.nil _ _⟩
  |cons ij q=>
   obtain⟨i,j⟩:=ij;unfold pathOk at hp⊢;simp only[Bool.and_eq_true]at hp⊢;have hcell:((es1.set i0 (splice (es1.getD i0 []) j0 ds)).getD i []).getD j .dead=cellAt es1 i j∧¬(i=i0∧j0≤j∧j<j0+ds.length):=by
    by_cases hii:i=i0
    ·subst hii;rw[Zat _ _ _ _ hi0]at hp⊢;have hs:=Zi0 (xs:=es1.getD i []) (ds:=ds) (j:=j0) (k:=j) (by omega)
     by_cases hin:j0≤j∧j<j0+ds.length
     ·rw[hs,if_pos hin]at hp;have hlt:j-j0<ds.length:=by omega
      have hx:ds.getD (j-j0) .dead∈ds:=by
       rw[List.getD_eq_getElem?_getD,List.getElem?_eq_getElem hlt];exact List.getElem_mem hlt
      have:=(List.all_eq_true.1 hds) _ hx;cases hc:ds.getD (j-j0) .dead<;>rw[hc]at hp this<;>first|(cases hp.1;done)|cases this
     ·rw[hs,if_neg hin];exact⟨rfl,λh=>hin h.2⟩
    ·rw[Zbf _ _ _ hii];exact⟨rfl,λh=>hii h.1⟩
   rw[hcell.1]at hp;refine⟨hp,λ{sz es2 u} hh=>?_⟩;cases hh with
   |@cons _ _ B off len cap _ _ v1 _ _ _ hi hj hc hpp=>
    obtain⟨G,hl2,hrow,hG⟩:=Zbs i hrows hi;obtain⟨u',G',hu',hd',hG'⟩:=Zcb hrow j hj;rw[hc]at hu';injection hu' with hu';subst hu';have hout:¬(off0+i0*n1+j0≤off0+i*n1+j∧off0+i*n1+j<off0+i0*n1+j0+ds.length):=by
     intro ⟨h1,h2⟩;rcases Nat.lt_trichotomy i i0 with h3|h3|h3
     ·have:=Nat.mul_le_mul_right n1 (show i+1≤i0 from h3);rw[Nat.add_mul]at this;omega
     ·subst h3;exact hcell.2 ⟨rfl,by omega,by omega⟩
     ·have:=Nat.mul_le_mul_right n1 (show i0+1≤i from h3);rw[Nat.add_mul]at this;omega
    refine⟨es2,rfl,.cons (by rw[List.length_set];exact hi) ?_ ((hcells _ hout).trans hc) ?_⟩
    ·by_cases hii:i=i0
     ·subst hii;rw[Zat _ _ _ _ hi0,Zck _ _ _ (by omega)];exact hj
     ·rw[Zbf _ _ _ hii];exact hj
    ·rw[hcell.1];exact Zfn hpp hd' (λb hb=>hblk b ((hF b).2 (.inr (hG _ (hG' _ hb)))) (λhe=>by subst he;exact hnB (hG _ (hG' _ hb))))
 |@cons n2 es2 B off len cap a b v2 p0 d' v' ha hb hc hp0 ih=>
  intro e1 e2 n es e3 F hr hblk q hp;injection e3 with _ e4 e5;subst e4 e5;obtain⟨F',_,_,hrows,hnB,hF,_⟩:=Zbm hr;obtain⟨Gr,hrl,hrow,hGr⟩:=Zbs a hrows ha;obtain⟨u',G',hu',hd',hG'⟩:=Zcb hrow b hb;rw[hc]at hu';injection hu' with hu';subst hu';have hB0:F' B0:=by
   subst e1 e2;exact hGr _ (hG' _ (Zg1 hp0 hd'))
  have hBne:B≠B0:=λhe=>hnB (by rw[he];exact hB0)
  obtain⟨o3,n3,es3,hd3⟩:∃o3 n3 es3,cellAt es2 a b=.sl o3 n3 es3:=by
   cases hx:cellAt es2 a b with
   |sl o n es=>exact⟨o,n,es,rfl⟩
   |_=>
    change HeadAt w (cellAt es2 a b) v2 p0 d' v' at hp0;rw[hx]at hp0;cases hp0;cases e1
  have ho3:o3=true:=by
   change HeadAt w (cellAt es2 a b) v2 p0 d' v' at hp0;rw[hd3]at hp0;cases hp0 with
   |nil=>injection e1
   |cons=>rfl
  subst ho3;rw[Zg4]at hp⊢;have hmc:modCell (λrows=>rows.set i0 (newRow rows i0 j0 n1 ds)) es2 a b p0=.sl true n3 (modAt (λrows=>rows.set i0 (newRow rows i0 j0 n1 ds)) es3 p0):=by
   unfold modCell;rw[hd3]
  cases q with
  |nil=>
   refine⟨rfl,λ{sz es4 u} hh=>?_⟩;obtain⟨a1,a2⟩:=Za0 hh;injection a1 with _ a3 a4;subst a3 a4 a2;exact⟨_,Zbk _ _ _ _,.nil _ _⟩
  |cons ij q=>
   obtain⟨i,j⟩:=ij;unfold pathOk at hp⊢;simp only[Bool.and_eq_true]at hp⊢;by_cases hij:i=a∧j=b
   ·obtain⟨rfl,rfl⟩:=hij;have hcs:cellAt (set2 es2 i j (modCell (λrows=>rows.set i0 (newRow rows i0 j0 n1 ds)) es2 i j p0)) i j=_:=Zcq ha hb;have hp2:=hp.2;change pathOk (cellAt (set2 es2 i j (modCell (λrows=>rows.set i0 (newRow rows i0 j0 n1 ds)) es2 i j p0)) i j).rows q=true at hp2;rw[hcs,hmc]at hp2;obtain⟨k1,k2⟩:=ih e1 e2 hd3 hd' (λb hb=>hblk b ((hF b).2 (.inr (hGr _ (hG' _ hb))))) hp2;refine⟨⟨by show(cellAt es2 i j).isOwn=true;rw[hd3];rfl,by show pathOk (cellAt es2 i j).rows q=true;rw[hd3];exact k1⟩,λ{sz es4 u} hh=>?_⟩
    cases hh with
    |@cons _ _ B' off' len' cap' _ _ v3 _ _ _ hi hj hc3 hpp=>
     rw[hc]at hc3;injection hc3 with hc3;subst hc3;obtain⟨es4',l4,h4⟩:=k2 hpp;refine⟨es4',l4,.cons (by rw[Zbk];exact hi) (by rw[Zbd];exact hj) ((Za3 (hblk B ((hF B).2 (.inl rfl)) hBne) _).trans hc) ?_⟩
     show HeadAt w' (cellAt _ i j) v2 q _ u;rw[hcs,hmc];exact h4
   ·have hcs:cellAt (set2 es2 a b (modCell (λrows=>rows.set i0 (newRow rows i0 j0 n1 ds)) es2 a b p0)) i j=cellAt es2 i j:=Zef hij;have h1:(cellAt (set2 es2 a b (modCell (λrows=>rows.set i0 (newRow rows i0 j0 n1 ds)) es2 a b p0)) i j).isOwn=true:=hp.1;have h2:pathOk (cellAt (set2 es2 a b (modCell (λrows=>rows.set i0 (newRow rows i0 j0 n1 ds)) es2 a b p0)) i j).rows q=true:=hp.2;rw[hcs]at h1 h2;refine⟨⟨h1,h2⟩,λ{sz es4 u} hh=>?_⟩;cases hh with
    |@cons _ _ B' off' len' cap' _ _ v3 _ _ _ hi hj hc3 hpp=>
     obtain⟨ua,Ga,vb,Hb,b1,b2,b3,b4,b5,b6,b7⟩:=Zs8 hrows ha hb hi hj (λh=>hij ⟨h.1.symm,h.2.symm⟩);rw[hc]at b1;injection b1 with b1;subst b1;rw[hc3]at b3;injection b3 with b3;subst b3;have hGa:Ga B0:=by subst e1 e2;exact Zg1 hp0 b2
     refine⟨es4,rfl,.cons (by rw[Zbk];exact hi) (by rw[Zbd];exact hj) ((Za3 (hblk B ((hF B).2 (.inl rfl)) hBne) _).trans hc3) ?_⟩
     show HeadAt w' (cellAt _ i j) v3 q _ u;rw[hcs];exact Zfn hpp b4 (λb hb2=>hblk b ((hF b).2 (.inr (b6 b hb2))) (λhe=>by subst he;exact b7 _ hGa hb2))
theorem Zji{w w':World}{S:FP}{i0 j0 n1:Nat}{es1:List (List D)}{ds:List D}{B0 off0 len0 cap0:Nat}(hi0:i0<es1.length)(hj0:j0+ds.length≤n1)
  (hcells:∀k,¬(off0+i0*n1+j0≤k∧k<off0+i0*n1+j0+ds.length)→w'.cell? ⟨B0,k,none⟩=w.cell? ⟨B0,k,none⟩)
  {q0:Path} {n:Nat} {es:List (List D)} {v:Value} (h:HeadAt w (.sl true n es) v q0 (.sl true n1 es1) (.slice (some ⟨B0,off0,none⟩) len0 cap0)) {F:FP} (hr:repD w S (.sl true n es) v F)
  (htop:q0≠[]→∀B off len cap,v=.slice (some ⟨B,off,none⟩) len cap→w'.heap[B]?=w.heap[B]?) {i j:Nat}
  (hsame:q0=[]→i=i0→j0≤j→j<j0+ds.length→(ds.getD (j-j0) .dead).isOwn=true→ds.getD (j-j0) .dead=(es.getD i []).getD j .dead∧w'.cell? ⟨B0,off0+i*n1+j,none⟩=w.cell? ⟨B0,off0+i*n1+j,none⟩)
  (hp:pathOk (modAt (λrows=>rows.set i0 (newRow rows i0 j0 n1 ds)) es q0) [(i,j)]=true):
  pathOk es [(i,j)]=true∧∀{sz:Nat} {es2:List (List D)} {u:Value},HeadAt w (.sl true n es) v [(i,j)] (.sl true sz es2) u→
   ∃es2',es2'.length=es2.length∧HeadAt w' (.sl true n (modAt (λrows=>rows.set i0 (newRow rows i0 j0 n1 ds)) es q0)) v [(i,j)] (.sl true sz es2') u:=by
 unfold pathOk at hp⊢;simp only[Bool.and_eq_true]at hp⊢
 match q0,h with
 |[],h=>
  obtain⟨a1,a2⟩:=Za0 h;injection a1 with _ a3 a4;subst a3 a4 a2;obtain⟨F',_,_,hrows,hnB,hF,_⟩:=Zbm hr;obtain⟨_,hrl,_,_⟩:=Zbs i0 hrows hi0;have hnr:=Zc1 (j:=j0) (ds:=ds) hrl;simp only[modAt]at hp⊢;rw[hnr]at hp⊢;have hcell:((es1.set i0 (splice (es1.getD i0 []) j0 ds)).getD i []).getD j .dead=(es1.getD i []).getD j .dead∧w'.cell? ⟨B0,off0+i*n1+j,none⟩=w.cell? ⟨B0,off0+i*n1+j,none⟩∨¬j<n1:=by
   by_cases hjn:j<n1
   ·left;by_cases hii:i=i0
    ·subst hii;rw[Zat _ _ _ _ hi0,Zi0 (xs:=es1.getD i []) (ds:=ds) (j:=j0) (k:=j) (by omega)]at hp⊢
     by_cases hin:j0≤j∧j<j0+ds.length
     ·rw[if_pos hin]at hp ⊢;exact hsame rfl rfl hin.1 hin.2 hp.1
     ·rw[if_neg hin];exact⟨rfl,hcells _ (λh=>hin ⟨by omega,by omega⟩)⟩
    ·rw[Zbf _ _ _ hii];refine⟨rfl,hcells _ (λ⟨h1,h2⟩=>?_)⟩;rcases Nat.lt_trichotomy i i0 with h3|h3|h3
     ·have:=Nat.mul_le_mul_right n1 (show i+1≤i0 from h3);rw[Nat.add_mul]at this;omega
     ·exact hii h3
     ·have:=Nat.mul_le_mul_right n1 (show i0+1≤i from h3);rw[Nat.add_mul]at this;omega
   ·exact .inr hjn
  have hjn:j<n1:=by
   obtain⟨b1,b2,_⟩:=Zfo hp.1;by_cases hii:i=i0
   ·subst hii;rw[Zat _ _ _ _ hi0,Zck _ _ _ (by omega)]at b2
    omega
   ·rw[List.length_set]at b1;rw[Zbf _ _ _ hii]at b2;obtain⟨_,hrl2,_,_⟩:=Zbs i hrows b1;omega
  have hcell:=hcell.resolve_right (λh=>h hjn);rw[hcell.1]at hp;refine⟨⟨hp.1,rfl⟩,λ{sz es2 u} hh=>?_⟩;cases hh with
  |@cons _ _ B off len cap _ _ v1 _ _ _ hi hj hc hpp=>
   refine⟨es2,rfl,.cons (by rw[List.length_set];exact hi) ?_ (hcell.2.trans hc) ?_⟩
   ·by_cases hii:i=i0
    ·subst hii;rw[Zat _ _ _ _ hi0,Zck _ _ _ (by omega)];exact hj
    ·rw[Zbf _ _ _ hii];exact hj
   ·rw[hcell.1];obtain⟨a1,a2⟩:=Za0 hpp;rw[←a1,a2];exact .nil _ _
 |(a,b)::p0,h=>
  cases h with
  |@cons _ _ B off len cap _ _ v2 _ _ _ ha hb hc hp0=>
   have hB:=htop (by simp) B off len cap rfl
   obtain⟨o3,n3,es3,hd3⟩:∃o3 n3 es3,cellAt es a b=.sl o3 n3 es3:=by
    cases hx:cellAt es a b with
    |sl o n es=>exact⟨o,n,es,rfl⟩
    |_=>
     change HeadAt w (cellAt es a b) v2 p0 _ _ at hp0;rw[hx]at hp0;cases hp0
   have ho3:o3=true:=by
    change HeadAt w (cellAt es a b) v2 p0 _ _ at hp0;rw[hd3]at hp0;cases hp0 with
    |nil=>rfl
    |cons=>rfl
   subst ho3;rw[Zg4]at hp⊢;have hmc:modCell (λrows=>rows.set i0 (newRow rows i0 j0 n1 ds)) es a b p0=.sl true n3 (modAt (λrows=>rows.set i0 (newRow rows i0 j0 n1 ds)) es3 p0):=by
    unfold modCell;rw[hd3]
   by_cases hij:i=a∧j=b
   ·obtain⟨rfl,rfl⟩:=hij;have hcs:cellAt (set2 es i j (modCell (λrows=>rows.set i0 (newRow rows i0 j0 n1 ds)) es i j p0)) i j=_:=Zcq ha hb;refine⟨⟨by show(cellAt es i j).isOwn=true;rw[hd3];rfl,rfl⟩,λ{sz es4 u} hh=>?_⟩
    cases hh with
    |@cons _ _ B' off' len' cap' _ _ v3 _ _ _ hi hj hc3 hpp=>
     obtain⟨a1,a2⟩:=Za0 hpp;change _=cellAt es i j at a1;rw[hd3]at a1;injection a1 with _ a3 a4;subst a3 a4 a2;refine⟨modAt (λrows=>rows.set i0 (newRow rows i0 j0 n1 ds)) es4 p0,Zen _ (λxs=>List.length_set ..) es4 p0,.cons (by rw[Zbk];exact hi) (by rw[Zbd];exact hj) ((Za3 hB _).trans hc3) ?_⟩
     show HeadAt w' (cellAt _ i j) u [] _ u;rw[hcs,hmc];exact .nil _ _
   ·have hcs:cellAt (set2 es a b (modCell (λrows=>rows.set i0 (newRow rows i0 j0 n1 ds)) es a b p0)) i j=cellAt es i j:=Zef hij;have h1:(cellAt (set2 es a b (modCell (λrows=>rows.set i0 (newRow rows i0 j0 n1 ds)) es a b p0)) i j).isOwn=true:=hp.1;rw[hcs]at h1;refine⟨⟨h1,rfl⟩,λ{sz es4 u} hh=>?_⟩;cases hh with
    |@cons _ _ B' off' len' cap' _ _ v3 _ _ _ hi hj hc3 hpp=>
     refine⟨es4,rfl,.cons (by rw[Zbk];exact hi) (by rw[Zbd];exact hj) ((Za3 hB _).trans hc3) ?_⟩
     show HeadAt w' (cellAt _ i j) v3 [] _ u;rw[hcs];obtain⟨a1,a2⟩:=Za0 hpp;change _=cellAt es i j at a1;rw[←a1,a2];exact .nil _ _
end Go.Ev
