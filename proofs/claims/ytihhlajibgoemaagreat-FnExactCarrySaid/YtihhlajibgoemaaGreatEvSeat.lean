/- What was handed over comes back: by-value arguments whose slices were written. -/
import Derived.Test.YtihhlajibgoemaaGreatEvBack
namespace Go.Ev
open Go.RowKit
set_option linter.unusedVariables false
set_option linter.unusedSimpArgs false
theorem Zlu{M:Mem}{rs:Look}{r:Nat}{x:Root}(h:r∈rs.keys)(k:Nat):Zao M (rs.put r x) k=if k=r then x else Zao M rs k:=by
 unfold Zao;rw[Zkd];cases hf:rs.find? (λy=>y.1==k)with
 |some y=>by_cases hk:k=r<;>simp[hk]
 |none=>
  by_cases hk:k=r
  ·subst hk;unfold Look.keys at h;obtain⟨y,hy,hr⟩:=List.mem_map.1 h;have:=List.find?_eq_none.1 hf y hy;simp[hr]at this
  ·simp[hk]
section
variable {w : World} {S : FP}
theorem Z2h{M:Mem}{L:Lay}{r:Nat}{x:Root}{hd:Value}{F:FP}(hm:MemRep w S M L)(hb:x.born=true)(hr:repD w S (rootD x) hd F)
  (hF:∀b,F b→b<w.heap.size∧¬S b) (hd2:∀k,k≠r→(M k).live=true→∀b,F b→¬L.fp k b):
  MemRep w S (λk=>if k=r then x else M k) ⟨λk=>if k=r then hd else L.hd k,λk=>if k=r then F else L.fp k⟩:=by
 refine⟨λk hk=>?_,λk hk=>?_,λk hk b hb=>?_,λk k' hk hk' hne b hb hb'=>?_,hm.lent⟩
 ·by_cases hkn:k=r
  ·subst hkn;simp only[if_true];exact hr
  ·simp only[if_neg hkn]at hk ⊢;exact hm.rep k hk
 ·by_cases hkn:k=r
  ·subst hkn;simp only[if_true];exact hb
  ·simp only[if_neg hkn]at hk ⊢;exact hm.born k hk
 ·by_cases hkn:k=r
  ·subst hkn;simp only[if_true]at hb;exact hF b hb
  ·simp only[if_neg hkn]at hk hb;exact hm.own k hk b hb
 ·by_cases hkn:k=r
  ·by_cases hkn':k'=r
   ·exact hne (hkn.trans hkn'.symm)
   ·subst hkn;simp only[if_true]at hb;simp only[if_neg hkn']at hk' hb';exact hd2 k' hkn' hk' b hb hb'
  ·simp only[if_neg hkn]at hk hb;by_cases hkn':k'=r
   ·subst hkn';simp only[if_true]at hb';exact hd2 k hkn hk b hb' hb
   ·simp only[if_neg hkn']at hk' hb';exact hm.apart k k' hk hk' hne b hb hb'
def seatPre(w:World)(M:Mem)(L:Lay):C→Value→Prop
 |.view r _ _ [] _ _,u=>(M r).born=true∧L.hd r=u∧∃A cap,u=.slice A (M r).es.length cap
 |.view r _ _ [(i,j)] _ _,u=>(M r).born=true∧i<(M r).es.length∧j<(M r).sz∧(M r).live=true∧∃B off len cap,L.hd r=.slice (some ⟨B,off,none⟩) len cap∧w.cell? ⟨B,off+i*(M r).sz+j,none⟩=some u
 |.view ..,_=>False
 |_,_=>True
def seatPres(w:World)(M:Mem)(L:Lay):List C→List Value→Prop
 |[],[]=>True
 |c::cs,u::us=>seatPre w M L c u∧seatPres w M L cs us
 |_,_=>False
structure Seated(w:World)(S:FP)(M M':Mem)(L L':Lay)(cs:List C)(G:FP):Prop where
 rep:MemRep w S M' L'
 hd:∀r,L'.hd r=L.hd r
 same:∀r,r∉cs.flatMap C.roots→M' r=M r∧L'.fp r=L.fp r
 shape:∀r,(M' r).box=(M r).box∧(M' r).sz=(M r).sz∧(M' r).es.length=(M r).es.length∧(M' r).born=(M r).born∧(M r).gh≤(M' r).gh∧((M r).live=true→(M' r).live=true)
 at_:∀r,r∈cs.flatMap C.roots→(M' r).live=true∧(M r).gh<(M' r).gh∧∃ga gh q n sub,C.view r ga gh q n sub∈cs∧(M' r).ga=ga
 fp:∀r,(M' r).live=true→∀b,L'.fp r b→((M r).live=true∧L.fp r b)∨G b
 marks:∀r,(M' r).pin=(M r).pin∧(r∈cs.flatMap C.roots→(M r).gh<(M' r).c0)
theorem Zjz{M:Mem}{L:Lay}{rs:Look}(hm:MemRep w S (Zao M rs) L):∀{cs:List C} {ds:List D} {us:List Value} {rs':Look} {G:FP},seatPres w (Zao M rs) L cs us→(∀r∈cs.flatMap C.roots,r∈rs.keys)→datRep w S ds us G→
  (∀r,(Zao M rs r).live=true→∀b,G b→¬L.fp r b)→(∀b,G b→b<w.heap.size∧¬S b)→reseatCells cs ds rs=some (true,rs')→
  ∃L',Seated w S (Zao M rs) (Zao M rs') L L' cs G∧rs'.keys=rs.keys
 |[],[],[],rs',G,_,_,_,_,_,he=>by
  simp only[reseatCells,Option.some.injEq,Prod.mk.injEq,true_and]at he;subst he;exact⟨L,⟨hm,λ_=>rfl,λ_ _=>⟨rfl,rfl⟩,λ_=>⟨rfl,rfl,rfl,rfl,Nat.le_refl _,id⟩,(λr hr=>by cases hr),λr hl b hb=>.inl ⟨hl,hb⟩,λr=>⟨rfl,λhr=>by cases hr⟩⟩,rfl⟩
 |c::cs,d::ds,u::us,rs',G,hp,hk,⟨G1,G2,h1,h2,h3,h4⟩,hd,hG,he=>by
  obtain⟨hp1,hp2⟩:=hp;have hk2:∀r∈cs.flatMap C.roots,r∈rs.keys:=λr hr=>hk r (by rw[List.flatMap_cons];exact List.mem_append_right _ hr)
  have rest:∀{rs1:Look},reseatCells cs ds rs=some (true,rs1)→∃L',Seated w S (Zao M rs) (Zao M rs1) L L' cs G2∧rs1.keys=rs.keys:=λh=>
   Zjz hm hp2 hk2 h2 (λr hl b hb=>hd r hl b ((h3 b).2 (.inr hb))) (λb hb=>hG b ((h3 b).2 (.inr hb))) h
  have plain:c.roots=[]→reseatCells cs ds rs=some (true,rs')→∃L',Seated w S (Zao M rs) (Zao M rs') L L' (c::cs) G∧rs'.keys=rs.keys:=λhc h=>by
   obtain⟨L1,s,k⟩:=rest h;have hr:(c::cs).flatMap C.roots=cs.flatMap C.roots:=by rw[List.flatMap_cons,hc,List.nil_append]
   refine⟨L1,⟨s.rep,s.hd,λr hr'=>s.same r (by rw[←hr];exact hr'),s.shape,λr hr'=>?_,λr hl b hb=>(s.fp r hl b hb).imp id (λh=>(h3 b).2 (.inr h)),λr=>⟨(s.marks r).1,λhr'=>(s.marks r).2 (by rw[←hr];exact hr')⟩⟩,k⟩
   rw[hr]at hr';obtain⟨a1,a2,ga,gh,q,n,sub,a3,a4⟩:=s.at_ r hr';exact⟨a1,a2,ga,gh,q,n,sub,List.mem_cons_of_mem _ a3,a4⟩
  have put:∀{rs1:Look} {r ga gh n:Nat} {q:Path} {sub:Option (Nat×Nat)} {x:Root} {F:FP},c=.view r ga gh q n sub→reseatCells cs ds rs=some (true,rs1)→rs'=rs1.put r x→
    (∀{L1:Lay},Seated w S (Zao M rs) (Zao M rs1) L L1 cs G2→(∀k,L1.hd k=L.hd k)→
     x.box=(rs1.get r).box∧x.sz=(rs1.get r).sz∧x.es.length=(rs1.get r).es.length∧x.born=(rs1.get r).born∧x.gh=(rs1.get r).gh+1∧x.live=true∧x.ga=ga∧(x.c0=(rs1.get r).gh+1∧x.pin=(rs1.get r).pin)∧
     ∃F:FP,repD w S (rootD x) (L.hd r) F∧∀b,F b→G1 b∨((Zao M rs1 r).live=true∧L1.fp r b))→
    ∃L',Seated w S (Zao M rs) (Zao M rs') L L' (c::cs) G∧rs'.keys=rs.keys:=by
   intro rs1 r ga gh n q sub x _ hc h hrs hx;obtain⟨L1,s,k⟩:=rest h;obtain⟨x1,x2,x3,x4,x5,x6,x7,x8,F,hrep,hF⟩:=hx s s.hd;have hroots:(c::cs).flatMap C.roots=r::cs.flatMap C.roots:=by rw[List.flatMap_cons,hc];rfl
   have hkey:r∈rs1.keys:=by rw[k];exact hk r (by rw[hroots];simp)
   have hov:Zao M rs1 r=rs1.get r:=Zc2 hkey;have hnew:∀j,Zao M rs' j=if j=r then x else Zao M rs1 j:=λj=>by rw[hrs];exact Zlu hkey j
   have hGs:∀b,G1 b→b<w.heap.size∧¬S b:=λb hb=>hG b ((h3 b).2 (.inl hb));have hxb:x.born=true:=by
    rw[x4,←hov,(s.shape r).2.2.2.1];subst hc
    match q,hp1 with
    |[],hp1=>exact hp1.1
    |[(i,j)],hp1=>exact hp1.1
    |_::_::_,hp1=>exact hp1.elim
   have hms:=Z2h (r:=r) (x:=x) (hd:=L.hd r) (F:=F) s.rep hxb hrep (λb hb=>by
     rcases hF b hb with hb|⟨hl,hb⟩
     ·exact hGs b hb
     ·exact s.rep.own r hl b hb) (λj hj hl b hb hf=>by
     rcases hF b hb with hb|⟨hl2,hb⟩
     ·rcases s.fp j hl b hf with⟨hl3,hf⟩|hf
      ·exact hd j hl3 b ((h3 b).2 (.inl hb)) hf
      ·exact h4 b hb hf
     ·exact s.rep.apart r j hl2 hl (Ne.symm hj) b hb hf)
   have hfun:(λj=>if j=r then x else Zao M rs1 j)=Zao M rs':=funext λj=>(hnew j).symm;rw[hfun]at hms;refine⟨_,⟨hms,λj=>?_,λj hj=>?_,λj=>?_,λj hj=>?_,λj hl b hb=>?_,λj=>?_⟩,by rw[hrs,Zd8,k]⟩
   ·by_cases hjr:j=r
    ·subst hjr;simp only[if_true]
    ·simp only[if_neg hjr];exact s.hd j
   ·rw[hroots]at hj;have hjr:¬j=r:=λh=>hj (by simp[h])
    obtain⟨b1,b2⟩:=s.same j (λh=>hj (by simp[h]))
    rw[hnew,if_neg hjr];simp only[if_neg hjr];exact⟨b1,b2⟩
   ·by_cases hjr:j=r
    ·subst hjr;rw[hnew,if_pos rfl];obtain⟨b1,b2,b3,b4,b5,b6⟩:=s.shape j;rw[hov]at b1 b2 b3 b4 b5;exact⟨x1.trans b1,x2.trans b2,x3.trans b3,x4.trans b4,by omega,λ_=>x6⟩
    ·rw[hnew,if_neg hjr];exact s.shape j
   ·by_cases hjr:j=r
    ·subst hjr;rw[hnew,if_pos rfl];have b5:=(s.shape j).2.2.2.2.1;rw[hov]at b5;exact⟨x6,by omega,ga,gh,q,n,sub,by rw[hc];exact List.mem_cons_self,x7⟩
    ·rw[hnew,if_neg hjr];rw[hroots]at hj;obtain⟨a1,a2,ga',gh',q',n',sub',a3,a4⟩:=s.at_ j ((List.mem_cons.1 hj).resolve_left hjr);exact⟨a1,a2,ga',gh',q',n',sub',List.mem_cons_of_mem _ a3,a4⟩
   ·by_cases hjr:j=r
    ·subst hjr;simp only[if_true]at hb;rcases hF b hb with hb|⟨hl2,hb⟩
     ·exact .inr ((h3 b).2 (.inl hb))
     ·exact(s.fp j hl2 b hb).imp id (λh=>(h3 b).2 (.inr h))
    ·rw[hnew,if_neg hjr]at hl;simp only[if_neg hjr]at hb;exact(s.fp j hl b hb).imp id (λh=>(h3 b).2 (.inr h))
   ·by_cases hjr:j=r
    ·subst hjr;rw[hnew,if_pos rfl];have b5:=(s.shape j).2.2.2.2.1;have b7:=(s.marks j).1;rw[hov]at b5 b7;exact⟨x8.2.trans b7,λ_=>by rw[x8.1];omega⟩
    ·rw[hnew,if_neg hjr];refine⟨(s.marks j).1,λhj=>(s.marks j).2 ?_⟩;rw[hroots]at hj;exact(List.mem_cons.1 hj).resolve_left hjr
  cases c with
  |d x=>exact plain rfl he
  |nils n=>exact plain rfl he
  |view r ga gh q n sub=>
   match q,hp1 with
   |[],hp1=>
    cases d with
    |sl o m es=>
     simp only[reseatCells]at he;split at he
     ·rename_i b rs1 he1;simp only[Option.some.injEq,Prod.mk.injEq,Bool.and_eq_true,decide_eq_true_eq]at he;obtain⟨⟨rfl,hsz,rfl⟩,rfl⟩:=he;refine put (F:=G1) rfl he1 rfl (λ{L1} s hhd=>?_);obtain⟨hb,hh,A,cap,hu⟩:=hp1;have hlen:es.length=(rs1.get r).es.length:=by
       obtain⟨A',c',e1,_⟩:=h1;rw[hu]at e1;injection e1 with _ e2 _;have hkey:r∈rs1.keys:=by
        obtain⟨_,_,k⟩:=rest he1;rw[k];exact hk r (by rw[List.flatMap_cons];simp[C.roots])
       rw[←Zc2 (M:=M) hkey,(s.shape r).2.2.1];exact e2.symm
      refine⟨rfl,rfl,hlen,rfl,rfl,rfl,rfl,⟨rfl,rfl⟩,G1,?_,λb hb=>.inl hb⟩;rw[hh];unfold rootD;simp only;rw[←hsz];exact h1
     ·cases he
    |_=>cases he
   |[(i,j)],hp1=>
    cases d with
    |sl o m es=>
     simp only[reseatCells]at he;split at he
     ·rename_i b rs1 he1;simp only[Option.some.injEq,Prod.mk.injEq,Bool.and_eq_true]at he;obtain⟨⟨rfl,rfl⟩,rfl⟩:=he;refine put (F:=G1) rfl he1 rfl (λ{L1} s hhd=>?_);obtain⟨hb,hi,hj,hl,B,off,len,cap,hh,hcell⟩:=hp1;have hkey:r∈rs1.keys:=by
       obtain⟨_,_,k⟩:=rest he1;rw[k];exact hk r (by rw[List.flatMap_cons];simp[C.roots])
      have hov:Zao M rs1 r=rs1.get r:=Zc2 hkey;obtain⟨s1,s2,s3,s4,s5,s6⟩:=s.shape r;have hl1:=s6 hl;have hrep:=s.rep.rep r hl1;rw[s.hd r,hh]at hrep;have hrep':=hrep;obtain⟨F',e5,hcap,hrows,hnB,hFF,hblk⟩:=Zbm hrep';have hi1:i<(Zao M rs1 r).es.length:=by rw[s3];exact hi
      obtain⟨Gr,hrl,hrow,hGr⟩:=Zbs i hrows hi1;have hj1:j<((Zao M rs1 r).es.getD i []).length:=by rw[hrl,s2];exact hj
      have hat:HeadAt w (rootD (Zao M rs1 r)) (.slice (some ⟨B,off,none⟩) len cap) [(i,j)] (((Zao M rs1 r).es.getD i []).getD j .dead) u:=by
       refine .cons hi1 hj1 ?_ (.nil _ _);rw[s2];exact hcell
      obtain⟨G0,R,_,hF0,_,back⟩:=Zc7 hat hrep;obtain⟨hnew,_⟩:=back (w':=w) (S':=S) (d2:=.sl true m es) (G':=G1) (λb hb=>⟨hb,rfl⟩) (λb hb=>rfl) h1 (λb hb hR=>by
       have hf:=(hF0 b).2 (.inr hR);rcases s.fp r hl1 b hf with⟨hl3,hf⟩|hf
       ·exact hd r hl3 b ((h3 b).2 (.inl hb)) hf
       ·exact h4 b hb hf)
      rw[hov]at hnew;refine⟨rfl,rfl,by simp,rfl,rfl,by rw[←hov];exact hl1,rfl,⟨rfl,rfl⟩,λb=>G1 b∨R b,?_,λb hb=>hb.imp id (λh=>⟨hl1,(hF0 b).2 (.inr h)⟩)⟩
      rw[hh];exact hnew
     ·cases he
    |_=>cases he
   |_::_::_,hp1=>exact hp1.elim
  |_=>cases he
 |[],_::_,_,_,_,_,_,_,_,_,he=>by simp[reseatCells]at he
 |c::_,[],_,_,_,_,_,_,_,_,he=>by cases c<;>simp[reseatCells]at he
 |[],[],_::_,_,_,h,_,_,_,_,_=>h.elim
 |_::_,_::_,[],_,_,h,_,_,_,_,_=>h.elim
end
end Go.Ev
