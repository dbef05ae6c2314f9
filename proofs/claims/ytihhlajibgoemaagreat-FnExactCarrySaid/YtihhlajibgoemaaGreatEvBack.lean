/- A call's return: every root that was out is back. -/
import Derived.Test.YtihhlajibgoemaaGreatEvRet
namespace Go.Ev
open Go.RowKit
set_option linter.unusedVariables false
set_option linter.unusedSimpArgs false
theorem Zc2{M:Mem}{rs:Look}{r:Nat}(h:r∈rs.keys):Zao M rs r=rs.get r:=by
 unfold Zao Look.get;unfold Look.keys at h;cases hf:rs.find? (λx=>x.1==r)with
 |some x=>rfl
 |none=>
  exfalso;obtain⟨x,hx,hr⟩:=List.mem_map.1 h;have:=List.find?_eq_none.1 hf x hx;simp[hr]at this
theorem Zh3{own:Bool}{ls:List Leaf}{row:List D}(h:fits own ls row=true):row.length=ls.length:=by
 have:=Zer (own:=own) (row:=row) (ls:=ls) (k:=0);rw[Zey h]at this;exact this
theorem Zm8{own:Bool}{p:List Nat}:∀{ls:List Leaf} {row:List D} {k i:Nat},fits own (pinLeaves p k ls) row=true→i<row.length→p.contains (k+i)=true→row.getD i .dead=.dead
 |l::ls,d::ds,k,0,h,_,hp=>by
  unfold pinLeaves fits at h;rw[show p.contains k=true from hp,Bool.and_eq_true]at h;exact Zf1 h.1
 |l::ls,d::ds,k,i+1,h,hi,hp=>by
  unfold pinLeaves fits at h;rw[Bool.and_eq_true]at h;show ds.getD i .dead=.dead;exact Zm8 (k:=k+1) (row:=ds) (i:=i) h.2 (by simpa using hi) (by rw[show k+1+i=k+(i+1) by omega];exact hp)
 |[],[],_,_,_,hi,_=>by simp at hi
 |[],_::_,_,_,h,_,_=>by cases h
 |_::_,[],_,_,h,_,_=>by cases h
theorem Ztc{P:Program}{t:TypeId}{own:Bool}{p:List Nat}{row:List D}{i:Nat}(h:fits own (leavesP P p t) row=true)(hi:i<row.length)(hp:p.contains i=true):row.getD i .dead=.dead:=by
 unfold leavesP at h;cases p with
 |nil=>simp at hp
 |cons a p=>exact Zm8 (k:=0) h hi (by rw[Nat.zero_add];exact hp)
theorem Zth(M:Mem):holes M []=M:=by
 funext r;unfold holes;rw[if_neg (by simp)]
section
variable {P : Program} {w w' : World} {S Sc : FP} {M1 : Mem} {L1 : Lay}
theorem Zbx:∀{mts:List (Mode×TypeId)} {tvs:List TV} {rows:List (List D)} {vs:List Value} {F:FP},argsOut P w S Sc M1 L1 mts tvs rows vs F→∀r∈inRoots mts tvs,(M1 r).live=true
 |[],[],[],[],F,h,r,hr=>by cases hr
 |(.inout o p,t)::ms,tv::tvs,row::rows,v::vs,F,h,r,hr=>by
  obtain⟨F1,F2,h1,h2,h3,h4⟩:=h;obtain⟨r0,ga,gh,q,n,i,j,B,c,Go,Ro,rfl,hok,_⟩:=h1;have hr':r∈(TV.v false [C.ptr r0 ga gh q n i j]).roots++inRoots ms tvs:=hr;rcases List.mem_append.1 hr' with hr' |hr'
  ·have:r=r0:=by simpa[TV.roots,C.roots]using hr'
   subst this;exact Zar hok
  ·exact Zbx h2 r hr'
 |(.lend,t)::ms,tv::tvs,row::rows,v::vs,F,⟨F1,F2,h1,h2,h3,h4⟩,r,hr=>Zbx (mts:=ms) (tvs:=tvs) h2 r hr
 |(.give,t)::ms,tv::tvs,row::rows,v::vs,F,⟨F1,F2,h1,h2,h3,h4⟩,r,hr=>Zbx (mts:=ms) (tvs:=tvs) h2 r hr
 |(.ro,t)::ms,tv::tvs,row::rows,v::vs,F,⟨F1,F2,h1,h2,h3,h4⟩,r,hr=>Zbx (mts:=ms) (tvs:=tvs) h2 r hr
 |[],_::_,_,_,_,h,_,_=>h.elim
 |[],[],_::_,_,_,h,_,_=>h.elim
 |[],[],[],_::_,_,h,_,_=>h.elim
 |(m,_)::_,[],_,_,_,h,_,_=>by cases m<;>exact h.elim
 |(m,_)::_,_::_,[],_,_,h,_,_=>by cases m<;>exact h.elim
 |(m,_)::_,_::_,_::_,[],_,h,_,_=>by cases m<;>exact h.elim
theorem Zcl(hm:MemRep w S M1 L1):∀{mts:List (Mode×TypeId)} {tvs:List TV} {rows:List (List D)} {vs:List Value} {F:FP},argsOut P w S Sc M1 L1 mts tvs rows vs F→∀r,(M1 r).live=true→r∉inRoots mts tvs→∀b,F b→¬L1.fp r b
 |[],[],[],[],F,h,r,_,_,b,hb=>absurd hb (h b)
 |(.inout o p,t)::ms,tv::tvs,row::rows,v::vs,F,h,r,hl,hr,b,hb=>by
  obtain⟨F1,F2,h1,h2,h3,h4⟩:=h;have hr':r∉tv.roots++inRoots ms tvs:=hr;rcases(h3 b).1 hb with hb|hb
  ·obtain⟨r0,ga,gh,q,n,i,j,B,c,Go,Ro,rfl,hok,_,_,_,_,hfp,_⟩:=h1;refine hm.apart r0 r (Zar hok) hl (λhe=>hr' (List.mem_append_left _ ?_)) b ((hfp b).2 (.inl hb));subst he;simp[TV.roots,C.roots]
  ·exact Zcl hm h2 r hl (λh=>hr' (List.mem_append_right _ h)) b hb
 |(.lend,t)::ms,tv::tvs,row::rows,v::vs,F,⟨F1,F2,h1,h2,h3,h4⟩,r,hl,hr,b,hb=>by
  rcases(h3 b).1 hb with hb|hb
  ·exact absurd hb (h1.1 b)
  ·exact Zcl hm (mts:=ms) (tvs:=tvs) h2 r hl hr b hb
 |(.ro,t)::ms,tv::tvs,row::rows,v::vs,F,⟨F1,F2,h1,h2,h3,h4⟩,r,hl,hr,b,hb=>by
  rcases(h3 b).1 hb with hb|hb
  ·exact absurd hb (h1.1 b)
  ·exact Zcl hm (mts:=ms) (tvs:=tvs) h2 r hl hr b hb
 |(.give,t)::ms,tv::tvs,row::rows,v::vs,F,⟨F1,F2,h1,h2,h3,h4⟩,r,hl,hr,b,hb=>by
  rcases(h3 b).1 hb with hb|hb
  ·exact h1.2.2.2 r hl b hb
  ·exact Zcl hm (mts:=ms) (tvs:=tvs) h2 r hl hr b hb
 |[],_::_,_,_,_,h,_,_,_,_,_=>h.elim
 |[],[],_::_,_,_,h,_,_,_,_,_=>h.elim
 |[],[],[],_::_,_,h,_,_,_,_,_=>h.elim
 |(m,_)::_,[],_,_,_,h,_,_,_,_,_=>by cases m<;>exact h.elim
 |(m,_)::_,_::_,[],_,_,h,_,_,_,_,_=>by cases m<;>exact h.elim
 |(m,_)::_,_::_,_::_,[],_,h,_,_,_,_,_=>by cases m<;>exact h.elim
structure Back(w w':World)(x x':Root)(hd:Value):Prop where
 live:x'.live=true
 keeps:Keeps w w' x x' hd hd
 same:x'.box=x.box∧x'.sz=x.sz∧x'.es.length=x.es.length
 within:Within w w' hd (x.es.length*x.sz) x.pin
 pins:x'.pin=x.pin
theorem Zdr{Fall:FP}(hm1:MemRep w S M1 L1)(hsz:w.heap.size≤w'.heap.size)(hframe:∀b,b<w.heap.size→¬Fall b→w'.heap[b]?=w.heap[b]?)(hSF:∀b,S b→¬Fall b){M:Mem}:
  ∀{mts:List (Mode×TypeId)} {tvs:List TV} {rows:List (List D)} {vs:List Value} {F:FP} {backs:List (List D)} {G2:FP} {rs rs2:Look} {Lc:Lay},
   argsOut P w S Sc M1 L1 mts tvs rows vs F→inApart mts tvs→backRep w' S mts vs backs G2→inWithin w w' mts rows vs→
   (∀r∈inRoots mts tvs,r∈rs.keys∧Zao M rs r=M1 r)→MemRep w' S (holes (Zao M rs) (inRoots mts tvs)) Lc→(∀r,Lc.hd r=L1.hd r)→
   (∀b,F b→Fall b)→(∀b,Fall b→¬F b→∀r∈inRoots mts tvs,¬L1.fp r b)→(∀b,G2 b→(Fall b∨w.heap.size≤b)∧b<w'.heap.size∧¬S b)→
   (∀r∈inRoots mts tvs,∀b,L1.fp r b→¬Fall b→∀k,(holes (Zao M rs) (inRoots mts tvs) k).live=true→¬Lc.fp k b)→
   (∀b,G2 b→∀k,(holes (Zao M rs) (inRoots mts tvs) k).live=true→¬Lc.fp k b)→
   backAll P mts tvs backs rs=some (true,rs2)→
   ∃L',MemRep w' S (Zao M rs2) L'∧(∀r,L'.hd r=L1.hd r)∧rs2.keys=rs.keys∧(∀r,r∉inRoots mts tvs→Zao M rs2 r=Zao M rs r∧L'.fp r=Lc.fp r)∧
    ∀r∈inRoots mts tvs,Back w w' (M1 r) (Zao M rs2 r) (L1.hd r)∧∀b,L'.fp r b→(L1.fp r b∧¬Fall b)∨G2 b
 |[],[],[],[],F,backs,G2,rs,rs2,Lc,_,_,hb,_,_,hm,hhd,_,_,_,_,_,he=>by
  simp only[backAll,Option.some.injEq,Prod.mk.injEq,true_and]at he;subst he;have hm':MemRep w' S (holes (Zao M rs) []) Lc:=hm;rw[Zth]at hm';exact⟨Lc,hm',hhd,rfl,λr _=>⟨rfl,rfl⟩,λr hr=>by cases hr⟩
 |(.lend,t)::ms,tv::tvs,row::rows,v::vs,F,backs,G2,rs,rs2,Lc,⟨F1,F2,h1,h2,h3,h4⟩,hap,hb,hw,hk,hm,hhd,hF,hO,hG,H1,H2,he=>by
  have hFF:∀b,F b↔F2 b:=λb=>(h3 b).trans ⟨λh=>h.resolve_left (h1.1 b),.inr⟩;exact Zdr hm1 hsz hframe hSF (mts:=ms) (tvs:=tvs) h2 hap hb hw hk hm hhd (λb h=>hF b ((hFF b).2 h)) (λb h hn=>hO b h (λhx=>hn ((hFF b).1 hx))) hG H1 H2 he
 |(.ro,t)::ms,tv::tvs,row::rows,v::vs,F,backs,G2,rs,rs2,Lc,⟨F1,F2,h1,h2,h3,h4⟩,hap,hb,hw,hk,hm,hhd,hF,hO,hG,H1,H2,he=>by
  have hFF:∀b,F b↔F2 b:=λb=>(h3 b).trans ⟨λh=>h.resolve_left (h1.1 b),.inr⟩;exact Zdr hm1 hsz hframe hSF (mts:=ms) (tvs:=tvs) h2 hap hb hw hk hm hhd (λb h=>hF b ((hFF b).2 h)) (λb h hn=>hO b h (λhx=>hn ((hFF b).1 hx))) hG H1 H2 he
 |(.give,t)::ms,tv::tvs,row::rows,v::vs,F,backs,G2,rs,rs2,Lc,⟨F1,F2,h1,h2,h3,h4⟩,hap,hb,hw,hk,hm,hhd,hF,hO,hG,H1,H2,he=>by
  refine Zdr hm1 hsz hframe hSF (mts:=ms) (tvs:=tvs) h2 hap hb hw hk hm hhd (λb h=>hF b ((h3 b).2 (.inr h))) (λb h hn r hr=>?_) hG H1 H2 he;by_cases hb1:F1 b
  ·exact h1.2.2.2 r (Zbx h2 r hr) b hb1
  ·exact hO b h (λhx=>((h3 b).1 hx).elim hb1 hn) r hr
 |(.inout o p,t)::ms,tv::tvs,row::rows,v::vs,F,backs,G2,rs,rs2,Lc,h,hap,hb,hw,hk,hm,hhd,hF,hO,hG,H1,H2,he=>by
  obtain⟨F1,F2,h1,h2,h3,h4⟩:=h;obtain⟨r,ga,gh,q,n,i,j,B,c,Go,Ro,rfl,hok,rfl,hrl,_,hFB,hfp,hFR,hfl,put⟩:=h1;have hl:=Zar hok;have hroots:inRoots ((.inout o p,t)::ms) (.v false [C.ptr r ga gh q n i j]::tvs)=r::inRoots ms tvs:=rfl;rw[hroots]at hk hm hO H1 H2⊢;obtain⟨hap1,hap2⟩:=hap;have hrn:r∉inRoots ms tvs:=hap1 r (by simp[TV.roots,C.roots])
  obtain⟨hw1,hw2⟩:=hw;cases backs with
  |nil=>exact hb.elim
  |cons bk backs=>
   obtain⟨B',off',G',K1,K2,hv,hrow,hnB,hK1,hb2,hK,hKd⟩:=hb;injection hv with hv;injection hv with hv;injection hv with hv1 hv2;subst hv1 hv2;obtain⟨hkey,hov⟩:=hk r (by simp)
   have hget:rs.get r=M1 r:=by rw[←hov,Zc2 hkey]
   have hlg:(rs.get r).live=true:=by rw[hget];exact hl
   simp only[backAll,List.headD_cons,List.tail_cons]at he;split at he
   ·rename_i b1 rs1 he1;simp only[Option.some.injEq,Prod.mk.injEq,Bool.and_eq_true,decide_eq_true_eq]at he;obtain⟨⟨hlen,hfit,rfl⟩,rfl⟩:=he;rw[Zey hfit,hget]at he1;have hbl:bk.length=row.length:=by rw[Zh3 hfit,hlen,hrl]
    change backAll P ms tvs backs (rs.put r (putRoot (M1 r) q i j n (unpinRow p bk (((rowsAt (M1 r).es q).getD i []).drop j)) p))=some (true,rs1)at he1;have hRo:∀b,Ro b→L1.fp r b∧¬Fall b∧b<w.heap.size:=λb hb=>by
     have hfb:=(hfp b).2 (.inr hb);refine⟨hfb,λhx=>?_,(hm1.own r hl b hfb).1⟩;by_cases hFb:F b
     ·rcases(h3 b).1 hFb with hx1|hx1
      ·exact hFR b hx1 hb
      ·exact Zcl hm1 h2 r hl hrn b hx1 hfb
     ·exact hO b hx hFb r (by simp) hfb
    have hG':∀b,G' b→b≠B∧¬Ro b:=λb hb=>⟨λhe=>hnB (he▸hb),λhx=>by
     obtain⟨_,h5,h6⟩:=hRo b hx;rcases(hG b ((hK b).2 (.inl ((hK1 b).2 (.inr hb))))).1 with h7|h7
     ·exact h5 h7
     ·omega⟩
    obtain⟨hrep,hlen2,hkeep,hwith⟩:=put (w':=w') (ds:=bk) (G:=G') hbl (λb hb=>hframe b (hm1.lent b hb) (hSF b hb)) (λb hb=>hframe b (hRo b hb).2.2 (hRo b hb).2.1) (hw1 B c rfl) (λk hk hp=>Ztc hfit (by omega) hp) hrow hG'
    have hws:=Zhd (M1 r) q j (unpinRow p bk (((rowsAt (M1 r).es q).getD i []).drop j)) p;have hkeep':=hkeep (λhns b hb hbB=>by
     rcases(hfp b).1 hb with hx|hx
     ·rcases(hFB b).1 hx with hx|hx
      ·exact absurd hx hbB
      ·rcases hfl with hfl|hfl
       ·exfalso;have key:∀{ls:List Leaf} {ds:List D},fits o ls ds=true→ls.any Leaf.isSl=true→ds.all D.noSl=true→False:=by
         intro ls;induction ls with
         |nil=>intro ds _ h;simp at h
         |cons l ls ih=>
          intro ds h1 h2 h3;cases ds with
          |nil=>cases h1
          |cons d ds=>
           simp only[fits,Bool.and_eq_true]at h1;simp only[List.any_cons,Bool.or_eq_true]at h2;simp only[List.all_cons,Bool.and_eq_true]at h3;rcases h2 with h2|h2
           ·cases l with
            |sl n f=>obtain⟨es,rfl⟩:=Zjf h1.1;cases h3.1
            |_=>cases h2
           ·exact ih h1.2 h2 h3.2
        exact key hfit hfl hns
       ·exact absurd hx (hfl b)
     ·exact hframe b (hRo b hx).2.2 (hRo b hx).2.1)
    have hnew:∀b,(b=B∨G' b∨Ro b)→(K1 b∨Ro b):=λb hb=>by
     rcases hb with hb|hb|hb
     ·exact .inl ((hK1 b).2 (.inl hb))
     ·exact .inl ((hK1 b).2 (.inr hb))
     ·exact .inr hb
    have hdead:(holes (Zao M rs) (r::inRoots ms tvs) r).live=false:=by unfold holes;rw[if_pos (by simp)]
    have hrev:=Z2i (x:=putRoot (M1 r) q i j n (unpinRow p bk (((rowsAt (M1 r).es q).getD i []).drop j)) p) (hd:=L1.hd r) (F:=λb=>b=B∨G' b∨Ro b) hm hdead (hws.2.2.2.1.trans (hm1.born r hl)) hrep (λb hb=>by
     rcases hnew b hb with hx|hx
     ·exact(hG b ((hK b).2 (.inl hx))).2
     ·exact⟨Nat.lt_of_lt_of_le (hRo b hx).2.2 hsz,(hm1.own r hl b (hRo b hx).1).2⟩) (λk hlk b hb=>by
     rcases hnew b hb with hx|hx
     ·exact H2 b ((hK b).2 (.inl hx)) k hlk
     ·exact H1 r (by simp) b (hRo b hx).1 (hRo b hx).2.1 k hlk)
    have hput:∀k,Zao M (rs.put r (putRoot (M1 r) q i j n (unpinRow p bk (((rowsAt (M1 r).es q).getD i []).drop j)) p)) k=if k=r then putRoot (M1 r) q i j n (unpinRow p bk (((rowsAt (M1 r).es q).getD i []).drop j)) p else Zao M rs k:=λk=>Ze5 hlg k;have hMeq:(λk=>if k=r then putRoot (M1 r) q i j n (unpinRow p bk (((rowsAt (M1 r).es q).getD i []).drop j)) p else holes (Zao M rs) (r::inRoots ms tvs) k)=holes (Zao M (rs.put r (putRoot (M1 r) q i j n (unpinRow p bk (((rowsAt (M1 r).es q).getD i []).drop j)) p))) (inRoots ms tvs):=by
     funext k
     by_cases hkr:k=r
     ·subst hkr;simp only[if_true];unfold holes;rw[if_neg hrn,hput,if_pos rfl]
     ·simp only[if_neg hkr];unfold holes;rw[hput,if_neg hkr];simp only[List.mem_cons,hkr,false_or]
    rw[hMeq]at hrev;have hold:∀k,k≠r→(holes (Zao M (rs.put r (putRoot (M1 r) q i j n (unpinRow p bk (((rowsAt (M1 r).es q).getD i []).drop j)) p))) (inRoots ms tvs) k).live=true→(holes (Zao M rs) (r::inRoots ms tvs) k).live=true:=λk hkr h=>by
     rw[←hMeq]at h;simpa only[if_neg hkr]using h
    have hlive':=λr' (hr':r'∈inRoots ms tvs)=>Zbx h2 r' hr';obtain⟨L',a1,a2,a3,a4,a5⟩:=Zdr hm1 hsz hframe hSF h2 hap2 hb2 hw2 (λr' hr'=>by
      obtain⟨b1,b2⟩:=hk r' (by simp[hr'])
      refine⟨by rw[Zd8];exact b1,?_⟩
      have hne:¬r'=r:=λhe=>hrn (by rw[←he];exact hr')
      rw[hput,if_neg hne];exact b2) hrev (λk=>by
       by_cases hkr:k=r
       ·subst hkr;simp
       ·simp only[if_neg hkr];exact hhd k) (λb hb=>hF b ((h3 b).2 (.inr hb))) (λb hb hn r' hr' hf=>by
      by_cases hFb:F b
      ·rcases(h3 b).1 hFb with hx|hx
       ·exact hm1.apart r r' hl (hlive' r' hr') (λhe=>hrn (he▸hr')) b ((hfp b).2 (.inl hx)) hf
       ·exact hn hx
      ·exact hO b hb hFb r' (by simp[hr']) hf) (λb hb=>hG b ((hK b).2 (.inr hb))) (λr' hr' b hf hn k hlk=>by
      by_cases hkr:k=r
      ·subst hkr;simp only[if_true];intro hb;rcases hb with hb|hb|hb
       ·subst hb;exact hn (hF _ ((h3 _).2 (.inl ((hFB _).2 (.inl rfl)))))
       ·rcases(hG b ((hK b).2 (.inl ((hK1 b).2 (.inr hb))))).1 with h7|h7
        ·exact hn h7
        ·have:=(hm1.own r' (hlive' r' hr') b hf).1;omega
       ·exact hm1.apart k r' hl (hlive' r' hr') (λhe=>hrn (he▸hr')) b (hRo b hb).1 hf
      ·simp only[if_neg hkr];exact H1 r' (by simp[hr']) b hf hn k (hold k hkr hlk)) (λb hb k hlk=>by
      by_cases hkr:k=r
      ·subst hkr;simp only[if_true];intro hx;rcases hnew b hx with hx|hx
       ·exact hKd b hx hb
       ·rcases(hG b ((hK b).2 (.inr hb))).1 with h7|h7
        ·exact(hRo b hx).2.1 h7
        ·have:=(hRo b hx).2.2;omega
      ·simp only[if_neg hkr];exact H2 b ((hK b).2 (.inr hb)) k (hold k hkr hlk)) he1
    refine⟨L',a1,a2,a3.trans (Zd8 _ _ _),λk hk2=>?_,λk hk2=>?_⟩
    ·have hkr:k≠r:=λh=>hk2 (by simp[h])
     obtain⟨b1,b2⟩:=a4 k (λh=>hk2 (by simp[h]))
     rw[hput,if_neg hkr]at b1;simp only[if_neg hkr]at b2;exact⟨b1,b2⟩
    ·rcases List.mem_cons.1 hk2 with hkr|hkr
     ·subst hkr;obtain⟨b1,b2⟩:=a4 k hrn;rw[hput,if_pos rfl]at b1;simp only[if_true]at b2;rw[b1];refine⟨⟨hws.2.2.1.trans hl,hkeep',⟨hws.1,hws.2.1,hlen2⟩,hwith,hws.2.2.2.2.2.1⟩,λb hb=>?_⟩;rw[b2]at hb;rcases hnew b hb with hx|hx
      ·exact .inr ((hK b).2 (.inl hx))
      ·exact .inl ⟨(hRo b hx).1,(hRo b hx).2.1⟩
     ·obtain⟨b1,b2⟩:=a5 k hkr;exact⟨b1,λb hb=>(b2 b hb).imp id (λh=>(hK b).2 (.inr h))⟩
   ·cases he
 |[],_::_,_,_,_,_,_,_,_,_,h,_,_,_,_,_,_,_,_,_,_,_,_=>h.elim
 |[],[],_::_,_,_,_,_,_,_,_,h,_,_,_,_,_,_,_,_,_,_,_,_=>h.elim
 |[],[],[],_::_,_,_,_,_,_,_,h,_,_,_,_,_,_,_,_,_,_,_,_=>h.elim
 |(m,_)::_,[],_,_,_,_,_,_,_,_,h,_,_,_,_,_,_,_,_,_,_,_,_=>by cases m<;>exact h.elim
 |(m,_)::_,_::_,[],_,_,_,_,_,_,_,h,_,_,_,_,_,_,_,_,_,_,_,_=>by cases m<;>exact h.elim
 |(m,_)::_,_::_,_::_,[],_,_,_,_,_,_,h,_,_,_,_,_,_,_,_,_,_,_,_=>by cases m<;>exact h.elim
end
end Go.Ev
