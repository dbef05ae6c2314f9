/- What an operation makes of memory, and storing. -/
import Derived.Test.YtihhlajibgoemaaGreatEvStore
namespace Go.Ev
open Go.RowKit
set_option linter.unusedVariables false
set_option linter.unusedSimpArgs false
def Within(w w':World)(h:Value)(n:Nat)(pin:List Nat):Prop:=∀B off len cap,h=.slice (some ⟨B,off,none⟩) len cap→∀cs t f,w.heap[B]?=some (.cells cs t f)→
 ∃cs':Array Value,w'.heap[B]?=some (.cells cs' t f)∧cs'.size=cs.size∧∀k,¬(off≤k∧k<off+n∧k-off∉pin)→cs'[k]?=cs[k]?
theorem Within.refl{w w':World}{h:Value}{n:Nat}{pin:List Nat}(hh:∀B off len cap,h=.slice (some ⟨B,off,none⟩) len cap→w'.heap[B]?=w.heap[B]?):Within w w' h n pin:=
 fun B off len cap he cs t f hc=>⟨cs,(hh B off len cap he).trans hc,rfl,λ_ _=>rfl⟩
theorem Within.trans{w w1 w2:World}{h:Value}{n:Nat}{pin:List Nat}(a:Within w w1 h n pin)(b:Within w1 w2 h n pin):Within w w2 h n pin:=by
 intro B off len cap he cs t f hc;obtain⟨c1,h1,s1,k1⟩:=a B off len cap he cs t f hc;obtain⟨c2,h2,s2,k2⟩:=b B off len cap he c1 t f h1;exact⟨c2,h2,s2.trans s1,λk hk=>(k2 k hk).trans (k1 k hk)⟩
structure Turns(w w':World)(S S':FP)(M M':Mem)(L L':Lay)(R:List Nat)(N:Nat→Prop):Prop where
 rep:MemRep w' S' M' L'
 below:Below 0 w w'
 lent:∀b,S b→S' b
 frame:∀b,b<w.heap.size→(∀r,r∈R→(M r).live=true→¬L.fp r b)→w'.heap[b]?=w.heap[b]?
 keeps:∀r,¬N r→Keeps w w' (M r) (M' r) (L.hd r) (L'.hd r)
 live:∀r,¬N r→(M' r).live=true→(M r).live=true
 same:∀r,r∉R→¬N r→M' r=M r∧L'.hd r=L.hd r∧((M' r).live=true→∀b,L'.fp r b→L.fp r b)
 fp:∀r,(M' r).live=true→∀b,L'.fp r b→(∃r',(M r').live=true∧L.fp r' b)∨w.heap.size≤b
 out:∀b,S' b→S b∨(∃r,(M r).live=true∧L.fp r b)∨w.heap.size≤b
 within:∀r,¬N r→(M r).live=true→(M' r).live=true→L'.hd r=L.hd r∧(M' r).box=(M r).box∧(M' r).sz=(M r).sz∧(M' r).es.length=(M r).es.length∧(M' r).pin=(M r).pin∧((M r).box=true→Within w w' (L.hd r) ((M r).es.length*(M r).sz) (M r).pin)
 box:∀r,¬N r→(M r).live=true→(M r).box=true→(M' r).live=true
section
variable {w w' : World} {S S' : FP} {M M' : Mem} {L L' : Lay} {R : List Nat} {N : Nat → Prop}
theorem Turns.heapS(h:Turns w w' S S' M M' L L' R N)(hm:MemRep w S M L):∀b,S b→S' b∧w'.heap[b]?=w.heap[b]?:=λb hb=>
 ⟨h.lent b hb,h.frame b (hm.lent b hb) (λr _ hl hf=>(hm.own r hl b hf).2 hb)⟩
theorem Turns.f(h:Turns w w' S S' M M' L L' R N)(hN:∀r,N r→(M r).born=false):∀r,(M r).born=true→(M' r).born=true∧KeepF w w' (M r) (M' r) (L.hd r) (L'.hd r):=λr hb=>by
 by_cases hr:N r
 ·rw[hN r hr]at hb;cases hb
 ·exact⟨(h.keeps r hr hb).1.1,(h.keeps r hr hb).2.2⟩
theorem Turns.cRep(h:Turns w w' S S' M M' L L' R N)(hm:MemRep w S M L)(hN:∀r,N r→(M r).born=false){c:C}{v:Value}(hc:cRep w S M L c v):cRep w' S' M' L' c v:=by
 refine Zbw (h.heapS hm) (λr=>?_) hc;by_cases hr:N r
 ·intro hb;rw[hN r hr]at hb;cases hb
 ·exact h.keeps r hr
end
theorem Zc4{w w':World}{S S':FP}(hS:∀b,S b→S' b∧w'.heap[b]?=w.heap[b]?){B:Nat}:∀{ds:List D} {vs:List Value} {G:FP} {off:Nat},datRep w S ds vs G→(∀b,G b→w'.heap[b]?=w.heap[b]?)→
  (∀(k:Nat) (v:Value),vs[k]?=some v→w'.cell? ⟨B,off+k,none⟩=some v)→repRow w' S' ds B off G
 |[],[],G,off,h,_,_=>h
 |d::ds,v::vs,G,off,h,hG,hc=>by
  obtain⟨F1,F2,h1,h2,h3,h4⟩:=h;refine⟨v,F1,F2,hc 0 v rfl,Zbp hS h1 (λb hb=>hG b ((h3 b).2 (.inl hb))),Zc4 hS h2 (λb hb=>hG b ((h3 b).2 (.inr hb))) (λk u hk=>?_),h3,h4⟩;rw[show off+1+k=off+(k+1) by omega]
  exact hc (k+1) u (by simpa using hk)
 |[],_::_,_,_,h,_,_=>h.elim
 |_::_,[],_,_,h,_,_=>h.elim
theorem Zg5{rs:Look}{c:C}{x:Bool×D×Look}(h:c.move rs=some x):c.solid=true:=by cases c<;>first|rfl|cases h
theorem Zif{w:World}{S:FP}{M:Mem}{L:Lay}:∀{cs:List C} {vs:List Value} {rs:Look} {x:Bool×List D×Look},cellsRep w S M L cs vs→moveAll cs rs=some x→∀v∈vs,v.oneCell'=true
 |[],[],rs,x,_,_,v,hv=>by cases hv
 |c::cs,u::vs,rs,x,h,he,v,hv=>by
  simp only[moveAll]at he;split at he
  ·rename_i b d rs1 h1;split at he
   ·rename_i b' ds rs2 h2;rcases List.mem_cons.1 hv with rfl|hv
    ·exact Zev h.1 (Zg5 h1)
    ·exact Zif h.2 h2 v hv
   ·cases he
  ·cases he
 |[],_::_,_,_,h,_,_,_=>h.elim
 |_::_,[],_,_,h,_,_,_=>h.elim
theorem Ziy{w:World}{B:Nat}{cs:Array Value}{t:TypeId}{f:Nat×Nat}{o:Nat}{vs:List Value}(hB:w.heap[B]?=some (.cells cs t f))(hle:o+vs.length≤cs.size):
  (∀(k:Nat) (v:Value),vs[k]?=some v→(w.setRow B (cs.toList.take o++vs++cs.toList.drop (o+vs.length)).toArray).cell? ⟨B,o+k,none⟩=some v)∧
  (∀k,¬(o≤k∧k<o+vs.length)→(w.setRow B (cs.toList.take o++vs++cs.toList.drop (o+vs.length)).toArray).cell? ⟨B,k,none⟩=w.cell? ⟨B,k,none⟩)∧
  (∀b,b≠B→(w.setRow B (cs.toList.take o++vs++cs.toList.drop (o+vs.length)).toArray).heap[b]?=w.heap[b]?)∧
  ∃cs':Array Value,(w.setRow B (cs.toList.take o++vs++cs.toList.drop (o+vs.length)).toArray).heap[B]?=some (.cells cs' t f)∧cs'.size=cs.size∧∀k,¬(o≤k∧k<o+vs.length)→cs'[k]?=cs[k]?:=by
 have hl:(cs.toList.take o).length=o:=by rw[List.length_take];simp;omega
 have hl2:(cs.toList.take o++vs).length=o+vs.length:=by rw[List.length_append,hl]
 have hget:∀k,¬(o≤k∧k<o+vs.length)→(cs.toList.take o++vs++cs.toList.drop (o+vs.length))[k]?=cs.toList[k]?:=by
  intro k hk;by_cases h1:k<o
  ·rw[List.append_assoc,List.getElem?_append_left (by omega),List.getElem?_take_of_lt h1]
  ·rw[List.getElem?_append_right (by omega),List.getElem?_drop,hl2,show o+vs.length+(k-(o+vs.length))=k by omega]
 refine⟨λk v hk=>?_,λk hk=>?_,λb hb=>setRow_other w B b _ hb,_,setRow_heap w B cs _ t f hB,?_,λk hk=>?_⟩
 ·rw[cell_setRow_same w B (o+k) cs _ t f hB];have hlt:k<vs.length:=(List.getElem?_eq_some_iff.1 hk).1;rw[List.getElem?_toArray,List.getElem?_append_left (by omega),List.getElem?_append_right (by omega),hl,show o+k-o=k by omega]
  exact hk
 ·rw[cell_setRow_same w B k cs _ t f hB,List.getElem?_toArray,hget k hk];simp[World.cell?,hB]
 ·simp;omega
 ·rw[List.getElem?_toArray,hget k hk];simp
theorem Zh7{w:World}{S:FP}{n0:Nat}{es0:List (List D)}{B0 off0 len0 cap0:Nat}{a:Nat×Nat}{q:Path}{n:Nat}{es:List (List D)}{B off len cap:Nat}{F:FP}
  (hh:HeadAt w (.sl true n0 es0) (.slice (some ⟨B0,off0,none⟩) len0 cap0) (a::q) (.sl true n es) (.slice (some ⟨B,off,none⟩) len cap)) (h:repD w S (.sl true n0 es0) (.slice (some ⟨B0,off0,none⟩) len0 cap0) F):B≠B0:=by
 obtain⟨F',_,_,hrows,hnB,hF,_⟩:=Zbm h;cases hh with
 |cons ha hb hc hp=>
  obtain⟨Gr,hrl,hrow,hGr⟩:=Zbs _ hrows ha;obtain⟨u',G',hu',hd',hG'⟩:=Zcb hrow _ hb;rw[hc]at hu';injection hu' with hu';subst hu';intro he;subst he;exact hnB (hGr _ (hG' _ (Zg1 hp hd')))
theorem Zhd(x:Root)(q:Path)(j:Nat)(ds:List D)(pin:List Nat):(x.wrote q j ds pin).box=x.box∧(x.wrote q j ds pin).sz=x.sz∧(x.wrote q j ds pin).live=x.live∧(x.wrote q j ds pin).born=x.born∧(x.wrote q j ds pin).frz=x.frz∧(x.wrote q j ds pin).pin=x.pin∧((x.wrote q j ds pin).ga=x.ga∧x.gh≤(x.wrote q j ds pin).gh):=by
 unfold Root.wrote;cases ds.all D.noSl<;>simp
theorem Zk4{pin:List Nat}{g j0:Nat}:∀{ds:List D} {k i:Nat} {cv:List (Nat×Nat)},i<ds.length→(ds.getD i .dead).noSl=false→pin.contains (k+i)=false→colAt (colsOf pin g j0 k ds++cv) (j0+(k+i))=g
 |[],_,_,_,h,_,_=>by simp at h
 |d::ds,k,i,cv,hi,hd,hp=>by
  unfold colsOf;cases i with
  |zero=>
   simp only[List.getD_cons_zero,Nat.add_zero]at hd hp;rw[hd,hp];simp[colAt]
  |succ i=>
   have ih:=Zk4 (pin:=pin) (g:=g) (j0:=j0) (ds:=ds) (k:=k+1) (i:=i) (cv:=cv) (by simpa using hi) (by simpa using hd) (by rw[show k+1+i=k+(i+1) by omega];exact hp)
   rw[show k+1+i=k+(i+1) by omega]at ih
   cases h:d.noSl||pin.contains k
   ·simp only[cond_false];refine Eq.trans ?_ ih;unfold colAt;rw[List.cons_append,List.find?_cons];have:((j0+k,g).1==j0+(k+(i+1)))=false:=by simp
    rw[this]
   ·simp only[cond_true];exact ih
theorem Zj6{x:Root}{q:Path}{j:Nat}{ds:List D}{pin:List Nat}{es:List (List D)}{ga gh:Nat}{q':Path}(hg:gh≤x.gh)(h:okView { (x.wrote q j ds pin)with es:=es } ga gh q'=true)(hall:ds.all D.noSl=false):
  okView x ga gh q'=true∧(q'=[]∨∃i' j',q'=[(i',j')]∧(q=[]→j≤j'→j'<j+ds.length→(ds.getD (j'-j) .dead).noSl=true∨pin.contains (j'-j)=true)):=by
 unfold okView Root.wrote at h;rw[hall]at h;simp only[cond_false,Bool.and_eq_true,Bool.or_eq_true,Bool.not_eq_true',List.isEmpty_iff]at h;obtain⟨⟨⟨h1,h2⟩,h3⟩,h4⟩:=h
 match q' with
 |[]=>exact⟨by unfold okView;simp[h1,h2,h3],.inl rfl⟩
 |[(i',j')]=>
  have h4:=h4.resolve_left (by simp)
  unfold headOk at h4;simp only[Bool.and_eq_true,decide_eq_true_eq]at h4;obtain⟨h5,h6⟩:=h4;have key:∀hlt:j≤j'∧j'<j+ds.length,q=[]→(ds.getD (j'-j) .dead).noSl=true∨pin.contains (j'-j)=true:=λhlt hq=>by
   subst hq;cases hx:(ds.getD (j'-j) .dead).noSl with
   |true=>exact .inl rfl
   |false=>
    cases hy:pin.contains (j'-j)with
    |true=>exact .inr rfl
    |false=>
     exfalso;have:=Zk4 (pin:=pin) (g:=x.gh+1) (j0:=j) (ds:=ds) (k:=0) (i:=j'-j) (cv:=x.cv) (by omega) hx (by rw[Nat.zero_add];exact hy)
     rw[show j+(0+(j'-j))=j' by omega]at this
     simp only at h6;rw[this]at h6;omega
  have hcv:colAt x.cv j'≤gh:=by
   cases q with
   |cons a q=>exact h6
   |nil=>
    have pass:∀(ds:List D) (k:Nat),colAt (colsOf pin (x.gh+1) j k ds++x.cv) j'≤gh→colAt x.cv j'≤gh:=by
     intro ds;induction ds with
     |nil=>intro k h;exact h
     |cons d ds ih=>
      intro k h;unfold colsOf at h;cases hd:d.noSl||pin.contains k
      ·rw[hd]at h;simp only[cond_false]at h;unfold colAt at h;rw[List.cons_append,List.find?_cons]at h;cases he:((j+k,x.gh+1).1==j')
       ·rw[he]at h;exact ih (k+1) h
       ·rw[he]at h;simp only at h;omega
      ·rw[hd]at h;exact ih (k+1) h
    exact pass ds 0 h6
  refine⟨?_,.inr ⟨i',j',rfl,λhq ha hb=>key ⟨ha,hb⟩ hq⟩⟩;unfold okView headOk;simp only[h1,h2,h3,Bool.and_eq_true,Bool.or_eq_true,decide_eq_true_eq,Bool.not_false];exact⟨⟨⟨trivial,trivial⟩,trivial⟩,.inr ⟨h5,hcv⟩⟩
 |a::b::q'=>
  have h4:=h4.resolve_left (by simp)
  unfold headOk at h4;simp only[beq_iff_eq]at h4;omega
theorem Zmu{P:Program}{w:World}{S:FP}{M M1:Mem}{L L1:Lay}{R1 R:List Nat}{G:FP}{ds:List D}{vs:List Value}{r:Nat}{q:Path}{n i j:Nat}{es:List (List D)}{B off cap:Nat}
  (hm:MemRep w S M L) (mv:Moves w S M M1 L L1 R1 G) (hds:datRep w S ds vs G) (hone:∀v∈vs,v.oneCell'=true) (hlive:(M1 r).live=true)
  (hh:HeadAt w (rootD (M1 r)) (L1.hd r) q (.sl true n es) (.slice (some ⟨B,off,none⟩) es.length cap)) (hi:i<es.length) (hj:j+ds.length≤n) (hr:r∈R) (hR:∀k∈R1,k∈R) (hz:(M1 r).frz=false) (hfree:(M1 r).free q (i*n+j) ds.length []=true):
  ∃w' L',(storeCells ⟨B,off+i*n+j,none⟩ vs).run P w=.ok () w'∧
   Turns w w' S S M (λk=>if k=r then { ((M1 r).wrote q j ds [])with es:=modAt (λrows=>rows.set i (newRow rows i j n ds)) (M1 r).es q }else M1 k) L L' R (λ_=>False):=by
 have hrep:=mv.rep.rep r hlive;obtain⟨G0,R0,hG0,hF0,hd0,back0⟩:=Zc7 hh hrep;obtain⟨F',_,hcap,hrows,hnB,hGB,⟨cs,t,hblk,hsize⟩,hc63⟩:=Zbm hG0;obtain⟨Gr,Rr,hrl,hrow,hFr,hdr,back1⟩:=Zb9 i hrows hi;obtain⟨Go,Ro,hold,hFo,hdo,back2⟩:=Zfl (j:=j) (n:=ds.length) hrow (by omega)
 have hvl:vs.length=ds.length:=(Za4 hds).symm;have hmul:i*n+n≤es.length*n:=by
  have:=Nat.mul_le_mul_right n (show i+1≤es.length from hi);rw[Nat.add_mul]at this;omega
 have hmul2:es.length*n≤cap*n:=Nat.mul_le_mul_right n hcap;have hle:off+i*n+j+vs.length≤cs.size:=by omega
 obtain⟨hc1,hc2,hc3,cs',hc4,hc5,hc6⟩:=Ziy (o:=off+i*n+j) (vs:=vs) hblk hle;have hrun:=run_storeCells_at (P:=P) B (off+i*n+j) t vs 0 cs w hblk (by simpa using hle) hone
 simp only[Nat.add_zero]at hrun;generalize hw':w.setRow B (cs.toList.take (off+i*n+j)++vs++cs.toList.drop (off+i*n+j+vs.length)).toArray=w' at hrun hc1 hc2 hc3 hc4;have hbelow:Below 0 w w':=by rw[←hw'];exact⟨rfl,rfl,rfl,by simp,λk hk=>absurd hk (Nat.not_lt_zero k)⟩
 have hsz:w'.heap.size=w.heap.size:=by rw[←hw'];simp
 have hfpB:L1.fp r B:=(hF0 B).2 (.inl ((hGB B).2 (.inl rfl)));have hSB:¬S B:=(mv.rep.own r hlive B hfpB).2;have hS:∀b,S b→S b∧w'.heap[b]?=w.heap[b]?:=λb hb=>⟨hb,hc3 b (λhe=>by subst he;exact hSB hb)⟩
 have hGap:∀b,G b→¬L1.fp r b:=mv.apart r hlive;have hGne:∀b,G b→b≠B:=λb hb he=>by subst he;exact hGap _ hb hfpB
 have hsubr:∀b,Gr b→L1.fp r b:=λb hb=>(hF0 b).2 (.inl ((hGB b).2 (.inr ((hFr b).2 (.inl hb)))));have hsubRr:∀b,Rr b→L1.fp r b:=λb hb=>(hF0 b).2 (.inl ((hGB b).2 (.inr ((hFr b).2 (.inr hb)))));have hneF:∀b,F' b→b≠B:=λb hb he=>by subst he;exact hnB hb
 have hnew:=Zc4 (w':=w') hS hds (λb hb=>hc3 b (hGne b hb)) hc1;have hrow':=back2 (w':=w') (S':=S) (ds:=ds) (G':=G) rfl hS (λb hb=>hc3 b (hneF b ((hFr b).2 (.inl ((hFo b).2 (.inr hb))))))
  (λk hk hnk=>hc2 _ (λh=>hnk ⟨by omega,by omega⟩)) hnew (λb hb hb'=>hGap b hb (hsubr b ((hFo b).2 (.inr hb'))))
 have hrows':=back1 (w':=w') (S':=S) hS (λb hb=>hc3 b (hneF b ((hFr b).2 (.inr hb)))) (λk hk hnk=>hc2 _ (λh=>hnk ⟨by omega,by omega⟩)) (by rw[Zck _ _ _ (by omega),hrl]) hrow'
  (λb hb hb'=>by
   rcases hb with hb|hb
   ·exact hGap b hb (hsubRr b hb')
   ·exact hdr b ((hFo b).2 (.inr hb)) hb')
 have hnr:newRow es i j n ds=splice (es.getD i []) j ds:=Zc1 hrl;rw[←hnr]at hrows';have hrepN:repD w' S (.sl true n (es.set i (newRow es i j n ds))) (.slice (some ⟨B,off,none⟩) es.length cap) (λb=>b=B∨((G b∨Ro b)∨Rr b)):=by
  refine⟨some ⟨B,off,none⟩,cap,by rw[List.length_set],by rw[List.length_set];exact hcap,.inr ⟨B,off,_,rfl,hrows',.inl ⟨rfl,?_,λb=>Iff.rfl,⟨cs',t,hc4,by omega⟩,hc63⟩⟩⟩
  rintro((hb|hb)|hb)
  ·exact hGne B hb rfl
  ·exact hnB ((hFr B).2 (.inl ((hFo B).2 (.inr hb))))
  ·exact hnB ((hFr B).2 (.inr hb))
 obtain⟨hrepR,_⟩:=back0 (w':=w') hS (λb hb=>hc3 b (λhe=>by subst he;exact hd0 _ ((hGB _).2 (.inl rfl)) hb)) hrepN (λb hb hb'=>by
  rcases hb with rfl|((hb|hb)|hb)
  ·exact hd0 _ ((hGB _).2 (.inl rfl)) hb'
  ·exact hGap b hb ((hF0 b).2 (.inr hb'))
  ·exact hd0 b ((hGB b).2 (.inr ((hFr b).2 (.inl ((hFo b).2 (.inr hb)))))) hb'
  ·exact hd0 b ((hGB b).2 (.inr ((hFr b).2 (.inr hb)))) hb')
 have hput:=Zll hh (λrows=>rows.set i (newRow rows i j n ds)) rfl (rfl:rootD (M1 r)=.sl true (M1 r).sz (M1 r).es);rw[hput]at hrepR;obtain⟨w1,w2,w3,w4,w5,w6,w7⟩:=Zhd (M1 r) q j ds [];let x':Root:={ ((M1 r).wrote q j ds [])with es:=modAt (λrows=>rows.set i (newRow rows i j n ds)) (M1 r).es q };let fpr:FP:=λb=>(b=B∨((G b∨Ro b)∨Rr b))∨R0 b;let L':Lay:=⟨L1.hd,λk=>if k=r then fpr else L1.fp k⟩;have hfpr:∀b,fpr b→G b∨L1.fp r b:=by
  rintro b ((rfl|((hb|hb)|hb))|hb)
  ·exact .inr hfpB
  ·exact .inl hb
  ·exact .inr (hsubr b ((hFo b).2 (.inr hb)))
  ·exact .inr (hsubRr b hb)
  ·exact .inr ((hF0 b).2 (.inr hb))
 have hL':∀k b,(M1 k).live=true→L'.fp k b→(k=r∧G b)∨L1.fp k b:=by
  intro k b hk hb;by_cases hkr:k=r
  ·subst hkr;have:fpr b:=by simpa[L']using hb
   rcases hfpr b this with h|h
   ·exact .inl ⟨rfl,h⟩
   ·exact .inr h
  ·exact .inr (by simpa[L',hkr]using hb)
 have hlv:∀k,((if k=r then x' else M1 k):Root).live=true→(M1 k).live=true:=by
  intro k hk;by_cases hkr:k=r
  ·subst hkr;exact hlive
  ·rw[if_neg hkr]at hk;exact hk
 have hmodl:(modAt (λrows=>rows.set i (newRow rows i j n ds)) (M1 r).es q).length=(M1 r).es.length:=Zen _ (λxs=>List.length_set ..) _ _;have hGout:∀b,G b→∃k,(M k).live=true∧L.fp k b:=λb hb=>by obtain⟨k,_,h1,h2⟩:=mv.out b hb;exact⟨k,h1,h2⟩
 have hGown:∀b,G b→b<w.heap.size∧¬S b:=λb hb=>by obtain⟨k,h1,h2⟩:=hGout b hb;exact hm.own k h1 b h2
 refine⟨w',L',hrun,⟨⟨λk hk=>?_,λk hk=>?_,λk hk b hb=>?_,λk k' hk hk' hne b hb hb'=>?_,λb hb=>by rw[hsz];exact hm.lent b hb⟩,hbelow,λb hb=>hb,λb hb hnr2=>?_,λk _=>?_,λk _ hk=>mv.live k (hlv k hk),λk hk _=>?_,λk hk b hb=>?_,λb hb=>.inl hb,λk _ hk hk'=>?_,λk _ hk hb=>?_⟩⟩
 ·-- rep
  by_cases hkr:k=r
  ·subst hkr;simp only[if_true,L'];show repD w' S (.sl true ((M1 k).wrote q j ds []).sz _) _ _;rw[w2];exact hrepR
  ·simp only[if_neg hkr,L'];have hk1:=hlv k hk;exact Zbp hS (mv.rep.rep k hk1) (λb hb=>hc3 b (λhe=>by subst he;exact mv.rep.apart r k hlive hk1 (Ne.symm hkr) _ hfpB hb))
 ·by_cases hkr:k=r
  ·subst hkr;simp only[if_true];exact w4.trans (mv.rep.born k hlive)
  ·simp only[if_neg hkr];exact mv.rep.born k (hlv k hk)
 ·rw[hsz];rcases hL' k b (hlv k hk) hb with⟨_,hg⟩|hf
  ·exact hGown b hg
  ·exact mv.rep.own k (hlv k hk) b hf
 ·rcases hL' k b (hlv k hk) hb with⟨rfl,hg⟩|hf
  ·rcases hL' k' b (hlv k' hk') hb' with⟨rfl,_⟩|hf'
   ·exact hne rfl
   ·exact mv.apart k' (hlv k' hk') b hg hf'
  ·rcases hL' k' b (hlv k' hk') hb' with⟨rfl,hg⟩|hf'
   ·exact mv.apart k (hlv k hk) b hg hf
   ·exact mv.rep.apart k k' (hlv k hk) (hlv k' hk') hne b hf hf'
 ·-- frame
  refine hc3 b (λhe=>?_);subst he;exact hnr2 r hr (mv.live r hlive) (mv.fp r hlive _ hfpB)
 ·-- keeps
  by_cases hkr:k=r
  ·subst hkr;simp only[if_true,L'];refine Zco (mv.keeps k) ?_;intro hb;refine⟨⟨w4.trans hb,w7.2⟩,λga gh q' hg ho hp=>?_,KeepF.no hz⟩;cases hall:ds.all D.noSl with
   |true=>
    have ho:okView (M1 k) ga gh q'=true:=by
     unfold okView headOk Root.wrote at ho;rw[hall]at ho;exact ho
    have hp:pathOk (modAt (λrows=>rows.set i (newRow rows i j n ds)) (M1 k).es q) q'=true:=hp;have e0:rootD x'=.sl true (M1 k).sz (modAt (λrows=>rows.set i (newRow rows i j n ds)) (M1 k).es q):=by
     show D.sl true ((M1 k).wrote q j ds []).sz _=_;rw[w2]
    change okView (M1 k) ga gh q'=true∧pathOk (M1 k).es q'=true∧∀sz es v,HeadAt w (rootD (M1 k)) (L1.hd k) q' (.sl true sz es) v→∃es',es'.length=es.length∧HeadAt w' (rootD x') (L1.hd k) q' (.sl true sz es') v;rw[e0];obtain⟨k1,k2⟩:=Zhi (w:=w) (w':=w') (S:=S) (n1:=n) (j0:=j) hall hi hj (λk' hk'=>hc2 k' (by rw[hvl];exact hk')) hh rfl rfl (rfl:rootD (M1 k)=_) hrep (λb _ hb=>hc3 b hb) hp
    exact⟨ho,k1,λsz es2 u hh2=>k2 hh2⟩
   |false=>
    obtain⟨ho',hq⟩:=Zj6 hg ho hall;have hp:pathOk (modAt (λrows=>rows.set i (newRow rows i j n ds)) (M1 k).es q) q'=true:=hp;have e0:rootD x'=.sl true (M1 k).sz (modAt (λrows=>rows.set i (newRow rows i j n ds)) (M1 k).es q):=by
     show D.sl true ((M1 k).wrote q j ds []).sz _=_;rw[w2]
    change okView (M1 k) ga gh q'=true∧pathOk (M1 k).es q'=true∧∀sz es v,HeadAt w (rootD (M1 k)) (L1.hd k) q' (.sl true sz es) v→∃es',es'.length=es.length∧HeadAt w' (rootD x') (L1.hd k) q' (.sl true sz es') v;rw[e0];refine⟨ho',?_⟩;rcases hq with rfl|⟨i',j',rfl,hcol⟩
    ·refine⟨rfl,λsz es2 u hh2=>?_⟩;obtain⟨a1,a2⟩:=Za0 hh2;injection a1 with _ a3 a4;subst a3 a4 a2;exact⟨_,hmodl,.nil _ _⟩
    ·obtain⟨k1,k2⟩:=Zji (w:=w) (w':=w') (S:=S) (ds:=ds) (n:=(M1 k).sz) (es:=(M1 k).es) hi hj (λk' hk'=>hc2 k' (by rw[hvl];exact hk')) hh hrep (λhq B' off' len' cap' he=>hc3 B' (λhB=>by
      subst hB;have hh':=hh;have hrep':=hrep;rw[he]at hh' hrep';cases q with
      |nil=>exact hq rfl
      |cons y q=>exact absurd rfl (Zh7 hh' hrep'))) (λhq _ h1 h2 hown=>by
       exfalso;rcases hcol hq h1 h2 with h3|h3
       ·cases hc:ds.getD (j'-j) .dead<;>rw[hc]at h3 hown<;>first|(cases hown;done)|cases h3
       ·simp at h3) hp
     exact⟨k1,λsz es2 u hh2=>k2 hh2⟩
  ·simp only[if_neg hkr,L'];refine Zco (mv.keeps k) (Zdv (F:=L1.fp k) (λhl=>⟨mv.rep.rep k hl,λb hb=>hc3 b (λhe=>by subst he;exact mv.rep.apart r k hlive hl (Ne.symm hkr) _ hfpB hb)⟩))
 ·-- same
  have hkr:k≠r:=λh=>hk (h▸hr);have hk1:k∉R1:=λh=>hk (hR k h);simp only[if_neg hkr,L'];exact⟨mv.same k hk1,mv.hd k,λhl b hb=>mv.fp k hl b hb⟩
 ·-- fp
  rcases hL' k b (hlv k hk) hb with⟨_,hg⟩|hf
  ·exact .inl (hGout b hg)
  ·exact .inl ⟨k,mv.live k (hlv k hk),mv.fp k (hlv k hk) b hf⟩
 ·-- within
  have hk1:(M1 k).live=true:=hlv k hk';obtain⟨e1,e2,e3⟩:=mv.keep k;refine⟨mv.hd k,?_,?_,?_,?_,?_⟩
  ·by_cases hkr:k=r
   ·subst hkr;simp only[if_true];exact w1.trans e1
   ·simp only[if_neg hkr];exact e1
  ·by_cases hkr:k=r
   ·subst hkr;simp only[if_true];exact w2.trans e2
   ·simp only[if_neg hkr];exact e2
  ·by_cases hkr:k=r
   ·subst hkr;simp only[if_true];rw[hmodl];exact e3
   ·simp only[if_neg hkr];exact e3
  ·by_cases hkr:k=r
   ·subst hkr;simp only[if_true];exact w6.trans (mv.pins k)
   ·simp only[if_neg hkr];exact mv.pins k
  ·intro _ B' off' len' cap' he cs0 t0 f0 hc0;rw[←mv.hd k]at he;by_cases hBB:B'=B
   ·subst hBB;have hrk:=mv.rep.rep k hk1;rw[he]at hrk;obtain⟨Fk,hlk,_,_,hnk,hGk,_⟩:=Zbm hrk;have hkr:k=r:=by
     by_cases hkr:k=r
     ·exact hkr
     ·exact absurd hfpB (mv.rep.apart k r hk1 hlive hkr _ ((hGk B').2 (.inl rfl)))
    subst hkr;rw[hblk]at hc0;injection hc0 with hc0;injection hc0 with g1 g2 g3;subst g1 g2 g3;refine⟨cs',hc4,hc5,λx hx=>hc6 x (λhin=>hx ?_)⟩;cases q with
    |nil=>
     obtain⟨a1,a2⟩:=Za0 hh;rw[he]at a2;injection a2 with a2;injection a2 with a2;injection a2 with a4 a5;injection a1 with _ a6 a7;have e2':=e2;have e3':=e3;rw[←a7]at e3';rw[←a6]at e2';rw[←e3',←e2',←a5];refine⟨by omega,by omega,λhpin=>?_⟩
     rw[←mv.pins k]at hpin;rcases Zna hfree rfl hpin with h1|h1|h1
     ·omega
     ·omega
     ·simp at h1
    |cons x q=>
     rw[he]at hh;have hx2:=mv.rep.rep k hk1;rw[he]at hx2;exact absurd rfl (Zh7 hh hx2)
   ·exact⟨cs0,(hc3 B' hBB).trans hc0,rfl,λ_ _=>rfl⟩
 ·have:=mv.box k hk hb;by_cases hkr:k=r
  ·subst hkr;simp only[if_true];exact w3.trans hlive
  ·simp only[if_neg hkr];exact this
end Go.Ev
