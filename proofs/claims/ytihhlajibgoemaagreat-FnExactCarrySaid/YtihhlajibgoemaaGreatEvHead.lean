/- A loop's head: what a round hands to the next. -/
import Derived.Test.YtihhlajibgoemaaGreatEvRegion
namespace Go.Ev
open Go.RowKit
set_option linter.unusedVariables false
set_option linter.unusedSimpArgs false
section
variable {w : World} {S : FP}
def After(w:World)(m:Nat)(Mt:Mem)(Lt:Lay)(M':Mem)(L':Lay):Prop:=
 ∀r,r<m→(Mt r).born=true→(M' r).born=true∧((M' r).live=true→(Mt r).live=true)∧∀ga gh q,gh≤(Mt r).gh→okView (Mt r) ga gh q=true→(M' r).live=true→pathOk (M' r).es q=true→
  pathOk (Mt r).es q=true∧∀sz es v,HeadAt w (rootD (Mt r)) (Lt.hd r) q (.sl true sz es) v→∃es',es'.length=es.length∧HeadAt w (rootD (M' r)) (L'.hd r) q (.sl true sz es') v
def Marks(M M':Mem):Prop:=∀r,(M' r).ga=(M r).ga∧(M' r).gh=(M r).gh∧(M' r).frz=(M r).frz∧(M' r).cv=(M r).cv∧(M' r).c0=(M r).c0
theorem Zlf{x y:Root}{gh:Nat}{q:Path}(h1:y.gh=x.gh)(h2:y.cv=x.cv)(h3:y.c0=x.c0):headOk y gh q=headOk x gh q:=by
 unfold headOk;rw[h1,h2,h3]
theorem After.back{m:Nat}{M1 M2 M':Mem}{L1 L2 L':Lay}{R:List Nat}{G:FP}(h:After w m M2 L2 M' L')(mv:Moves w S M1 M2 L1 L2 R G)(hk:Marks M1 M2):After w m M1 L1 M' L':=by
 intro r hr hb;obtain⟨⟨b2,_⟩,k2,_⟩:=mv.keeps r hb;obtain⟨a1,a2,a3⟩:=h r hr b2;refine⟨a1,λhl=>mv.live r (a2 hl),λga gh q hg ho hl hp=>?_⟩;obtain⟨e1,e2,e3,e4,e5⟩:=hk r;have ho2:okView (M2 r) ga gh q=true:=by
  unfold okView at ho⊢;rw[e1,e3,a2 hl,Zlf e2 e4 e5];simp only[Bool.and_eq_true]at ho⊢;exact⟨⟨⟨trivial,ho.1.1.2⟩,ho.1.2⟩,ho.2⟩
 obtain⟨c1,c2⟩:=a3 ga gh q (by rw[e2];exact hg) ho2 hl hp
 obtain⟨d1,d2,d3⟩:=k2 ga gh q hg ho2 c1;refine⟨d2,λsz es v hh=>?_⟩;obtain⟨es1,l1,h1⟩:=d3 sz es v hh;obtain⟨es2,l2,h2⟩:=c2 sz es1 v h1;exact⟨es2,l2.trans l1,h2⟩
theorem Zp8{m:Nat}{M:Mem}{rs:Look}{L:Lay}{M':Mem}{L':Lay}{c:C}{v:Value}(h:After w m (Zao M rs) L M' L')(hc:cRep w S (Zao M rs) L c v):cRep w S M' L' (stayCell m rs c) v:=by
 cases c with
 |d x=>exact hc
 |rptr xs=>exact hc
 |nils n=>exact hc
 |undef=>trivial
 |gone=>exact hc
 |nz p=>exact hc
 |view r ga gh q n sub=>
  simp only[stayCell];split
  ·rename_i hcond;simp only[Bool.and_eq_true,decide_eq_true_eq]at hcond;obtain⟨hr,ho⟩:=hcond;have hov:Zao M rs r=rs.get r:=Za8 (Zar ho);rw[←hov]at ho;obtain⟨⟨hb,hgh⟩,hs,hc⟩:=hc;obtain⟨a1,a2,a3⟩:=h r hr hb;refine⟨⟨a1,Nat.zero_le _⟩,hs,λho' hp=>?_⟩;obtain⟨c1,c2⟩:=a3 ga gh q hgh ho (Zar ho') hp;obtain⟨es,A,len,cap,h1,h2⟩:=hc ho c1;obtain⟨es',_,h3⟩:=c2 _ _ _ h1;exact⟨es',A,len,cap,h3,h2⟩
  ·trivial
 |ptr r ga gh q n i j=>
  simp only[stayCell];split
  ·rename_i hcond;simp only[Bool.and_eq_true,decide_eq_true_eq]at hcond;obtain⟨hr,ho⟩:=hcond;have hov:Zao M rs r=rs.get r:=Za8 (Zar ho);rw[←hov]at ho;obtain⟨⟨hb,hgh⟩,hs,hc⟩:=hc;obtain⟨a1,a2,a3⟩:=h r hr hb;refine⟨⟨a1,Nat.zero_le _⟩,hs,λho' hp=>?_⟩;obtain⟨c1,c2⟩:=a3 ga gh q hgh ho (Zar ho') hp;obtain⟨es,B,off,len,cap,h1,h2,h4⟩:=hc ho c1;obtain⟨es',hl,h3⟩:=c2 _ _ _ h1;exact⟨es',B,off,len,cap,h3,by omega,h4⟩
  ·trivial
theorem Zl3{M:Mem}{L:Lay}{rs rs':Look}{c:C}{v:Value}{n:Nat}{es:List (List D)}(hm:MemRep w S (Zao M rs) L)(hc:cRep w S (Zao M rs) L c v)(he:seatOf rs c=some (n,es,rs')):
  ∃G L',repD w S (.sl true n es) v G∧Moves w S (Zao M rs) (Zao M rs') L L' c.roots G∧rs'.keys=rs.keys∧Marks (Zao M rs) (Zao M rs'):=by
 unfold seatOf at he;split at he
 ·simp only[Option.some.injEq,Prod.mk.injEq]at he;obtain⟨rfl,rfl,rfl⟩:=he;exact⟨λ_=>False,L,⟨none,0,hc,Nat.le_refl _,.inl ⟨.inl rfl,rfl,rfl,λ_ h=>h⟩⟩,Moves.refl hm _,rfl,λr=>⟨rfl,rfl,rfl,rfl,rfl⟩⟩
 ·rename_i r ga gh n' sub;split at he
  ·rename_i b d rs1 h1;simp only[Option.some.injEq,Prod.mk.injEq]at he;obtain⟨rfl,rfl,rfl⟩:=he;have h2:=h1;simp only[C.move]at h2;split at h2
   ·rename_i hok;split at h2
    ·cases h2
    ·simp only[Option.some.injEq,Prod.mk.injEq]at h2;obtain⟨rfl,rfl,rfl⟩:=h2;obtain⟨G,L',a1,a2,a3⟩:=Ze2 hm hc h1;refine⟨G,L',a1,a2,a3,λk=>?_⟩;have hl:=Zar hok;rw[Ze5 hl];by_cases hk:k=r
     ·subst hk;rw[if_pos rfl,Za8 hl];exact⟨rfl,rfl,rfl,rfl,rfl⟩
     ·rw[if_neg hk];exact⟨rfl,rfl,rfl,rfl,rfl⟩
   ·cases h2
  ·cases he
 ·cases he
def newRep(w:World)(S:FP):List Root→List (Value×FP)→FP→Prop
 |[],[],G=>∀b,¬G b
 |x::xs,y::ys,G=>∃G2,(x.live=true∧x.born=true∧x.ga=0∧x.gh=0)∧repD w S (rootD x) y.1 y.2∧newRep w S xs ys G2∧(∀b,G b↔y.2 b∨G2 b)∧∀b,y.2 b→¬G2 b
 |_,_,_=>False
theorem Zd5:∀{xs:List Root} {ys:List (Value×FP)} {G:FP},newRep w S xs ys G→xs.length=ys.length
 |[],[],_,_=>rfl
 |x::xs,y::ys,_,⟨_,_,_,h,_⟩=>by simp[Zd5 h]
 |[],_::_,_,h=>h.elim
 |_::_,[],_,h=>h.elim
theorem Zgh:∀{xs xs':List Root} {ys ys':List (Value×FP)} {G G':FP},newRep w S xs ys G→newRep w S xs' ys' G'→(∀b,G b→¬G' b)→newRep w S (xs++xs') (ys++ys') (λb=>G b∨G' b)
 |[],xs',[],ys',G,G',h,h',hd=>by
  have:(λb=>G b∨G' b)=G':=funext λb=>propext ⟨λhx=>hx.resolve_left (h b),.inr⟩;rw[this];exact h'
 |x::xs,xs',y::ys,ys',G,G',⟨G2,h1,h2,h3,h4,h5⟩,h',hd=>by
  refine⟨λb=>G2 b∨G' b,h1,h2,Zgh h3 h' (λb hb=>hd b ((h4 b).2 (.inr hb))),λb=>?_,λb hb hx=>?_⟩
  ·show G b∨G' b↔y.2 b∨(G2 b∨G' b);rw[h4 b];exact or_assoc
  ·rcases hx with hx|hx
   ·exact h5 b hb hx
   ·exact hd b ((h4 b).2 (.inl hb)) hx
 |[],_,_::_,_,_,_,h,_,_=>h.elim
 |_::_,_,[],_,_,_,h,_,_=>h.elim
theorem Zcj:∀{xs:List Root} {ys:List (Value×FP)} {G:FP} (i:Nat),newRep w S xs ys G→i<xs.length→
  ((xs.getD i deadRoot).live=true∧(xs.getD i deadRoot).born=true)∧repD w S (rootD (xs.getD i deadRoot)) (ys.getD i (undef,λ_=>False)).1 (ys.getD i (undef,λ_=>False)).2∧∀b,(ys.getD i (undef,λ_=>False)).2 b→G b
 |x::xs,y::ys,G,0,⟨G2,h1,h2,h3,h4,h5⟩,_=>⟨⟨h1.1,h1.2.1⟩,h2,λb hb=>(h4 b).2 (.inl hb)⟩
 |x::xs,y::ys,G,i+1,⟨G2,h1,h2,h3,h4,h5⟩,hi=>by
  obtain⟨a1,a2,a3⟩:=Zcj i h3 (by simpa using hi)
  refine⟨?_,?_,?_⟩
  ·simpa using a1
  ·simpa using a2
  ·intro b hb;exact(h4 b).2 (.inr (a3 b (by simpa using hb)))
 |[],_,_,i,_,hi=>by simp at hi
 |_::_,[],_,_,h,_=>h.elim
theorem Zjn:∀{xs:List Root} {ys:List (Value×FP)} {G:FP} (i j:Nat),newRep w S xs ys G→i<xs.length→j<xs.length→i≠j→∀b,(ys.getD i (undef,λ_=>False)).2 b→¬(ys.getD j (undef,λ_=>False)).2 b
 |x::xs,y::ys,G,0,0,_,_,_,hn,_,_=>absurd rfl hn
 |x::xs,y::ys,G,0,j+1,⟨G2,h1,h2,h3,h4,h5⟩,_,hj,hn,b,hb=>by
  intro hx;have hx':(ys.getD j (undef,λ_=>False)).2 b:=by simpa using hx
  exact h5 b hb ((Zcj j h3 (by simpa using hj)).2.2 b hx')
 |x::xs,y::ys,G,i+1,0,⟨G2,h1,h2,h3,h4,h5⟩,hi,_,hn,b,hb=>by
  intro hx;have hb':(ys.getD i (undef,λ_=>False)).2 b:=by simpa using hb
  exact h5 b hx ((Zcj i h3 (by simpa using hi)).2.2 b hb')
 |x::xs,y::ys,G,i+1,j+1,⟨G2,h1,h2,h3,h4,h5⟩,hi,hj,hn,b,hb=>by
  have:=Zjn i j h3 (by simpa using hi) (by simpa using hj) (by omega) b (by simpa using hb)
  simpa using this
 |[],_,_,i,_,_,hi,_,_,_,_=>by simp at hi
 |_::_,[],_,_,_,h,_,_,_,_,_=>h.elim
def NewAt(nx:Nat)(ns:List Root)(fs:List (Value×FP))(M':Mem)(L':Lay):Prop:=
 ∀i,i<ns.length→M' (nx+i)=ns.getD i deadRoot∧L'.hd (nx+i)=(fs.getD i (undef,λ_=>False)).1
theorem NewAt.left{nx:Nat}{ns ns':List Root}{fs fs':List (Value×FP)}{M':Mem}{L':Lay}(h:NewAt nx (ns++ns') (fs++fs') M' L')(hl:ns.length=fs.length):NewAt nx ns fs M' L':=by
 intro i hi;obtain⟨a1,a2⟩:=h i (by rw[List.length_append];omega)
 rw[a1,a2,List.getD_eq_getElem?_getD,List.getD_eq_getElem?_getD,List.getD_eq_getElem?_getD,List.getD_eq_getElem?_getD,List.getElem?_append_left hi,List.getElem?_append_left (by omega)]
 exact⟨rfl,rfl⟩
theorem NewAt.right{nx:Nat}{ns ns':List Root}{fs fs':List (Value×FP)}{M':Mem}{L':Lay}(h:NewAt nx (ns++ns') (fs++fs') M' L')(hl:ns.length=fs.length):NewAt (nx+ns.length) ns' fs' M' L':=by
 intro i hi;obtain⟨a1,a2⟩:=h (ns.length+i) (by rw[List.length_append];omega)
 rw[show nx+ns.length+i=nx+(ns.length+i) by omega,a1,a2,List.getD_eq_getElem?_getD,List.getD_eq_getElem?_getD,List.getD_eq_getElem?_getD,List.getD_eq_getElem?_getD,List.getElem?_append_right (by omega),List.getElem?_append_right (by omega),
  show ns.length+i-ns.length=i by omega,show ns.length+i-fs.length=i by omega]
 exact⟨rfl,rfl⟩
structure Seats(w:World)(S:FP)(m nx:Nat)(M1 M2:Mem)(L1 L2:Lay)(R:List Nat)(G:FP)(ns:List Root)(fs:List (Value×FP)):Prop where
 mv:Moves w S M1 M2 L1 L2 R G
 marks:Marks M1 M2
 new:newRep w S ns fs G
theorem Seats.none{m nx:Nat}{M:Mem}{L:Lay}(h:MemRep w S M L)(R:List Nat):Seats w S m nx M M L L R (λ_=>False) [] []:=⟨Moves.refl h R,λ_=>⟨rfl,rfl,rfl,rfl,rfl⟩,λ_ h=>h⟩
theorem Seats.trans{m nx nx':Nat}{M1 M2 M3:Mem}{L1 L2 L3:Lay}{R R':List Nat}{G G':FP}{ns ns':List Root}{fs fs':List (Value×FP)}(a:Seats w S m nx M1 M2 L1 L2 R G ns fs)(b:Seats w S m nx' M2 M3 L2 L3 R' G' ns' fs'):
  Seats w S m nx M1 M3 L1 L3 (R++R') (λx=>G x∨G' x) (ns++ns') (fs++fs'):=by
 obtain⟨mv,hd⟩:=Moves.trans a.mv b.mv (R:=R++R') (λr hr=>List.mem_append_left _ hr) (λr hr=>List.mem_append_right _ hr);exact⟨mv,λr=>⟨(b.marks r).1.trans (a.marks r).1,(b.marks r).2.1.trans (a.marks r).2.1,(b.marks r).2.2.1.trans (a.marks r).2.2.1,(b.marks r).2.2.2.1.trans (a.marks r).2.2.2.1,(b.marks r).2.2.2.2.trans (a.marks r).2.2.2.2⟩,Zgh a.new b.new hd⟩
theorem Zdf{M:Mem}{m:Nat}{carry:Bool}:∀{cs:List C} {vs:List Value} {L:Lay} {rs:Look} {nx:Nat},MemRep w S (Zao M rs) L→cellsRep w S (Zao M rs) L cs vs→
  ∃L1 R G fs,Seats w S m nx (Zao M rs) (Zao M (seatCells m carry cs rs nx).2.1) L L1 R G (seatCells m carry cs rs nx).2.2 fs∧(seatCells m carry cs rs nx).2.1.keys=rs.keys∧
   ∀M' L',After w m (Zao M (seatCells m carry cs rs nx).2.1) L1 M' L'→NewAt nx (seatCells m carry cs rs nx).2.2 fs M' L'→cellsRep w S M' L' (seatCells m carry cs rs nx).1 vs
 |[],[],L,rs,nx,hm,_=>⟨L,[],λ_=>False,[],Seats.none hm _,rfl,λ_ _ _ _=>trivial⟩
 |c::cs,v::vs,L,rs,nx,hm,⟨hc,hcs⟩=>by
  simp only[seatCells];split
  ·rename_i n es rs1 he;have he':seatOf rs c=some (n,es,rs1):=by
    cases carry with
    |true=>exact he
    |false=>cases he
   obtain⟨G1,L1,hrep,mv,hk,hmk⟩:=Zl3 hm hc he';have hcs':cellsRep w S (Zao M rs1) L1 cs vs:=Zb0 (λc v h=>Zbw (λb hb=>⟨hb,rfl⟩) mv.keeps h) hcs;obtain⟨L2,R2,G2,fs2,st2,k2,f2⟩:=Zdf (nx:=nx+1) mv.rep hcs';have st1:Seats w S m nx (Zao M rs) (Zao M rs1) L L1 c.roots G1 [{ box:=false,sz:=n,es:=es }] [(v,G1)]:=⟨mv,hmk,λ_=>False,⟨rfl,rfl,rfl,rfl⟩,hrep,λ_ h=>h,λb=>by simp,λ_ _ h=>h⟩
   refine⟨L2,_,_,_,st1.trans st2,k2.trans hk,λM' L' ha hn=>?_⟩;have hn2:=hn.right (ns:=[({ box:=false,sz:=n,es:=es }:Root)]) (fs:=[(v,G1)]) rfl;obtain⟨b1,b2⟩:=hn 0 (by simp)
   refine⟨?_,f2 M' L' ha hn2⟩;obtain⟨A,cap,hv,_⟩:=hrep;have b1':M' nx={ box:=false,sz:=n,es:=es }:=by simpa using b1
   have b2':L'.hd nx=v:=by simpa using b2
   refine⟨by rw[b1'];exact⟨rfl,Nat.le_refl _⟩,⟨_,_,_,hv⟩,λ_ _=>⟨es,A,es.length,cap,?_,hv⟩⟩
   rw[b1',b2',hv];exact .nil _ _
  ·rename_i he;obtain⟨L2,R2,G2,fs2,st2,k2,f2⟩:=Zdf (nx:=nx) (carry:=carry) hm hcs;exact⟨L2,R2,G2,fs2,st2,k2,λM' L' ha hn=>⟨Zp8 (ha.back st2.mv st2.marks) hc,f2 M' L' ha hn⟩⟩
 |[],_::_,_,_,_,_,h=>h.elim
 |_::_,[],_,_,_,_,h=>h.elim
theorem Zcw{m lv wr:Nat}:∀{tvs:List TV} {t:Nat} {rs:Look} {nx:Nat},(seatTemps m lv wr tvs t rs nx).1.length=tvs.length
 |[],_,_,_=>rfl
 |v::vs,t,rs,nx=>by
  simp only[seatTemps];split
  ·simp[Zcw (tvs:=vs)]
  ·simp[Zcw (tvs:=vs)]
theorem Zdg{M:Mem}{m lv wr:Nat}{val:Nat→Value}:∀{tvs:List TV} {t:Nat} {L:Lay} {rs:Look} {nx:Nat},MemRep w S (Zao M rs) L→(∀k,k<tvs.length→tvRep w S (Zao M rs) L (tvs.getD k .undef) (val (t+k)))→
  ∃L1 R G fs,Seats w S m nx (Zao M rs) (Zao M (seatTemps m lv wr tvs t rs nx).2.1) L L1 R G (seatTemps m lv wr tvs t rs nx).2.2 fs∧(seatTemps m lv wr tvs t rs nx).2.1.keys=rs.keys∧
   ∀M' L',After w m (Zao M (seatTemps m lv wr tvs t rs nx).2.1) L1 M' L'→NewAt nx (seatTemps m lv wr tvs t rs nx).2.2 fs M' L'→∀k,k<tvs.length→tvRep w S M' L' ((seatTemps m lv wr tvs t rs nx).1.getD k .undef) (val (t+k))
 |[],t,L,rs,nx,hm,_=>⟨L,[],λ_=>False,[],Seats.none hm _,rfl,λ_ _ _ _ k hk=>by simp at hk⟩
 |v::vs,t,L,rs,nx,hm,hv=>by
  have hv0:tvRep w S (Zao M rs) L v (val t):=by simpa using hv 0 (by simp)
  have hvs:∀k,k<vs.length→tvRep w S (Zao M rs) L (vs.getD k .undef) (val (t+1+k)):=λk hk=>by
   have:=hv (k+1) (by simpa using hk)
   rw[show t+1+k=t+(k+1) by omega]
   simpa using this
  simp only[seatTemps];split
  ·rename_i a cs he;have hveq:v=.v a cs:=by
    cases hl:has lv t with
    |false=>rw[hl]at he;cases he
    |true=>
     rw[hl]at he;cases v with
     |v a' cs'=>simp only[cond_true,Option.some.injEq,Prod.mk.injEq]at he;obtain⟨rfl,rfl⟩:=he;rfl
     |tup xs=>cases he
     |cp r cs=>cases he
   subst hveq;obtain⟨us,hcs,hpack⟩:∃us:List Value,cellsRep w S (Zao M rs) L cs us∧∀(M':Mem) (L':Lay) (cs':List C),cellsRep w S M' L' cs' us→tvRep w S M' L' (.v a cs') (val t):=by
    cases a with
    |true=>
     obtain⟨us,e1,e2⟩:=hv0;exact⟨us.toList,e2,λM' L' cs' h=>⟨us,e1,h⟩⟩
    |false=>
     match cs,hv0 with
     |[c],hv0=>
      refine⟨[val t],⟨hv0,trivial⟩,λM' L' cs' h=>?_⟩
      match cs',h with
      |[c'],h=>exact h.1
   obtain⟨L1,R1,G1,fs1,st1,k1,f1⟩:=Zdf (m:=m) (carry:=has wr t) (nx:=nx) hm hcs;obtain⟨L2,R2,G2,fs2,st2,k2,f2⟩:=Zdg (m:=m) (lv:=lv) (wr:=wr) (val:=val) (tvs:=vs) (t:=t+1) (nx:=nx+(seatCells m (has wr t) cs rs nx).2.2.length) st1.mv.rep (λk hk=>Zcg (λc v h=>Zbw (λb hb=>⟨hb,rfl⟩) st1.mv.keeps h) (Zg2 st1.mv.keeps) (hvs k hk));refine⟨L2,_,_,_,st1.trans st2,k2.trans k1,λM' L' ha hn k hk=>?_⟩;have hl:=Zd5 st1.new;cases k with
   |zero=>
    have:=hpack M' L' _ (f1 M' L' (ha.back st2.mv st2.marks) (hn.left hl));simpa using this
   |succ k=>
    have:=f2 M' L' ha (hn.right hl) k (by simpa using hk)
    rw[show t+1+k=t+(k+1) by omega]at this
    simpa using this
  ·rename_i he;obtain⟨L2,R2,G2,fs2,st2,k2,f2⟩:=Zdg (m:=m) (lv:=lv) (wr:=wr) (val:=val) (tvs:=vs) (t:=t+1) (nx:=nx) hm hvs;refine⟨L2,R2,G2,fs2,st2,k2,λM' L' ha hn k hk=>?_⟩;cases k with
   |zero=>simp[tvRep,tvRep1,cRep]
   |succ k=>
    have:=f2 M' L' ha hn k (by simpa using hk)
    rw[show t+1+k=t+(k+1) by omega]at this
    simpa using this
end
theorem Zf3:∀(mem:List Root) (r:Nat),(fullLook mem r).keys=List.range' r mem.length
 |[],_=>rfl
 |x::xs,r=>by
  show r::(fullLook xs (r+1)).keys=_;rw[Zf3 xs (r+1),List.length_cons,List.range'_succ]
theorem Zim:∀{rs:Look} {k n:Nat} {M:Mem},rs.keys=List.range' k n→∀r,Zao M rs (k+r)=if r<n then(rs.map (·.2)).getD r deadRoot else M (k+r)
 |[],k,n,M,h,r=>by
  have hn:n=0:=by cases n with
   |zero=>rfl
   |succ n=>rw[List.range'_succ]at h;cases h
  subst hn;rw[if_neg (by omega)];rfl
 |x::rs,k,n,M,h,r=>by
  cases n with
  |zero=>cases h
  |succ n=>
   rw[List.range'_succ]at h;have h1:x.1=k:=by injection h
   have h2:Look.keys rs=List.range' (k+1) n:=by injection h
   unfold Zao;rw[List.find?_cons];cases r with
   |zero=>
    have:(x.1==k+0)=true:=by simp[h1]
    rw[this];simp
   |succ r=>
    have:(x.1==k+(r+1))=false:=by simp[h1]
    rw[this];have ih:=Zim (M:=M) h2 r;rw[show k+1+r=k+(r+1) by omega]at ih
    unfold Zao at ih;simp only;rw[ih];simp
theorem Zp1{w0:World}{S F0:FP}{n0:Nat}{M0:Mem}{L0:Lay}:HeadSound w0 S F0 n0 M0 L0:=by
 intro m lv wr st a w L h hnm hml;have hkeys:(fullLook st.mem 0).keys=List.range' 0 st.mem.length:=Zf3 _ _;have hfull:Zao (memOf st) (fullLook st.mem 0)=memOf st:=by
  funext r
  have:=Zim (M:=memOf st) hkeys r;rw[Nat.zero_add]at this;rw[this];split
  ·have e:(fullLook st.mem 0).map (·.2)=st.mem:=by
    have key:∀(l:List Root) (k:Nat),(fullLook l k).map (·.2)=l:=by
     intro l;induction l with
     |nil=>intro k;rfl
     |cons x l ih=>intro k;show x::(fullLook l (k+1)).map (·.2)=_;rw[ih]
    exact key _ _
   rw[e];rfl
  ·rfl
 obtain⟨L1,R,G,fs,sts,hk,hf⟩:=Zdg (w:=w) (S:=S) (M:=memOf st) (m:=m) (lv:=lv) (wr:=wr) (val:=λt=>a.tmps.getD t undef) (tvs:=st.temps) (t:=0) (L:=L) (rs:=fullLook st.mem 0) (nx:=m) (by rw[hfull];exact h.rep) (λk hk=>by
  rw[hfull,Nat.zero_add];exact h.tmps k hk)
 rw[hfull]at sts;generalize hx:seatTemps m lv wr st.temps 0 (fullLook st.mem 0) m=x at sts hk hf;obtain⟨T,rs,ns⟩:=x;simp only at sts hk hf;have hhead:st.head m lv wr={ temps:=T,mem:=((rs.map (·.2)).take m).map (λx=>{ x with ga:=0,gh:=0,cv:=[],c0:=0 })++ns }:=by
  unfold St.head;rw[hx]
 have hTl:T.length=st.temps.length:=by
  have:=Zcw (m:=m) (lv:=lv) (wr:=wr) (tvs:=st.temps) (t:=0) (rs:=fullLook st.mem 0) (nx:=m);rw[hx]at this;exact this
 have hov:∀r,r<m→Zao (memOf st) rs r=(rs.map (·.2)).getD r deadRoot:=λr hr=>by
  have:=Zim (M:=memOf st) (hk.trans hkeys) r;rw[Nat.zero_add,if_pos (by omega)]at this
  exact this
 have hrl:rs.length=st.mem.length:=by
  have:=congrArg List.length (hk.trans hkeys);unfold Look.keys at this;simpa using this
 let M2:Mem:=Zao (memOf st) rs;have hlo:∀r,r<m→memOf (st.head m lv wr) r={ M2 r with ga:=0,gh:=0,cv:=[],c0:=0 }:=λr hr=>by
  rw[hhead];show(((rs.map (λy:Nat×Root=>y.2)).take m).map (λx:Root=>({ x with ga:=0,gh:=0,cv:=[],c0:=0 }:Root))++ns).getD r deadRoot=_;rw[List.getD_eq_getElem?_getD,List.getElem?_append_left (by simp;omega),List.getElem?_map,List.getElem?_take_of_lt hr]
  show _=({ Zao (memOf st) rs r with ga:=0,gh:=0,cv:=[],c0:=0 }:Root);rw[hov r hr,List.getD_eq_getElem?_getD];have hlt:r<(rs.map (·.2)).length:=by simp;omega
  rw[List.getElem?_eq_getElem hlt];rfl
 have hhi:∀i,memOf (st.head m lv wr) (m+i)=ns.getD i deadRoot:=λi=>by
  rw[hhead];show(((rs.map (λy:Nat×Root=>y.2)).take m).map (λx:Root=>({ x with ga:=0,gh:=0,cv:=[],c0:=0 }:Root))++ns).getD (m+i) deadRoot=_;have e:(((rs.map (λy:Nat×Root=>y.2)).take m).map (λx:Root=>({ x with ga:=0,gh:=0,cv:=[],c0:=0 }:Root))).length=m:=by simp;omega
  rw[List.getD_eq_getElem?_getD,List.getElem?_append_right (by rw[e];omega),e,show m+i-m=i by omega,List.getD_eq_getElem?_getD]
 let L':Lay:=⟨λr=>if r<m then L1.hd r else(fs.getD (r-m) (undef,λ_=>False)).1,λr=>if r<m then L1.fp r else(fs.getD (r-m) (undef,λ_=>False)).2⟩;have hnl:=Zd5 sts.new;have hns:∀r,m≤r→(memOf (st.head m lv wr) r).live=true→r-m<ns.length∧memOf (st.head m lv wr) r=ns.getD (r-m) deadRoot:=λr hr hl=>by
  have e:=hhi (r-m);rw[show m+(r-m)=r by omega]at e
  refine⟨?_,e⟩;rcases Nat.lt_or_ge (r-m) ns.length with h1|h1
  ·exact h1
  ·rw[e,List.getD_eq_getElem?_getD,List.getElem?_eq_none h1]at hl;cases hl
 have hown:∀b,G b→b<w.heap.size∧¬S b:=λb hb=>by
  obtain⟨r,_,h1,h2⟩:=sts.mv.out b hb;exact h.rep.own r h1 b h2
 have hrep':MemRep w S (memOf (st.head m lv wr)) L':=by
  refine⟨λr hl=>?_,λr hl=>?_,λr hl b hb=>?_,λr r' hl hl' hne b hb hb'=>?_,h.rep.lent⟩
  ·by_cases hr:r<m
   ·rw[hlo r hr]at hl⊢;show repD w S _ (if r<m then L1.hd r else _) (if r<m then L1.fp r else _);rw[if_pos hr,if_pos hr];exact sts.mv.rep.rep r hl
   ·obtain⟨h1,h2⟩:=hns r (by omega) hl
    rw[h2];show repD w S _ (if r<m then L1.hd r else _) (if r<m then L1.fp r else _);rw[if_neg hr,if_neg hr];exact(Zcj (r-m) sts.new h1).2.1
  ·by_cases hr:r<m
   ·rw[hlo r hr]at hl⊢;exact sts.mv.rep.born r hl
   ·obtain⟨h1,h2⟩:=hns r (by omega) hl
    rw[h2];exact(Zcj (r-m) sts.new h1).1.2
  ·by_cases hr:r<m
   ·rw[hlo r hr]at hl;have hb':L1.fp r b:=by simpa only[L',if_pos hr]using hb
    exact sts.mv.rep.own r hl b hb'
   ·obtain⟨h1,h2⟩:=hns r (by omega) hl
    have hb':(fs.getD (r-m) (undef,λ_=>False)).2 b:=by simpa only[L',if_neg hr]using hb
    exact hown b ((Zcj (r-m) sts.new h1).2.2 b hb')
  ·by_cases hr:r<m
   ·rw[hlo r hr]at hl;have e1:L1.fp r b:=by simpa only[L',if_pos hr]using hb
    by_cases hr':r'<m
    ·rw[hlo r' hr']at hl';have e2:L1.fp r' b:=by simpa only[L',if_pos hr']using hb'
     exact sts.mv.rep.apart r r' hl hl' hne b e1 e2
    ·obtain⟨h1,h2⟩:=hns r' (by omega) hl'
     have e2:(fs.getD (r'-m) (undef,λ_=>False)).2 b:=by simpa only[L',if_neg hr']using hb'
     exact sts.mv.apart r hl b ((Zcj (r'-m) sts.new h1).2.2 b e2) e1
   ·obtain⟨h1,h2⟩:=hns r (by omega) hl
    have e1:(fs.getD (r-m) (undef,λ_=>False)).2 b:=by simpa only[L',if_neg hr]using hb
    by_cases hr':r'<m
    ·rw[hlo r' hr']at hl';have e2:L1.fp r' b:=by simpa only[L',if_pos hr']using hb'
     exact sts.mv.apart r' hl' b ((Zcj (r-m) sts.new h1).2.2 b e1) e2
    ·obtain⟨h1',h2'⟩:=hns r' (by omega) hl'
     have e2:(fs.getD (r'-m) (undef,λ_=>False)).2 b:=by simpa only[L',if_neg hr']using hb'
     exact Zjn (r-m) (r'-m) sts.new h1 h1' (by omega) b e1 e2
 have hafter:After w m M2 L1 (memOf (st.head m lv wr)) L':=by
  intro r hr hb;rw[hlo r hr];refine⟨hb,λh=>h,λga gh q hg ho hl hp=>⟨hp,λsz es v hh=>⟨es,rfl,?_⟩⟩⟩;show HeadAt w _ (if r<m then L1.hd r else _) _ _ _;rw[if_pos hr];exact hh
 have hnew:NewAt m ns fs (memOf (st.head m lv wr)) L':=by
  intro i hi;refine⟨hhi i,?_⟩;show(if m+i<m then L1.hd (m+i)else _)=_;rw[if_neg (by omega),show m+i-m=i by omega]
 have htm:=hf (memOf (st.head m lv wr)) L' hafter hnew;have htemps:(st.head m lv wr).temps=T:=by rw[hhead]
 have hlen:(st.head m lv wr).mem.length=m+ns.length:=by rw[hhead];simp;omega
 refine⟨L',⟨hrep',by rw[htemps,hTl];exact h.size,λt ht=>?_,h.defers,⟨h.since.below,h.since.frame,λr hl b hb=>?_,λr hr hl=>?_⟩,by omega⟩,by omega⟩
 ·rw[htemps,hTl]at ht;have:=htm t ht;rw[Nat.zero_add]at this;unfold St.get;rw[htemps];exact this
 ·by_cases hr:r<m
  ·rw[hlo r hr]at hl;have hb':L1.fp r b:=by simpa only[L',if_pos hr]using hb
   exact h.since.fp r (sts.mv.live r hl) b (sts.mv.fp r hl b hb')
  ·obtain⟨h1,h2⟩:=hns r (by omega) hl
   have hb':(fs.getD (r-m) (undef,λ_=>False)).2 b:=by simpa only[L',if_neg hr]using hb
   obtain⟨r',_,h3,h4⟩:=sts.mv.out b ((Zcj (r-m) sts.new h1).2.2 b hb');exact h.since.fp r' h3 b h4
 ·have hrm:r<m:=by omega
  rw[hlo r hrm]at hl⊢;obtain⟨k1,k2,k3⟩:=sts.mv.keep r;obtain⟨b1,b2,b3,b4,b5,b7,b6⟩:=h.since.within r hr (sts.mv.live r hl);refine⟨b1,?_,k1.trans b3,k2.trans b4,k3.trans b5,(sts.mv.pins r).trans b7,b6⟩;show(if r<m then L1.hd r else _)=_;rw[if_pos hrm];exact(sts.mv.hd r).trans b2
end Go.Ev
