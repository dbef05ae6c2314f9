/- A call's arguments, on the caller's side. -/
import Derived.Test.YtihhlajibgoemaaGreatEvLend
namespace Go.Ev
open Go.RowKit
set_option linter.unusedVariables false
set_option linter.unusedSimpArgs false
def argDone(P:Program)(w:World)(S Sc:FP)(M1:Mem)(L1:Lay)(t:TypeId):Mode→TV→List D→Value→FP→Prop
 |.inout o p,tv,row,v,G=>(∀b,¬G b)∧∃r ga gh q n i j es B off cap,tv=.v false [.ptr r ga gh q n i j]∧okView (M1 r) ga gh q=true∧HeadAt w (rootD (M1 r)) (L1.hd r) q (.sl true n es) (.slice (some ⟨B,off,none⟩) es.length cap)∧
  i<es.length∧(j+P.cellsOf (elemOf P t)≤n∧(M1 r).free q (i*n+j) (P.cellsOf (elemOf P t)) p=true)∧row=pinRow p (((es.getD i []).drop j).take (P.cellsOf (elemOf P t)))∧v=.pointer (some ⟨B,off+i*n+j,none⟩)∧((leavesP P p (elemOf P t)).any Leaf.isSl=true∨row.all D.noSl=true)
 |.give,tv,row,v,G=>aggOk P t v∧datRep w S row v.cells.toList G∧(∀b,G b→b<w.heap.size∧¬S b)∧∀r,(M1 r).live=true→∀b,G b→¬L1.fp r b
 |.lend,tv,row,v,G=>(∀b,¬G b)∧aggOk P t v∧datRep w Sc row v.cells.toList G
 |.ro,tv,row,v,G=>(∀b,¬G b)∧∃B off,v=.pointer (some ⟨B,off,none⟩)∧repRow w Sc row B off G∧(row=[]∨Sc B)
def argsDone(P:Program)(w:World)(S Sc:FP)(M1:Mem)(L1:Lay):List (Mode×TypeId)→List TV→List (List D)→List Value→FP→Prop
 |[],[],[],[],G=>∀b,¬G b
 |(m,t)::ms,tv::tvs,row::rows,v::vs,G=>∃G1 G2,argDone P w S Sc M1 L1 t m tv row v G1∧argsDone P w S Sc M1 L1 ms tvs rows vs G2∧(∀b,G b↔G1 b∨G2 b)∧∀b,G1 b→¬G2 b
 |_,_,_,_,_=>False
def apartP:List (Mode×TypeId)→List TV→Prop
 |(_,_)::ms,v::vs=>(∀r∈v.roots,∀y∈ms.zip vs,y.1.1=.give→r∉y.2.roots)∧apartP ms vs
 |_,_=>True
def giveRoots(ms:List (Mode×TypeId))(vs:List TV):List Nat:=(ms.zip vs).flatMap λy=>match y.1.1 with |.give=>y.2.roots|_=>[]
section
variable {P : Program} {w : World} {S : FP} {M : Mem}
theorem Zsx{L:Lay}{t:TypeId}{cs:List C}{v:Value}(h:tvRep w S M L (.v (isAggB P t) cs) v)(hc:∀c∈cs,c.solid=true):aggOk P t v:=by
 unfold aggOk;cases hb:isAggB P t with
 |true=>
  rw[hb]at h;obtain⟨vs,rfl,_⟩:=h;simp
 |false=>
  rw[hb]at h;simp only[Bool.false_eq_true,if_false]
  match cs,h,hc with
  |[c],h,hc=>exact Zev h (hc c (by simp))
theorem Ze8{rs:Look}{c:C}{d:D}(h:lendCell rs c=some d):c.solid=true:=by cases c<;>first|rfl|cases h
theorem Zkg{rs:Look}:∀{ls:List Leaf} {cs:List C} {x:Bool×List D},lendCells rs (fixNils ls cs)=some x→∀c∈cs,c.solid=true:=by
 intro ls;induction ls with
 |nil=>
  intro cs;induction cs with
  |nil=>intro x _ c hc;cases hc
  |cons d cs ih=>
   intro x h c hc;simp only[fixNils,lendCells]at h;split at h
   ·rename_i y hy;split at h
    ·rename_i b ds h2;rcases List.mem_cons.1 hc with rfl|hc
     ·exact Ze8 hy
     ·exact ih (x:=(b,ds)) (by cases cs<;>exact h2) c hc
    ·cases h
   ·cases h
 |cons l ls ih=>
  intro cs x h c hc;cases cs with
  |nil=>cases hc
  |cons d cs=>
   have key:∀{d':C},lendCells rs (d'::fixNils ls cs)=some x→(d.solid=false→d'.solid=false)→c.solid=true:=by
    intro d' h hd;simp only[lendCells]at h;split at h
    ·rename_i y hy;split at h
     ·rename_i b ds h2;rcases List.mem_cons.1 hc with rfl|hc
      ·cases hs:c.solid with
       |true=>rfl
       |false=>have:=Ze8 hy;rw[hd hs]at this;cases this
      ·exact ih h2 c hc
     ·cases h
    ·cases h
   cases l<;>cases d<;>exact key h (λh=>by first|exact h|cases h)
theorem Zgf:∀{ls:List Leaf} {cs:List C} {rs:Look} {x:Bool×List D×Look},moveAll (fixNils ls cs) rs=some x→∀c∈cs,c.solid=true:=by
 intro ls;induction ls with
 |nil=>
  intro cs;induction cs with
  |nil=>intro rs x _ c hc;cases hc
  |cons d cs ih=>
   intro rs x h c hc;simp only[fixNils,moveAll]at h;split at h
   ·rename_i b y rs1 hy;split at h
    ·rename_i b' ds rs2 h2;rcases List.mem_cons.1 hc with rfl|hc
     ·exact Zg5 hy
     ·exact ih (rs:=rs1) (x:=(b',ds,rs2)) (by cases cs<;>exact h2) c hc
    ·cases h
   ·cases h
 |cons l ls ih=>
  intro cs rs x h c hc;cases cs with
  |nil=>cases hc
  |cons d cs=>
   have key:∀{d':C},moveAll (d'::fixNils ls cs) rs=some x→(d.solid=false→d'.solid=false)→c.solid=true:=by
    intro d' h hd;simp only[moveAll]at h;split at h
    ·rename_i b y rs1 hy;split at h
     ·rename_i b' ds rs2 h2;rcases List.mem_cons.1 hc with rfl|hc
      ·cases hs:c.solid with
       |true=>rfl
       |false=>have:=Zg5 hy;rw[hd hs]at this;cases this
      ·exact ih h2 c hc
     ·cases h
    ·cases h
   cases l<;>cases d<;>exact key h (λh=>by first|exact h|cases h)
theorem Zgs{L:Lay}{a:Bool}{cs:List C}{v:Value}(h:tvRep w S M L (.v a cs) v)(hc:∀c∈cs,c.solid=true):cellsRep w S M L cs v.cells.toList:=by
 cases a with
 |true=>obtain⟨vs,rfl,h⟩:=h;exact h
 |false=>
  match cs,h,hc with
  |[c],h,hc=>
   rw[Zcs (Zev h (hc c (by simp)))]
   exact⟨h,trivial⟩
theorem Zir{ls:List Leaf}{a:Bool}{cs:List C}{r:Nat}(h:r∈(fixNils ls cs).flatMap C.roots):r∈(TV.v a cs).roots:=by
 rw[Zc0]at h;exact h
theorem Zgw:∀{mts:List (Mode×TypeId)} {tvs:List TV} {vs:List Value} {L:Lay} {rs rs':Look} {rows:List (List D)},MemRep w S (Zao M rs) L→opsRep w S (Zao M rs) L tvs vs→apartP mts tvs→argRows P mts tvs rs=some (true,rows,rs')→
  ∃G L',Moves w S (Zao M rs) (Zao M rs') L L' (giveRoots mts tvs) G∧rs'.keys=rs.keys∧
   ∀Sc:FP,(∀b,S b→Sc b)→(∀y∈mts.zip tvs,y.1.1.excl=false→∀r∈y.2.roots,(Zao M rs' r).live=true→∀b,L'.fp r b→Sc b)→argsDone P w S Sc (Zao M rs') L' mts tvs rows vs G
 |[],[],[],L,rs,rs',rows,hm,_,_,he=>by
  simp only[argRows,Option.some.injEq,Prod.mk.injEq,true_and]at he;obtain⟨rfl,rfl⟩:=he;exact⟨λ_=>False,L,Moves.refl hm _,rfl,λSc _ _=>λ_ h=>h⟩
 |(m,t)::ms,tv::tvs,v::vs,L,rs,rs',rows,hm,⟨hv,hvs⟩,⟨hap1,hap2⟩,he=>by
  simp only[argRows]at he;split at he
  ·rename_i b row rs1 h1;split at he
   ·rename_i b' rows2 rs2 h2;simp only[Option.some.injEq,Prod.mk.injEq,Bool.and_eq_true]at he;obtain⟨⟨rfl,rfl⟩,rfl,rfl⟩:=he;have still:rs1=rs→m≠.give→(∀{G2:FP} {L2:Lay},Moves w S (Zao M rs) (Zao M rs2) L L2 (giveRoots ms tvs) G2→∀Sc:FP,(∀b,S b→Sc b)→(m.excl=false→∀r∈tv.roots,(Zao M rs r).live=true→∀b,L.fp r b→Sc b)→
      (∀r∈tv.roots,Zao M rs2 r=Zao M rs r∧L2.hd r=L.hd r)→argDone P w S Sc (Zao M rs2) L2 t m tv row v (λ_=>False))→
      ∃G L',Moves w S (Zao M rs) (Zao M rs2) L L' (giveRoots ((m,t)::ms) (tv::tvs)) G∧rs2.keys=rs.keys∧
       ∀Sc:FP,(∀b,S b→Sc b)→(∀y∈((m,t)::ms).zip (tv::tvs),y.1.1.excl=false→∀r∈y.2.roots,(Zao M rs2 r).live=true→∀b,L'.fp r b→Sc b)→argsDone P w S Sc (Zao M rs2) L' ((m,t)::ms) (tv::tvs) (row::rows2) (v::vs) G:=by
     intro hrs hmg hd;subst hrs;obtain⟨G2,L2,mv2,k2,d2⟩:=Zgw hm hvs hap2 h2;have hnot:∀r∈tv.roots,r∉giveRoots ms tvs:=by
      intro r hr hin;unfold giveRoots at hin;obtain⟨y,hy,hyr⟩:=List.mem_flatMap.1 hin;split at hyr
      ·rename_i hg;exact hap1 r hr y hy hg hyr
      ·cases hyr
     refine⟨G2,L2,mv2.more (λr hr=>?_),k2,λSc hS hR=>?_⟩
     ·unfold giveRoots at hr⊢;rw[List.zip_cons_cons,List.flatMap_cons];exact List.mem_append_right _ hr
     ·refine⟨λ_=>False,G2,hd mv2 Sc hS (λhx r hr hl b hb=>?_) (λr hr=>⟨mv2.same r (hnot r hr),mv2.hd r⟩),d2 Sc hS (λy hy=>hR y (by rw[List.zip_cons_cons];exact List.mem_cons_of_mem _ hy)),λb=>by simp,λ_ h=>h.elim⟩
      have e1:=mv2.same r (hnot r hr);have e2:=mv2.fpsame r (hnot r hr);refine hR ((m,t),tv) (by rw[List.zip_cons_cons];exact List.mem_cons_self) hx r hr (by rw[e1];exact hl) b ?_
      rw[e2];exact hb
    cases m with
    |lend=>
     cases tv with
     |tup xs=>cases h1
     |cp r cs=>cases h1
     |v a cs=>
      simp only[argRow]at h1;split at h1
      ·rename_i ha;split at h1
       ·rename_i b row2 hl;simp only[Option.some.injEq,Prod.mk.injEq]at h1;obtain⟨rfl,rfl,rfl⟩:=h1;have hno:=Zkg hl;refine still rfl (by simp) (λmv2 Sc hS hR hsame=>?_)
        obtain⟨hd,_⟩:=Zek (Sc:=Sc) hm hS (Zbj (ls:=leaves P 9 t) (Zgs hv hno)) (λr hr hl b hb=>hR rfl r (Zir hr) hl b hb) hl;exact⟨λ_ h=>h,Zsx (by rw[←ha];exact hv) hno,hd⟩
       ·cases h1
      ·cases h1
    |give=>
     cases tv with
     |tup xs=>cases h1
     |cp r cs=>cases h1
     |v a cs=>
      simp only[argRow]at h1;split at h1
      ·rename_i ha;have hno:=Zgf h1;obtain⟨G1,L1,hd1,mv1,k1⟩:=Zb4 hm (Zbj (ls:=leaves P 9 t) (Zgs hv hno)) h1;have hvs1:opsRep w S (Zao M rs1) L1 tvs vs:=by
        have:∀{xs:List TV} {us:List Value},opsRep w S (Zao M rs) L xs us→opsRep w S (Zao M rs1) L1 xs us:=by
         intro xs;induction xs with
         |nil=>intro us h;cases us<;>exact h
         |cons x xs ih=>
          intro us h;cases us with
          |nil=>exact h
          |cons u us=>exact⟨Zcg (λc v hc=>Zbw (λb hb=>⟨hb,rfl⟩) mv1.keeps hc) (Zg2 mv1.keeps) h.1,ih h.2⟩
        exact this hvs
       obtain⟨G2,L2,mv2,k2,d2⟩:=Zgw mv1.rep hvs1 hap2 h2;obtain⟨mv,hdis⟩:=Moves.trans mv1 mv2 (R:=giveRoots ((.give,t)::ms) (.v a cs::tvs)) (λr hr=>by
        unfold giveRoots;rw[List.zip_cons_cons,List.flatMap_cons];exact List.mem_append_left _ (Zir hr)) (λr hr=>by
        unfold giveRoots at hr ⊢;rw[List.zip_cons_cons,List.flatMap_cons];exact List.mem_append_right _ hr)
       refine⟨_,L2,mv,k2.trans k1,λSc hS hR=>⟨G1,G2,⟨Zsx (by rw[←ha];exact hv) hno,hd1,λb hb=>?_,λr hl b hb hb'=>?_⟩,d2 Sc hS (λy hy=>hR y (by rw[List.zip_cons_cons];exact List.mem_cons_of_mem _ hy)),λb=>Iff.rfl,hdis⟩⟩
       ·obtain⟨r,_,h3,h4⟩:=mv1.out b hb;exact hm.own r h3 b h4
       ·exact mv1.apart r (mv2.live r hl) b hb (mv2.fp r hl b hb')
      ·cases h1
    |ro=>
     unfold argRow at h1;split at h1
     ·rename_i heq;cases heq
     ·rename_i heq;cases heq
     ·rename_i heq;cases heq;rename_i xs;simp only[Option.some.injEq,Prod.mk.injEq,true_and]at h1;obtain⟨rfl,rfl⟩:=h1;refine still rfl (by simp) (λmv2 Sc hS hR hsame=>?_)
      obtain⟨B,off,rfl,hr,hx⟩:=hv;refine⟨λ_ h=>h,B,off,rfl,?_,hx.imp id (hS B)⟩;rcases hx with rfl|hx
      ·exact λ_ h=>h
      ·exact Zdd (λb hb=>⟨hS b hb,rfl⟩) hr (λb hb=>hb.elim) rfl
     ·rename_i heq;cases heq;rename_i r ga gh q n i j;simp only at h1;split at h1
      ·rename_i hcond;simp only[Bool.and_eq_true,decide_eq_true_eq]at hcond;simp only[Option.some.injEq,Prod.mk.injEq]at h1;obtain⟨hp,rfl,rfl⟩:=h1;have hl:=Zar hcond.1;have hov:Zao M rs r=rs.get r:=Za8 hl;refine still rfl (by simp) (λmv2 Sc hS hR hsame=>?_)
       obtain⟨es,B,off,cap,F',k1,k2,k3,k4,k5,k6,k7⟩:=Zgl hm hv (by rw[hov];exact hcond.1) (by rw[hov];exact hp)
       rw[hov]at k7;rw[k7];obtain⟨Gr,hrl,hrow,hGr⟩:=Zbs i k2 k3;obtain⟨Go,Ro,hold,hFo,_,_⟩:=Zfl (j:=j) (n:=P.cellsOf (elemOf P t)) hrow (by omega)
       have hin:∀b,L.fp r b→Sc b:=hR rfl r (by simp[TV.roots,C.roots]) (by rw[hov];exact hl)
       exact⟨λ_ h=>h,B,_,k6,Zfp hS hold (λb hb=>hin b (k4 b (hGr b ((hFo b).2 (.inl hb))))),.inr (hin B k5)⟩
      ·cases h1
     ·rename_i heq;cases heq
     ·cases h1
    |inout o p=>
     unfold argRow at h1;split at h1
     ·rename_i heq;cases heq
     ·rename_i heq;cases heq
     ·rename_i heq;cases heq
     ·rename_i heq;cases heq
     ·rename_i heq;cases heq;rename_i r ga gh q n i j;simp only at h1;split at h1
      ·rename_i hcond;simp only[Bool.and_eq_true,decide_eq_true_eq]at hcond;simp only[Option.some.injEq,Prod.mk.injEq,Bool.and_eq_true,Bool.or_eq_true]at h1;obtain⟨⟨hp,hfl⟩,rfl,rfl⟩:=h1;have hl:=Zar hcond.1;have hov:Zao M rs r=rs.get r:=Za8 hl;refine still rfl (by simp) (λmv2 Sc hS hR hsame=>?_)
       obtain⟨e1,e2⟩:=hsame r (by simp[TV.roots,C.roots])
       obtain⟨es,B,off,cap,F',k1,k2,k3,k4,k5,k6,k7⟩:=Zgl hm hv (by rw[hov];exact hcond.1) (by rw[hov];exact hp)
       rw[hov]at k7;rw[k7]at hfl⊢;exact⟨λ_ h=>h,r,ga,gh,q,n,i,j,es,B,off,cap,rfl,by rw[e1,hov];exact hcond.1,by rw[e1,e2];exact k1,k3,⟨hcond.2.1,by rw[e1,hov];exact hcond.2.2⟩,rfl,k6,hfl⟩
      ·cases h1
     ·cases h1
   ·cases he
  ·cases he
 |[],[],_::_,_,_,_,_,_,h,_,_=>h.elim
 |[],_::_,_,_,_,_,_,_,_,_,he=>by simp[argRows]at he
 |_::_,[],_,_,_,_,_,_,_,_,he=>by simp[argRows]at he
 |_::_,_::_,[],_,_,_,_,_,h,_,_=>h.elim
end
end Go.Ev
