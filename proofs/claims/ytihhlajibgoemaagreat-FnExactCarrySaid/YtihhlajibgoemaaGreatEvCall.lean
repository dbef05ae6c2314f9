/- A call of a loaded function, on the caller's side. -/
import Derived.Test.YtihhlajibgoemaaGreatEvSeat
namespace Go.Ev
open Go.RowKit
set_option linter.unusedVariables false
set_option linter.unusedSimpArgs false
theorem Zlk{r:Nat}:∀(n:Nat) {l:List Nat},l.length≤n→(r∈l.eraseDups↔r∈l)
 |_,[],_=>by simp
 |0,x::l,h=>by simp at h
 |n+1,x::l,h=>by
  rw[List.eraseDups_cons,List.mem_cons,List.mem_cons,Zlk n (Nat.le_trans (List.length_filter_le _ _) (by simpa using h))]
  by_cases hx:r=x
  ·simp[hx]
  ·simp[hx]
theorem Zcp{r:Nat}{l:List Nat}:r∈l.eraseDups↔r∈l:=Zlk l.length (Nat.le_refl _)
theorem Zct:∀{xs ys:List Nat},nodupB (xs++ys)=true→(∀x∈xs,x∉ys)∧nodupB ys=true
 |[],ys,h=>⟨by simp,h⟩
 |x::xs,ys,h=>by
  simp only[List.cons_append,nodupB,Bool.and_eq_true]at h;obtain⟨h1,h2⟩:=Zct h.2;refine⟨λy hy hin=>?_,h2⟩;rcases List.mem_cons.1 hy with rfl|hy
  ·have:=h.1;simp[hin]at this
  ·exact h1 y hy hin
theorem Zfz:∀{es:List (List D)},deepRows es=true→∀n,deepRows (es.take n)=true
 |[],_,n=>by simp[deepRows]
 |e::es,h,0=>rfl
 |e::es,h,n+1=>by
  simp only[deepRows,Bool.and_eq_true]at h;simp only[List.take_succ_cons,deepRows,Bool.and_eq_true];exact⟨h.1,Zfz h.2 n⟩
theorem Zfx:∀{es:List (List D)},deepRows es=true→∀n,deepRows (es.drop n)=true
 |[],_,n=>by simp[deepRows]
 |e::es,h,0=>h
 |e::es,h,n+1=>by
  simp only[deepRows,Bool.and_eq_true]at h;exact Zfx h.2 n
theorem Ze7:∀{a b:List D},deepRow a=true→deepRow b=true→deepRow (a++b)=true
 |[],b,_,h=>h
 |d::a,b,h,h'=>by
  simp only[deepRow,Bool.and_eq_true]at h;simp only[List.cons_append,deepRow,Bool.and_eq_true];exact⟨h.1,Ze7 h.2 h'⟩
theorem Zfy:∀{es:List (List D)},deepRows es=true→deepRow es.flatten=true
 |[],_=>rfl
 |e::es,h=>by
  simp only[deepRows,Bool.and_eq_true]at h;rw[List.flatten_cons];exact Ze7 h.1 (Zfy h.2)
abbrev plainModes(mts:List (Mode×TypeId))(tvs:List TV):List (Mode×TV):=(mts.map (·.1)).zip tvs
theorem Zgt{ms:List (Mode×TypeId)}{tvs:List TV}{y:(Mode×TypeId)×TV}(h:y∈ms.zip tvs):(y.1.1,y.2)∈plainModes ms tvs:=by
 unfold plainModes;rw[List.zip_map_left];exact List.mem_map.2 ⟨y,h,rfl⟩
theorem Zcn:∀{ms:List (Mode×TypeId)} {tvs:List TV} {r:Nat},r∈inRoots ms tvs→r∈exRoots (plainModes ms tvs)
 |(m,t)::ms,tv::tvs,r,h=>by
  show r∈exRoots ((m,tv)::plainModes ms tvs);unfold exRoots;rw[List.flatMap_cons];have ih:=λh=>Zcn (ms:=ms) (tvs:=tvs) (r:=r) h;cases m with
  |inout o p=>
   rcases List.mem_append.1 (show r∈tv.roots++inRoots ms tvs from h)with h|h
   ·exact List.mem_append_left _ h
   ·exact List.mem_append_right _ (ih h)
  |lend=>exact List.mem_append_right _ (ih h)
  |give=>exact List.mem_append_right _ (ih h)
  |ro=>exact List.mem_append_right _ (ih h)
 |[],_,_,h=>by cases h
 |(m,t)::_,[],_,h=>by cases m<;>cases h
theorem Zm5{l:List (Mode×TV)}{r:Nat}(h:r∈exRoots l):r∈l.flatMap λx=>if x.1.excl then x.2.roots.eraseDups else[]:=by
 unfold exRoots at h;obtain⟨x,hx,hr⟩:=List.mem_flatMap.1 h;refine List.mem_flatMap.2 ⟨x,hx,?_⟩;split at hr
 ·rename_i hm;rw[if_pos hm];exact Zcp.2 hr
 ·cases hr
theorem Zmz:∀{ms:List (Mode×TypeId)} {tvs:List TV},giveNodup (plainModes ms tvs)=true→(∀r∈exRoots (plainModes ms tvs),r∉shRoots (plainModes ms tvs))→apartP ms tvs∧inApart ms tvs
 |[],_,_,_=>⟨trivial,trivial⟩
 |(m,t)::ms,[],_,_=>⟨trivial,by cases m<;>exact trivial⟩
 |(m,t)::ms,tv::tvs,h,hs=>by
  have hl:plainModes ((m,t)::ms) (tv::tvs)=(m,tv)::plainModes ms tvs:=rfl;rw[hl]at h hs;unfold giveNodup at h;rw[List.flatMap_cons]at h;obtain⟨h1,h2⟩:=Zct h;have hs2:∀r∈exRoots (plainModes ms tvs),r∉shRoots (plainModes ms tvs):=λr hr hr2=>by
   refine hs r ?_ ?_
   ·unfold exRoots at hr ⊢;rw[List.flatMap_cons];exact List.mem_append_right _ hr
   ·unfold shRoots at hr2 ⊢;rw[List.flatMap_cons];exact List.mem_append_right _ hr2
  obtain⟨a1,a2⟩:=Zmz h2 hs2;have later:∀r∈tv.roots,r∈exRoots (plainModes ms tvs)→False:=λr hr hin=>by
   by_cases hm:m.excl=true
   ·exact h1 r (by rw[if_pos hm];exact Zcp.2 hr) (Zm5 hin)
   ·refine hs r ?_ ?_
    ·unfold exRoots at hin ⊢;rw[List.flatMap_cons];exact List.mem_append_right _ hin
    ·unfold shRoots;rw[List.flatMap_cons];exact List.mem_append_left _ (by rw[if_neg hm];exact hr)
  refine⟨⟨λr hr y hy hg hin=>later r hr ?_,a1⟩,?_⟩
  ·unfold exRoots;exact List.mem_flatMap.2 ⟨_,Zgt hy,by simp[hg,Mode.excl,hin]⟩
  ·cases m with
   |inout o p=>exact⟨λr hr hin=>later r hr (Zcn hin),a2⟩
   |lend=>exact a2
   |give=>exact a2
   |ro=>exact a2
theorem Zcr{w':World}{S Sc:FP}:∀{mts:List (Mode×TypeId)} {vs:List Value} {backs:List (List D)} {F:FP},backRep w' Sc mts vs backs F→deepRows backs=true→backRep w' S mts vs backs F
 |[],[],[],_,h,_=>h
 |(.inout o p,t)::ms,v::vs,row::rows,F,⟨B,off,F',F1,F2,h1,h2,h3,h4,h5,h6,h7⟩,hd=>by
  simp only[deepRows,Bool.and_eq_true]at hd;exact⟨B,off,F',F1,F2,h1,Zd1 h2 hd.1,h3,h4,Zcr h5 hd.2,h6,h7⟩
 |(.lend,t)::ms,v::vs,rows,F,h,hd=>Zcr (mts:=ms) (vs:=vs) h hd
 |(.give,t)::ms,v::vs,rows,F,h,hd=>Zcr (mts:=ms) (vs:=vs) h hd
 |(.ro,t)::ms,v::vs,rows,F,h,hd=>Zcr (mts:=ms) (vs:=vs) h hd
 |[],[],_::_,_,h,_=>h.elim
 |[],_::_,_,_,h,_=>h.elim
 |(.inout _ _,_)::_,[],_,_,h,_=>h.elim
 |(.inout _ _,_)::_,_::_,[],_,h,_=>h.elim
 |(.lend,_)::_,[],_,_,h,_=>h.elim
 |(.give,_)::_,[],_,_,h,_=>h.elim
 |(.ro,_)::_,[],_,_,h,_=>h.elim
section
variable {P : Program} {w : World} {S : FP}
theorem Zk1{M:Mem}{L:Lay}{c:C}{v:Value}(h:cRep w S M L c v):∀r∈c.roots,(M r).born=true:=by
 intro r hr;cases c with
 |view r' ga gh q sz sub=>have:r=r':=by simpa[C.roots]using hr
                          subst this;exact h.1.1
 |ptr r' ga gh q sz i j=>have:r=r':=by simpa[C.roots]using hr
                         subst this;exact h.1.1
 |_=>cases hr
theorem Zgx{M:Mem}{L:Lay}:∀{cs:List C} {vs:List Value},cellsRep w S M L cs vs→∀r∈cs.flatMap C.roots,(M r).born=true
 |[],_,_,r,hr=>by cases hr
 |c::cs,v::vs,h,r,hr=>by
  rw[List.flatMap_cons]at hr;rcases List.mem_append.1 hr with hr|hr
  ·exact Zk1 h.1 r hr
  ·exact Zgx h.2 r hr
 |_::_,[],h,_,_=>h.elim
theorem Znw{M:Mem}{L:Lay}{a:Bool}{cs:List C}{v:Value}(h:tvRep1 w S M L a cs v):∀r∈cs.flatMap C.roots,(M r).born=true:=by
 cases a with
 |true=>obtain⟨vs,_,h⟩:=h;exact Zgx h
 |false=>
  match cs,h with
  |[c],h=>intro r hr;exact Zk1 h r (by simpa using hr)
theorem Znv{M:Mem}{L:Lay}:∀{xs:List (Bool×List C)} {vs:List Value},tupRep w S M L xs vs→∀r∈xs.flatMap (λx=>x.2.flatMap C.roots),(M r).born=true
 |[],_,_,r,hr=>by cases hr
 |x::xs,v::vs,h,r,hr=>by
  rw[List.flatMap_cons]at hr;rcases List.mem_append.1 hr with hr|hr
  ·exact Znw h.1 r hr
  ·exact Znv h.2 r hr
 |_::_,[],h,_,_=>h.elim
theorem Zya{M:Mem}{L:Lay}{x:TV}{v:Value}(h:tvRep w S M L x v):∀r∈x.roots,(M r).born=true:=by
 cases x with
 |v a cs=>exact Znw h
 |tup xs=>obtain⟨vs,_,h⟩:=h;exact Znv h
 |cp r cs=>
  obtain⟨h1,_,vs,h2,_⟩:=h;intro k hk;rcases List.mem_cons.1 hk with rfl|hk
  ·exact h1.1
  ·exact Zgx h2 k hk
theorem Zgj{M:Mem}{L:Lay}:∀{xs:List TV} {vs:List Value},opsRep w S M L xs vs→∀r∈xs.flatMap TV.roots,(M r).born=true
 |[],_,_,r,hr=>by cases hr
 |x::xs,v::vs,h,r,hr=>by
  rw[List.flatMap_cons]at hr;rcases List.mem_append.1 hr with hr|hr
  ·exact Zya h.1 r hr
  ·exact Zgj h.2 r hr
 |_::_,[],h,_,_=>h.elim
theorem Ziq{own:Bool}:∀{ts:List TypeId} {rows:List (List D)} {us:List Value} {F:FP} {nx:Nat} {M:Mem} {L:Lay},(resVals P own ts rows nx).1=true→outRep P w S ts rows us F→MemRep w S M L→(∀r,newOf nx (resVals P own ts rows nx).2.2.length r→(M r).born=false)→
  (∀r,(M r).live=true→∀b,F b→¬L.fp r b)→(∀b,F b→b<w.heap.size∧¬S b)→
  ∃L',Adds w S M (addNew M nx (resVals P own ts rows nx).2.2) L L' nx (resVals P own ts rows nx).2.2.length F∧tupRep w S (addNew M nx (resVals P own ts rows nx).2.2) L' (resVals P own ts rows nx).2.1 us
 |[],[],[],F,nx,M,L,_,h,hm,_,_,_=>⟨L,Adds.none hm nx F,trivial⟩
 |t::ts,row::rows,u::us,F,nx,M,L,he,⟨F1,F2,h1,h2,h3,h4⟩,hm,hb,hd,ho=>by
  cases hp:isPtrB P t with
  |true=>
   have hE:resVals P own (t::ts) (row::rows) nx=(fits own (leaves P 9 (elemOf P t)) row&&(resVals P own ts rows (nx+1)).1,(false,[.ptr nx 0 0 [] (typedRow own row 0 (leaves P 9 (elemOf P t))).length 0 0])::(resVals P own ts rows (nx+1)).2.1,
     {box:=true,sz:=(typedRow own row 0 (leaves P 9 (elemOf P t))).length,es:=[typedRow own row 0 (leaves P 9 (elemOf P t))] }::(resVals P own ts rows (nx+1)).2.2):=by
    simp only[resVals,hp,cond_true,List.headD_cons,List.tail_cons]
   rw[hE]at he hb⊢;simp only[Bool.and_eq_true]at he;obtain⟨hf,he⟩:=he;rw[Zey hf]at hb⊢;simp only[List.length_cons]at hb;unfold outOne at h1;rw[if_pos hp]at h1;obtain⟨B,off,F',rfl,hr,hnB,hFB,hblk⟩:=h1;have hrep:repD w S (rootD { box:=true,sz:=row.length,es:=[row] }) (.slice (some ⟨B,off,none⟩) 1 1) F1:=
    ⟨_,1,rfl,Nat.le_refl _,.inr ⟨B,off,F',rfl,⟨F',λ_=>False,rfl,hr,λ_ h=>h,λb=>by simp,λ_ _ h=>h⟩,.inl ⟨rfl,hnB,hFB,⟨by simpa using hblk,by omega⟩⟩⟩⟩
   have a1:=Adds.one (nx:=nx) (x:={ box:=true,sz:=row.length,es:=[row] }) hm (hb nx ⟨Nat.le_refl _,by omega⟩) rfl rfl hrep (λb hx=>ho b ((h3 b).2 (.inl hx))) (λr hr b hx=>hd r hr b ((h3 b).2 (.inl hx)))
   have hpt:tvRep1 w S (addNew M nx [{ box:=true,sz:=row.length,es:=[row] }]) ⟨λk=>if k=nx then .slice (some ⟨B,off,none⟩) 1 1 else L.hd k,λk=>if k=nx then F1 else L.fp k⟩ false [.ptr nx 0 0 [] row.length 0 0] (.pointer (some ⟨B,off,none⟩)):=by
    refine⟨by rw[Zbu];simp,⟨_,_,rfl⟩,λ_ _=>⟨[row],B,off,1,1,?_,by simp,by simp⟩⟩
    rw[Zbu];simp only[if_true];exact .nil _ _
   have hb1:∀r,newOf (nx+1) (resVals P own ts rows (nx+1)).2.2.length r→(addNew M nx [{ box:=true,sz:=row.length,es:=[row] }] r).born=false:=λr hr=>by
    unfold newOf at hr;rw[Zbq (by unfold newOf;simp;omega)];exact hb r ⟨by omega,by omega⟩
   obtain⟨L2,a2,c2⟩:=Ziq (M:=addNew M nx [{ box:=true,sz:=row.length,es:=[row] }]) (nx:=nx+1) he h2 a1.rep hb1 (λr hr b hf=>by
    by_cases hn:newOf nx 1 r
    ·exact λhx=>h4 b (a1.fp r hn b hx) hf
    ·obtain⟨e1,_,e3⟩:=a1.old r hn;rw[e1]at hr;rw[e3];exact hd r hr b ((h3 b).2 (.inr hf))) (λb hf=>ho b ((h3 b).2 (.inr hf)))
   have a2':Adds w S (addNew M nx [{ box:=true,sz:=row.length,es:=[row] }]) (addNew (addNew M nx [{ box:=true,sz:=row.length,es:=[row] }]) (nx+[({ box:=true,sz:=row.length,es:=[row] }:Root)].length) (resVals P own ts rows (nx+1)).2.2) _ L2 (nx+[({ box:=true,sz:=row.length,es:=[row] }:Root)].length) (resVals P own ts rows (nx+1)).2.2.length F2:=a2;have a3:=Adds.trans (F:=F) a1 a2' (λb hf=>(h3 b).2 (.inl hf)) (λb hf=>(h3 b).2 (.inr hf));have heq:addNew (addNew M nx [{ box:=true,sz:=row.length,es:=[row] }]) (nx+1) (resVals P own ts rows (nx+1)).2.2=addNew M nx ({ box:=true,sz:=row.length,es:=[row] }::(resVals P own ts rows (nx+1)).2.2):=Zch M nx [{ box:=true,sz:=row.length,es:=[row] }] (resVals P own ts rows (nx+1)).2.2;have hc:=Zed (λc v hc=>a2.cRep (λr hr=>hb1 r hr) hc) hpt;rw[heq]at hc c2;exact⟨L2,a3,hc,c2⟩
  |false=>
  unfold outOne at h1;rw[if_neg (by rw[hp];simp)]at h1
  obtain⟨h0,h1⟩:=h1;simp only[resVals,hp,cond_false,List.headD_cons,List.tail_cons,Bool.and_eq_true]at he hb⊢;obtain⟨hf,he⟩:=he;rw[Zey hf]at he hb⊢;simp only[List.length_append]at hb;obtain⟨L1,a1,c1⟩:=Zc8 (nx:=nx) hf h1 hm (λr hr=>hb r ⟨hr.1,by have:=hr.2;omega⟩) (λr hr b hx=>hd r hr b ((h3 b).2 (.inl hx))) (λb hx=>ho b ((h3 b).2 (.inl hx)))
  have hb1:∀r,newOf (nx+(frameCells own row nx).2.length) (resVals P own ts rows (nx+(frameCells own row nx).2.length)).2.2.length r→(addNew M nx (frameCells own row nx).2 r).born=false:=λr hr=>by
   unfold newOf at hr;rw[Zbq (by unfold newOf;omega)];exact hb r ⟨by omega,by omega⟩
  obtain⟨L2,a2,c2⟩:=Ziq (M:=addNew M nx (frameCells own row nx).2) (L:=L1) he h2 a1.rep hb1 (λr hr b hf=>by
   by_cases hn:newOf nx (frameCells own row nx).2.length r
   ·exact λhx=>h4 b (a1.fp r hn b hx) hf
   ·obtain⟨e1,_,e3⟩:=a1.old r hn;rw[e1]at hr;rw[e3];exact hd r hr b ((h3 b).2 (.inr hf))) (λb hf=>ho b ((h3 b).2 (.inr hf)))
  have a3:=Adds.trans (F:=F) a1 a2 (λb hf=>(h3 b).2 (.inl hf)) (λb hf=>(h3 b).2 (.inr hf));have heq:=Zch M nx (frameCells own row nx).2 (resVals P own ts rows (nx+(frameCells own row nx).2.length)).2.2;have hc:=Zed (λc v hc=>a2.cRep (λr hr=>hb1 r hr) hc) (Zm9 h0 c1);rw[heq]at hc c2;exact⟨L2,a3,hc,c2⟩
 |[],[],_::_,_,_,_,_,_,h,_,_,_,_=>h.elim
 |[],_::_,_,_,_,_,_,_,h,_,_,_,_=>h.elim
 |_::_,[],_,_,_,_,_,_,h,_,_,_,_=>h.elim
 |_::_,_::_,[],_,_,_,_,_,h,_,_,_,_=>h.elim
theorem Zu7{M:Mem}{L:Lay}{xs:List (Bool×List C)}{us:List Value}(h:tupRep w S M L xs us):tvRep w S M L (packTV xs) (resVal us):=by
 match xs,us,h with
 |[],[],h=>exact⟨_,rfl,h⟩
 |[x],[u],h=>exact h.1
 |x::y::xs,u::v::us,h=>exact⟨_,rfl,h⟩
 |[x],u::v::us,h=>exact h.2.elim
 |x::y::xs,[u],h=>exact h.2.elim
theorem Zfw{M:Mem}{L:Lay}:∀{cs cs':List C} {us us':List Value},cellsRep w S M L cs us→cellsRep w S M L cs' us'→cellsRep w S M L (cs++cs') (us++us')
 |[],_,[],_,_,h=>h
 |c::cs,_,u::us,_,h,h'=>⟨h.1,Zfw h.2 h'⟩
 |[],_,_::_,_,h,_=>h.elim
 |_::_,_,[],_,h,_=>h.elim
theorem Zmm{rs:Look}{c:C}(h:okMut rs c=true):c.solid=true:=by cases c<;>first|rfl|cases h
theorem Zki{M:Mem}{L:Lay}{ok:C→Bool}(hok:∀c,ok c=true→c.solid=true):∀{ms:List Mode} {mu:List Bool} {tvs:List TV} {vs:List Value},opsRep w S M L tvs vs→(mutCells ms mu tvs).all ok=true→cellsRep w S M L (mutCells ms mu tvs) (mutVals ms mu vs)
 |[],_,_,_,_,_=>trivial
 |m::ms,[],_,_,_,_=>by cases m<;>exact trivial
 |m::ms,x::_,[],[],_,_=>by cases m<;>cases x<;>exact trivial
 |m::ms,x::mu,tv::tvs,v::vs,⟨h1,h2⟩,ha=>by
  have skip:(mutCells (m::ms) (x::mu) (tv::tvs)=mutCells ms mu tvs∧mutVals (m::ms) (x::mu) (v::vs)=mutVals ms mu vs)→cellsRep w S M L (mutCells (m::ms) (x::mu) (tv::tvs)) (mutVals (m::ms) (x::mu) (v::vs)):=λ⟨e1,e2⟩=>by
   rw[e1]at ha ⊢;rw[e2];exact Zki hok h2 ha
  cases m with
  |give=>
   cases x with
   |false=>exact skip ⟨rfl,rfl⟩
   |true=>
    have ha':(tv.cells++mutCells ms mu tvs).all ok=true:=ha;rw[List.all_append,Bool.and_eq_true]at ha';show cellsRep w S M L (tv.cells++mutCells ms mu tvs) (v.cells.toList++mutVals ms mu vs);refine Zfw ?_ (Zki hok h2 ha'.2);cases tv with
    |tup xs=>
     have:=List.all_eq_true.1 ha'.1 .undef (by simp[TV.cells])
     have:=hok _ this;cases this
    |cp r cs=>
     have:=List.all_eq_true.1 ha'.1 .undef (by simp[TV.cells])
     have:=hok _ this;cases this
    |v a cs=>exact Zgs h1 (λc hc=>hok c (List.all_eq_true.1 ha'.1 c hc))
  |lend=>exact skip ⟨rfl,rfl⟩
  |ro=>exact skip ⟨rfl,rfl⟩
  |inout o p=>exact skip ⟨rfl,rfl⟩
 |_::_,_::_,[],_::_,h,_=>h.elim
 |_::_,_::_,_::_,[],h,_=>h.elim
theorem Zjb(v:TV):∀r∈v.cells.flatMap C.roots,r∈v.roots:=by
 cases v with
 |v a cs=>exact λr h=>h
 |tup xs=>intro r h;simp[TV.cells,C.roots]at h
 |cp k cs=>intro r h;simp[TV.cells,C.roots]at h
theorem Zgg:∀{ms:List (Mode×TypeId)} {mu:List Bool} {tvs:List TV},∀r∈(mutCells (ms.map (·.1)) mu tvs).flatMap C.roots,r∈giveRoots ms tvs
 |[],_,_,r,h=>by cases h
 |(m,t)::ms,[],_,r,h=>by cases m<;>cases h
 |(m,t)::ms,x::_,[],r,h=>by cases m<;>cases x<;>cases h
 |(m,t)::ms,x::mu,tv::tvs,r,h=>by
  have tail:r∈(mutCells (ms.map (·.1)) mu tvs).flatMap C.roots→r∈giveRoots ((m,t)::ms) (tv::tvs):=λh=>by
   have:=Zgg r h;unfold giveRoots at this⊢;rw[List.zip_cons_cons,List.flatMap_cons];exact List.mem_append_right _ this
  cases m with
  |give=>
   cases x with
   |false=>exact tail h
   |true=>
    have h':r∈(tv.cells++mutCells (ms.map (·.1)) mu tvs).flatMap C.roots:=h;rw[List.flatMap_append]at h';rcases List.mem_append.1 h' with h' |h'
    ·unfold giveRoots;rw[List.zip_cons_cons,List.flatMap_cons];exact List.mem_append_left _ (Zjb tv r h')
    ·exact tail h'
  |lend=>exact tail h
  |ro=>exact tail h
  |inout o p=>exact tail h
theorem Zjh:∀{ms:List (Mode×TypeId)} {tvs:List TV},giveNodup (plainModes ms tvs)=true→∀r∈giveRoots ms tvs,r∉inRoots ms tvs
 |[],_,_,r,h=>by simp[giveRoots]at h
 |(m,t)::ms,[],_,r,h=>by simp[giveRoots]at h
 |(m,t)::ms,tv::tvs,hn,r,h=>by
  have hl:plainModes ((m,t)::ms) (tv::tvs)=(m,tv)::plainModes ms tvs:=rfl;rw[hl]at hn;unfold giveNodup at hn;rw[List.flatMap_cons]at hn;obtain⟨h1,h2⟩:=Zct hn;have later:m.excl=true→∀r∈tv.roots,r∈exRoots (plainModes ms tvs)→False:=λhm r hr hin=>h1 r (by rw[if_pos hm];exact Zcp.2 hr) (Zm5 hin)
  have ih:=Zjh (ms:=ms) (tvs:=tvs) h2;have hsplit:(m=.give∧r∈tv.roots)∨r∈giveRoots ms tvs:=by
   unfold giveRoots at h⊢;rw[List.zip_cons_cons,List.flatMap_cons]at h;rcases List.mem_append.1 h with h|h
   ·cases m<;>first|exact .inl ⟨rfl,h⟩|cases h
   ·exact .inr h
  have gex:r∈giveRoots ms tvs→r∈exRoots (plainModes ms tvs):=λh=>by
   unfold giveRoots at h;obtain⟨y,hy,hyr⟩:=List.mem_flatMap.1 h;unfold exRoots;refine List.mem_flatMap.2 ⟨_,Zgt hy,?_⟩;split at hyr
   ·rename_i hg;simp[hg,Mode.excl,hyr]
   ·cases hyr
  intro hin;have inTail:r∈inRoots ms tvs→False:=λhin=>by
   rcases hsplit with⟨rfl,hr⟩|hr
   ·exact later rfl r hr (Zcn hin)
   ·exact ih r hr hin
  cases m with
  |inout o p=>
   rcases List.mem_append.1 (show r∈tv.roots++inRoots ms tvs from hin)with hin|hin
   ·rcases hsplit with⟨h,_⟩|hr
    ·cases h
    ·exact later rfl r hin (gex hr)
   ·exact inTail hin
  |lend=>exact inTail hin
  |give=>exact inTail hin
  |ro=>exact inTail hin
theorem Zix{w':World}{M M2:Mem}{L L2:Lay}:∀{cs:List C} {us:List Value},cellsRep w S M L cs us→(∀c∈cs,∀u,cRep w S M L c u→seatPre w' M2 L2 c u)→seatPres w' M2 L2 cs us
 |[],[],_,_=>trivial
 |c::cs,u::us,h,hp=>⟨hp c List.mem_cons_self u h.1,Zix h.2 (λc hc=>hp c (List.mem_cons_of_mem _ hc))⟩
 |[],_::_,h,_=>h.elim
 |_::_,[],h,_=>h.elim
theorem Zpt{H:Hints}{call:CallF}(hs:Sound P H call){f:FuncId}{fn:Func}(hf:P.funcs[f]?=some fn){M:Mem}{L:Lay}{R:List Nat}{nx:Nat}{rs rs1 rs2 rs3:Look}{mts:List (Mode×TypeId)}{tvs:List TV}{vs:List Value}{rows out back:List (List D)}{own:Bool}
  (hmts:mts=(H.modes f fn.params.size).zip fn.params.toList) (hm:MemRep w S M L) (hover:Zao M rs=M) (hk1:∀r∈tvs.flatMap TV.roots,r∈rs.keys) (hk2:∀r∈rs.keys,r∈tvs.flatMap TV.roots) (hR:∀r∈tvs.flatMap TV.roots,r∈R) (hfresh:∀r,newOf nx (resVals P own fn.resultTypes.toList out nx).2.2.length r→(M r).born=false)
  (hv:opsRep w S M L tvs vs) (hap:apartArgs (plainModes mts tvs)=true) (hargs:argRows P mts tvs rs=some (true,rows,rs1)) (hcall:call f rows=some (true,out,back)) (hback:backAll P mts tvs (back.take (inouts (mts.map (·.1)))) rs1=some (true,rs2))
  (hseat:reseatCells (mutCells (mts.map (·.1)) (H.muts f) tvs) (back.drop (inouts (mts.map (·.1)))).flatten rs2=some (true,rs3)) (hokm:(mutCells (mts.map (·.1)) (H.muts f) tvs).all (okMut rs)=true) (hnest:(mutCells (mts.map (·.1)) (H.muts f) tvs).all (nestLive rs2)=true)
  (hres:(resVals P own fn.resultTypes.toList out nx).1=true) (hclean:cleanOut (plainModes mts tvs) out back=true):
  (fn.name == "runtime.NumGoroutine") = false ∧ fn.body.isNone = false ∧ Calls P f vs.toArray w fun e w' => match e with
   |.returned v=>∃L',tvRep w' S (addNew (Zao M rs3) nx (resVals P own fn.resultTypes.toList out nx).2.2) L' (packTV (resVals P own fn.resultTypes.toList out nx).2.1) v∧
    Turns w w' S S M (addNew (Zao M rs3) nx (resVals P own fn.resultTypes.toList out nx).2.2) L L' R (newOf nx (resVals P own fn.resultTypes.toList out nx).2.2.length)
   |_=>False:=by
 obtain⟨c1,c2,hc⟩:=hs f fn rows out back hf hcall;refine⟨c1,c2,?_⟩;unfold apartArgs at hap;simp only[Bool.and_eq_true,Bool.not_eq_true',List.any_eq_false]at hap;have hsep:∀r∈exRoots (plainModes mts tvs),r∉shRoots (plainModes mts tvs):=λr hr hx=>hap.2 r hr (List.contains_iff_mem.2 hx);obtain⟨hap1,hap2⟩:=Zmz hap.1 hsep;obtain⟨G,L1,mv,hkeys,hdone⟩:=Zgw (rs:=rs) (by rw[hover];exact hm) (by rw[hover];exact hv) hap1 hargs
 rw[hover]at mv;have hm1:=mv.rep;let Sc:FP:=λb=>S b∨∃r,r∈shRoots (plainModes mts tvs)∧(Zao M rs1 r).live=true∧L1.fp r b;have hSc:∀b,S b→Sc b:=λb h=>.inl h;have hd:=hdone Sc hSc (λy hy hx r hr hl b hb=>.inr ⟨r,by
  unfold shRoots;exact List.mem_flatMap.2 ⟨_,Zgt hy,by simp[hx,hr]⟩,hl,hb⟩)
 obtain⟨F,hout,harg,hF⟩:=Zdp hm1 hSc hap2 hd (λb hb=>by
  obtain⟨r,_,h3,h4⟩:=mv.out b hb;exact⟨(hm.own r h3 b h4).1,(hm.own r h3 b h4).2,λr hl=>mv.apart r hl b hb⟩)
 have hFS:∀b,F b→b<w.heap.size∧¬Sc b:=λb hb=>by
  rcases hF b hb with hg|⟨r,hr,hl,hf⟩
  ·obtain⟨r,_,h3,h4⟩:=mv.out b hg;refine⟨(hm.own r h3 b h4).1,λhx=>?_⟩;rcases hx with hx|⟨r',_,hl',hf'⟩
   ·exact(hm.own r h3 b h4).2 hx
   ·exact mv.apart r' hl' b hg hf'
  ·refine⟨(hm1.own r hl b hf).1,λhx=>?_⟩;rcases hx with hx|⟨r',hr',hl',hf'⟩
   ·exact(hm1.own r hl b hf).2 hx
   ·exact hm1.apart r r' hl hl' (λhe=>hsep r (Zcn hr) (he▸hr')) b hf hf'
 have hFM:∀b,F b→∃r,r∈R∧(M r).live=true∧L.fp r b:=λb hb=>by
  rcases hF b hb with hg|⟨r,hr,hl,hf⟩
  ·obtain⟨r,h2,h3,h4⟩:=mv.out b hg;refine⟨r,hR r ?_,h3,h4⟩;unfold giveRoots at h2;obtain⟨y,hy,hyr⟩:=List.mem_flatMap.1 h2;split at hyr
   ·exact List.mem_flatMap.2 ⟨y.2,(List.of_mem_zip hy).2,hyr⟩
   ·cases hyr
  ·refine⟨r,hR r ?_,mv.live r hl,mv.fp r hl b hf⟩;have:=Zcn hr;unfold exRoots at this;obtain⟨x,hx,hxr⟩:=List.mem_flatMap.1 this;split at hxr
   ·exact List.mem_flatMap.2 ⟨x.2,(List.of_mem_zip hx).2,hxr⟩
   ·cases hxr
 have hScz:∀b,Sc b→b<w.heap.size:=λb hb=>by
  rcases hb with hb|⟨r,_,hl,hf⟩
  ·exact hm.lent b hb
  ·exact(hm1.own r hl b hf).1
 have hcl:=hc w Sc F vs hScz hFS (by rw[←hmts];exact harg)
 refine hcl.mono (λe w' he=>?_);cases e with
 |returned v=>
  simp only at he⊢;rw[←hmts]at he;obtain⟨hbel,hfr,hin,us,G1,G2,G3,rfl,houts,hbk,hdat,⟨hG12,hGG⟩,hG3,hGG3⟩:=he;have hlentS:outRep P w' S fn.resultTypes.toList out us G1∧backRep w' S mts vs (back.take (inouts (mts.map (·.1)))) G2∧datRep w' S (back.drop (inouts (mts.map (·.1)))).flatten (mutVals (mts.map (·.1)) (H.muts f) vs) G3:=by
   unfold cleanOut at hclean;cases hsh:(shRoots (plainModes mts tvs)).isEmpty with
   |true=>
    have hScS:Sc=S:=by
     funext b
     refine propext ⟨λh=>?_,λh=>.inl h⟩;rcases h with h|⟨r,hr,_⟩
     ·exact h
     ·rw[List.isEmpty_iff.1 hsh]at hr;cases hr
    rw[hScS]at houts hbk hdat;exact⟨houts,hbk,hdat⟩
   |false=>
    rw[hsh]at hclean;simp only[cond_false,Bool.and_eq_true]at hclean;exact⟨Zil houts hclean.1,Zcr hbk (Zfz hclean.2 _),Zfj hdat (Zfy (Zfx hclean.2 _))⟩
  obtain⟨houts,hbk,hdat⟩:=hlentS;have hframe:∀b,b<w.heap.size→¬F b→w'.heap[b]?=w.heap[b]?:=hfr;have hSF:∀b,S b→¬F b:=λb hb hf=>(hFS b hf).2 (.inl hb);have hlive:=Zbx hout;have hrest:=Zcl hm1 hout;have hkR:∀r,r∉R→r∉inRoots mts tvs:=λr hr hin=>hr (by
   have:=Zcn hin;unfold exRoots at this;obtain⟨x,hx,hxr⟩:=List.mem_flatMap.1 this;split at hxr
   ·exact hR r (List.mem_flatMap.2 ⟨x.2,(List.of_mem_zip hx).2,hxr⟩)
   ·cases hxr)
  have hgR:∀r,r∉R→r∉giveRoots mts tvs:=λr hr hin=>hr (by
   unfold giveRoots at hin;obtain⟨y,hy,hyr⟩:=List.mem_flatMap.1 hin;split at hyr
   ·exact hR r (List.mem_flatMap.2 ⟨y.2,(List.of_mem_zip hy).2,hyr⟩)
   ·cases hyr)
  have hholes:=Zlg (X:=inRoots mts tvs) (w':=w') hm1 hbel.size (λb hb=>hframe b (hm.lent b hb) (hSF b hb)) (λr hr hl b hb=>hframe b (hm1.own r hl b hb).1 (λhx=>hrest r hl hr b hx hb));obtain⟨L2,hm2,hhd2,hkeys2,hothers,hins⟩:=Zdr hm1 hbel.size hframe hSF hout hap2 hbk hin (λr hr=>by
    refine⟨?_,rfl⟩;rw[hkeys];have:=Zcn hr;unfold exRoots at this;obtain⟨x,hx,hxr⟩:=List.mem_flatMap.1 this;split at hxr
    ·exact hk1 r (List.mem_flatMap.2 ⟨x.2,(List.of_mem_zip hx).2,hxr⟩)
    ·cases hxr) hholes (λ_=>rfl) (λb h=>h) (λb h hn=>absurd h hn) (λb hb=>by
    obtain⟨h1,h2,h3⟩:=hGG b (.inr hb);exact⟨h1,h2,λhx=>h3 (.inl hx)⟩) (λr hr b hf hn k hlk hx=>by
    obtain⟨k1,k2,_⟩:=Zb3 hlk;exact hm1.apart r k (hlive r hr) k2 (λhe=>k1 (he▸hr)) b hf hx) (λb hb k hlk hx=>by
    obtain⟨k1,k2,_⟩:=Zb3 hlk;rcases(hGG b (.inr hb)).1 with h|h
    ·exact hrest k k2 k1 b h hx
    ·have:=(hm1.own k k2 b hx).1;omega) hback
  have hstill:∀r,(Zao M rs1 r).live=true→r∉inRoots mts tvs→∀b,L1.fp r b→w'.heap[b]?=w.heap[b]?:=λr hl hr b hb=>
   hframe b (hm1.own r hl b hb).1 (λhx=>hrest r hl hr b hx hb)
  have hdis:∀{Gx:FP},(∀b,Gx b→F b∨w.heap.size≤b)→(∀b,Gx b→¬G2 b)→∀r,(Zao M rs2 r).live=true→∀b,Gx b→¬L2.fp r b:=λ{Gx} hx1 hx2 r hl b hb hx=>by
   have h1:=hx1 b hb;by_cases hr:r∈inRoots mts tvs
   ·rcases(hins r hr).2 b hx with⟨h2,h3⟩|h2
    ·rcases h1 with h1|h1
     ·exact h3 h1
     ·have:=(hm1.own r (hlive r hr) b h2).1;omega
    ·exact hx2 b hb h2
   ·obtain⟨e1,e2⟩:=hothers r hr;rw[e1]at hl;rw[e2]at hx;rcases h1 with h1|h1
    ·exact hrest r hl hr b h1 hx
    ·have:=(hm1.own r hl b hx).1;omega
  have hgk:∀r,r∈giveRoots mts tvs→r∈tvs.flatMap TV.roots:=λr hin=>by
   unfold giveRoots at hin;obtain⟨y,hy,hyr⟩:=List.mem_flatMap.1 hin;split at hyr
   ·exact List.mem_flatMap.2 ⟨y.2,(List.of_mem_zip hy).2,hyr⟩
   ·cases hyr
  have hkeep:∀r,(Zao M rs1 r).box=(M r).box∧(Zao M rs1 r).sz=(M r).sz∧(Zao M rs1 r).es.length=(M r).es.length:=mv.keep;have hcell:∀{r ga gh:Nat} {q:Path} {n:Nat} {sub:Option (Nat×Nat)},C.view r ga gh q n sub∈mutCells (mts.map (·.1)) (H.muts f) tvs→
    sub=none∧M r=rs.get r∧okView (M r) ga gh q=true∧pathOk (M r).es q=true∧r∉inRoots mts tvs∧Zao M rs2 r=Zao M rs1 r∧r∈rs2.keys∧((q=[]∧(M r).box=false)∨∃x,q=[x]∧(Zao M rs1 r).live=true):=by
   intro r ga gh q n sub hc;have hr:r∈(mutCells (mts.map (·.1)) (H.muts f) tvs).flatMap C.roots:=List.mem_flatMap.2 ⟨_,hc,by simp[C.roots]⟩
   have hg:=Zgg r hr;have hni:=Zjh hap.1 r hg;have ho:=List.all_eq_true.1 hokm _ hc;have hnl:=List.all_eq_true.1 hnest _ hc;have hkey:r∈rs2.keys:=by rw[hkeys2,hkeys];exact hk1 r (hgk r hg)
   have hm2:=(hothers r hni).1;have hM:okView (rs.get r) ga gh q=true→M r=rs.get r:=λh=>by
    have:=Za8 (M:=M) (Zar h);rw[hover]at this;exact this
   match q,sub,ho,hnl with
   |[],none,ho,_=>
    have ho':(okView (rs.get r) ga gh []&&!(rs.get r).box)=true:=ho;simp only[Bool.and_eq_true,Bool.not_eq_true']at ho';have e:=hM ho'.1;exact⟨rfl,e,by rw[e];exact ho'.1,rfl,hni,hm2,hkey,.inl ⟨rfl,by rw[e];exact ho'.2⟩⟩
   |[x],none,ho,hnl=>
    have ho':(okView (rs.get r) ga gh [x]&&pathOk (rs.get r).es [x])=true:=ho;simp only[Bool.and_eq_true]at ho';have e:=hM ho'.1;have hnl':(rs2.get r).live=true:=hnl;exact⟨rfl,e,by rw[e];exact ho'.1,by rw[e];exact ho'.2,hni,hm2,hkey,.inr ⟨x,rfl,by rw[←hm2,Zc2 hkey];exact hnl'⟩⟩
  have hborn1:∀r,(M r).born=true→(Zao M rs1 r).born=true∧(M r).gh≤(Zao M rs1 r).gh:=λr h=>(mv.keeps r h).1;have hpres:seatPres w' (Zao M rs2) L2 (mutCells (mts.map (·.1)) (H.muts f) tvs) (mutVals (mts.map (·.1)) (H.muts f) vs):=by
   refine Zix (Zki (λc h=>Zmm h) hv hokm) (λc hc u hu=>?_);cases c with
   |view r ga gh q n sub=>
    obtain⟨rfl,e,hok,hpk,hni,hm2',hkey,hq⟩:=hcell hc;obtain⟨⟨hb,_⟩,_,hv'⟩:=hu;obtain⟨es,A,len,cap,hh,hs⟩:=hv' hok hpk;have hs:u=.slice A len cap:=hs;have hl:=Zar hok;obtain⟨k1,k2,k3⟩:=hkeep r;have hrep:=hm.rep r hl;rcases hq with⟨rfl,hbox⟩|⟨⟨i,j⟩,rfl,hl1⟩
    ·obtain⟨e1,e2⟩:=Za0 hh;obtain⟨A',cap',e3,_⟩:=hrep;refine⟨by rw[hm2'];exact(hborn1 r hb).1,?_,A',cap',?_⟩
     ·rw[hhd2 r,mv.hd r,hs,e2]
     ·rw[hm2',k3,hs,e2,e3]
    ·unfold rootD at hh;generalize hLr:L.hd r=hd0 at hh hrep;cases hh with
     |@cons _ _ B off len0 cap0 _ _ v1 _ _ _ hi hj hcl hp=>
      obtain⟨_,hu2⟩:=Za0 hp;obtain⟨F',_,_,hrows,_⟩:=Zbm hrep;obtain⟨Gr,hrl,_,_⟩:=Zbs i hrows hi;refine⟨by rw[hm2'];exact(hborn1 r hb).1,by rw[hm2',k3];exact hi,by rw[hm2',k2,←hrl];exact hj,by rw[hm2'];exact hl1,B,off,len0,cap0,by rw[hhd2 r,mv.hd r,hLr],?_⟩
      rw[hm2',k2,hs,hu2];refine(Za3 (hstill r hl1 hni B ?_) _).trans hcl;have hrep1:=hm1.rep r hl1;rw[mv.hd r,hLr]at hrep1;obtain⟨F'',_,_,_,_,hFF,_⟩:=Zbm hrep1;exact(hFF B).2 (.inl rfl)
   |d x=>exact trivial
   |nils n=>exact trivial
   |ptr=>have:=List.all_eq_true.1 hokm _ hc;cases this
   |rptr=>have:=List.all_eq_true.1 hokm _ hc;cases this
   |undef=>have:=List.all_eq_true.1 hokm _ hc;cases this
   |gone=>have:=List.all_eq_true.1 hokm _ hc;cases this
   |nz p=>have:=List.all_eq_true.1 hokm _ hc;cases this
  obtain⟨Ls,st,hkeys3⟩:=Zjz hm2 hpres (λr hr=>by rw[hkeys2,hkeys];exact hk1 r (hgk r (Zgg r hr))) hdat (hdis (λb hb=>(hGG3 b hb).1) (λb hb=>(hG3 b hb).2)) (λb hb=>by
   obtain⟨_,h2,h3⟩:=hGG3 b hb;exact⟨h2,λhx=>h3 (.inl hx)⟩) hseat
  have hborn2:∀r,newOf nx (resVals P own fn.resultTypes.toList out nx).2.2.length r→(Zao M rs3 r).born=false:=λr hr=>by
   have hnk:r∉rs3.keys:=λhx=>by
    rw[hkeys3,hkeys2,hkeys]at hx;have:=Zgj hv r (hk2 r hx);rw[hfresh r hr]at this;cases this
   rw[Ze4 hnk];exact hfresh r hr
  obtain⟨L3,a3,t3⟩:=Ziq (own:=own) (nx:=nx) hres houts st.rep hborn2 (λr hl b hb hx=>by
   rcases st.fp r hl b hx with⟨hl2,hx2⟩|hx2
   ·exact hdis (λb hb=>(hGG b (.inl hb)).1) hG12 r hl2 b hb hx2
   ·exact(hG3 b hx2).1 hb) (λb hb=>by
   obtain⟨_,h2,h3⟩:=hGG b (.inl hb);exact⟨h2,λhx=>h3 (.inl hx)⟩)
  refine⟨L3,Zu7 t3,?_⟩;have hN:∀r,¬newOf nx (resVals P own fn.resultTypes.toList out nx).2.2.length r→addNew (Zao M rs3) nx (resVals P own fn.resultTypes.toList out nx).2.2 r=Zao M rs3 r∧L3.hd r=L.hd r∧L3.fp r=Ls.fp r:=λr hr=>by
   obtain⟨e1,e2,e3⟩:=a3.old r hr;exact⟨e1,e2.trans ((st.hd r).trans ((hhd2 r).trans (mv.hd r))),e3⟩
  have hmut:∀r,r∈(mutCells (mts.map (·.1)) (H.muts f) tvs).flatMap C.roots→r∉inRoots mts tvs∧(M r).live=true∧(Zao M rs3 r).live=true∧(M r).gh<(Zao M rs3 r).gh∧(Zao M rs3 r).ga=(M r).ga∧(Zao M rs3 r).born=true∧(Zao M rs3 r).box=(M r).box∧(Zao M rs3 r).sz=(M r).sz∧(Zao M rs3 r).es.length=(M r).es.length∧((M r).box=true→(Zao M rs1 r).live=true)∧((M r).frz=false∧(Zao M rs3 r).pin=(M r).pin∧(M r).gh<(Zao M rs3 r).c0):=λr hr=>by
   obtain⟨a1,a2,ga,gh,q,n,sub,a3,a4⟩:=st.at_ r hr;obtain⟨rfl,e,hok,hpk,hni,hm2',hkey,hq⟩:=hcell a3;have hl:=Zar hok;obtain⟨s1,s2,s3,s4,s5,s6⟩:=st.shape r;obtain⟨k1,k2,k3⟩:=hkeep r;obtain⟨b1,b2⟩:=hborn1 r (hm.born r hl);rw[hm2']at s1 s2 s3 s4 a2;refine⟨hni,hl,a1,by omega,?_,s4.trans b1,s1.trans k1,s2.trans k2,s3.trans k3,λhbx=>?_,Zg7 hok,(st.marks r).1.trans ((congrArg Root.pin hm2').trans (mv.pins r)),by have:=(st.marks r).2 hr;rw[hm2']at this;omega⟩
   ·rw[a4];unfold okView at hok;simp only[Bool.and_eq_true,beq_iff_eq]at hok;exact hok.1.2.symm
   ·rcases hq with⟨_,hb⟩|⟨_,_,hl1⟩
    ·rw[hbx]at hb;cases hb
    ·exact hl1
  have hrest3:∀r,r∉(mutCells (mts.map (·.1)) (H.muts f) tvs).flatMap C.roots→Zao M rs3 r=Zao M rs2 r∧Ls.fp r=L2.fp r:=st.same;refine⟨a3.rep,hbel,λ_ h=>h,λb hb hn=>hframe b hb (λhx=>?_),λr hr=>?_,λr hr hl=>?_,λr hr hn=>?_,λr hl b hb=>?_,λb hb=>.inl hb,λr hr hl hl'=>?_,λr hr hl hbx=>?_⟩
  ·obtain⟨r,h1,h2,h3⟩:=hFM b hx;exact hn r h1 h2 h3
  ·obtain⟨e1,e2,_⟩:=hN r hr;rw[e1,e2];by_cases hmr:r∈(mutCells (mts.map (·.1)) (H.muts f) tvs).flatMap C.roots
   ·obtain⟨_,hl,hl3,hgh,hga,hbn,hbox,hsz,hlen,_,hfz⟩:=hmut r hmr;obtain⟨hfz,_,hc0⟩:=hfz;refine λhb=>⟨⟨hbn,by omega⟩,λga gh q hg ho hp=>?_,KeepF.no hfz⟩
    have hq:q=[]:=by
     unfold okView at ho;simp only[Bool.and_eq_true,Bool.or_eq_true,beq_iff_eq,List.isEmpty_iff]at ho;rcases ho.2 with h|h
     ·exact h
     ·match q,h with
      |[],_=>rfl
      |[(_,j)],h=>
       unfold headOk at h;simp only[Bool.and_eq_true,decide_eq_true_eq]at h;omega
      |_::_::_,h=>
       unfold headOk at h;simp only[beq_iff_eq]at h;omega
    subst hq;refine⟨?_,rfl,λsz es u hh=>?_⟩
    ·unfold okView at ho⊢;simp only[Bool.and_eq_true,Bool.or_eq_true,beq_iff_eq,List.isEmpty_nil,true_or,and_true]at ho⊢;exact⟨⟨hl,by rw[hfz];rfl⟩,by rw[←hga];exact ho.2⟩
    ·obtain⟨c1,c2⟩:=Za0 hh;unfold rootD at c1;injection c1 with _ c3 c4;subst c3 c4 c2;refine⟨(Zao M rs3 r).es,hlen,?_⟩;have:rootD (Zao M rs3 r)=.sl true (M r).sz (Zao M rs3 r).es:=by unfold rootD;rw[hsz]
     rw[this];exact .nil _ _
   rw[(hrest3 r hmr).1];have k1:=mv.keeps r;rw[mv.hd r]at k1;refine Zco k1 ?_;by_cases hin:r∈inRoots mts tvs
   ·have:=(hins r hin).1.keeps;rw[mv.hd r]at this;exact this
   ·rw[(hothers r hin).1];refine Zdv (S:=S) (F:=L1.fp r) (λhl=>⟨?_,hstill r hl hin⟩);have:=hm1.rep r hl;rw[mv.hd r]at this;exact this
  ·obtain⟨e1,_,_⟩:=hN r hr;rw[e1]at hl;by_cases hmr:r∈(mutCells (mts.map (·.1)) (H.muts f) tvs).flatMap C.roots
   ·exact(hmut r hmr).2.1
   rw[(hrest3 r hmr).1]at hl;by_cases hin:r∈inRoots mts tvs
   ·exact mv.live r (hlive r hin)
   ·rw[(hothers r hin).1]at hl;exact mv.live r hl
  ·obtain⟨e1,e2,e3⟩:=hN r hn;have hmr:r∉(mutCells (mts.map (·.1)) (H.muts f) tvs).flatMap C.roots:=λh=>hgR r hr (Zgg r h);obtain⟨c1,c2⟩:=hrest3 r hmr;obtain⟨b1,b2⟩:=hothers r (hkR r hr);have hsame:=mv.same r (hgR r hr);refine⟨by rw[e1,c1,b1,hsame],e2,λ_ b hb=>?_⟩
   rw[e3,c2,b2]at hb;rw[←mv.fpsame r (hgR r hr)];exact hb
  ·have hnewF:∀b,(F b∨w.heap.size≤b)→(∃r',(M r').live=true∧L.fp r' b)∨w.heap.size≤b:=λb h=>by
    rcases h with h|h
    ·obtain⟨r',_,h2,h3⟩:=hFM b h;exact .inl ⟨r',h2,h3⟩
    ·exact .inr h
   by_cases hr:newOf nx (resVals P own fn.resultTypes.toList out nx).2.2.length r
   ·exact hnewF b (hGG b (.inl (a3.fp r hr b hb))).1
   ·obtain⟨e1,e2,e3⟩:=hN r hr;rw[e1]at hl;rw[e3]at hb;rcases st.fp r hl b hb with⟨hl,hb⟩|hb
    ·by_cases hin:r∈inRoots mts tvs
     ·rcases(hins r hin).2 b hb with⟨h2,_⟩|h2
      ·exact .inl ⟨r,mv.live r (hlive r hin),mv.fp r (hlive r hin) b h2⟩
      ·exact hnewF b (hGG b (.inr h2)).1
     ·obtain⟨b1,b2⟩:=hothers r hin;rw[b1]at hl;rw[b2]at hb;exact .inl ⟨r,mv.live r hl,mv.fp r hl b hb⟩
    ·exact hnewF b (hGG3 b hb).1
  ·obtain⟨e1,e2,e3⟩:=hN r hr;rw[e1]at hl'⊢;obtain⟨k1,k2,k3⟩:=mv.keep r;have still1:(Zao M rs1 r).live=true→r∉inRoots mts tvs→Within w w' (L.hd r) ((M r).es.length*(M r).sz) (M r).pin:=λhl1 hin=>by
    refine Within.refl (λB off len cap he=>hstill r hl1 hin B ?_);have hrep:=hm1.rep r hl1;rw[mv.hd r,he]at hrep;obtain⟨F',_,_,_,_,hFF,_⟩:=Zbm hrep;exact(hFF B).2 (.inl rfl)
   by_cases hmr:r∈(mutCells (mts.map (·.1)) (H.muts f) tvs).flatMap C.roots
   ·obtain⟨hni,_,_,_,_,_,hbox,hsz,hlen,hl1,_,hpn,_⟩:=hmut r hmr;exact⟨e2,hbox,hsz,hlen,hpn,λhbx=>still1 (hl1 hbx) hni⟩
   rw[(hrest3 r hmr).1]at hl'⊢;by_cases hin:r∈inRoots mts tvs
   ·obtain⟨bk,_⟩:=hins r hin;obtain⟨s1,s2,s3⟩:=bk.same;refine⟨e2,s1.trans k1,s2.trans k2,s3.trans k3,bk.pins.trans (mv.pins r),λ_=>?_⟩;have:=bk.within;rw[mv.hd r,k2,k3,mv.pins r]at this;exact this
   ·obtain⟨b1,_⟩:=hothers r hin;rw[b1]at hl'⊢;exact⟨e2,k1,k2,k3,mv.pins r,λ_=>still1 hl' hin⟩
  ·obtain⟨e1,_,_⟩:=hN r hr;rw[e1];by_cases hmr:r∈(mutCells (mts.map (·.1)) (H.muts f) tvs).flatMap C.roots
   ·exact(hmut r hmr).2.2.1
   rw[(hrest3 r hmr).1];by_cases hin:r∈inRoots mts tvs
   ·exact(hins r hin).1.live
   ·rw[(hothers r hin).1];exact mv.box r hl hbx
 |_=>exact he.elim
end
end Go.Ev
