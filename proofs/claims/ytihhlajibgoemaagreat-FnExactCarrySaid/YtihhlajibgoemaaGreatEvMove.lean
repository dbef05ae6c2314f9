/- Moving away: what was owned by a place is owned by what is moved. -/
import Derived.Test.YtihhlajibgoemaaGreatEvMem
namespace Go.Ev
set_option linter.unusedVariables false
def Zao(M:Mem)(rs:Look):Mem:=λr=>match rs.find? (λx=>x.1==r)with|some x=>x.2|none=>M r
theorem Za8{M:Mem}{rs:Look}{r:Nat}(h:(rs.get r).live=true):Zao M rs r=rs.get r:=by
 unfold Zao Look.get at *;cases hf:rs.find? (λx=>x.1==r)with
 |some x=>simp
 |none=>simp only[hf]at h;cases h
theorem Zkd{rs:Look}{r:Nat}{x:Root}(k:Nat):(rs.put r x).find? (λy=>y.1==k)=match rs.find? (λy=>y.1==k)with|some y=>some (if k=r then(r,x)else y)|none=>none:=by
 unfold Look.put;induction rs with
 |nil=>rfl
 |cons a rs ih=>
  obtain⟨i,y⟩:=a;rw[List.map_cons,List.find?_cons,List.find?_cons];by_cases hr:i=r
  ·subst hr;by_cases hk:i=k
   ·subst hk;simp
   ·have hk':¬k=i:=λh=>hk h.symm;simp only[beq_self_eq_true,if_true];have:(i==k)=false:=by simpa using hk
    simp only[this];exact ih
  ·by_cases hk:i=k
   ·subst hk;simp[hr]
   ·have:(i==k)=false:=by simpa using hk
    have h2:(i==r)=false:=by simpa using hr
    simp only[h2,Bool.false_eq_true,if_false,this];exact ih
theorem Ze5{M:Mem}{rs:Look}{r:Nat}{x:Root}(h:(rs.get r).live=true)(k:Nat):Zao M (rs.put r x) k=if k=r then x else Zao M rs k:=by
 unfold Zao;rw[Zkd];cases hf:rs.find? (λy=>y.1==k)with
 |some y=>by_cases hk:k=r<;>simp[hk]
 |none=>
  by_cases hk:k=r
  ·subst hk;unfold Look.get at h;rw[hf]at h;cases h
  ·simp[hk]
theorem Z27{rs:Look}{r:Nat}{x:Root}(h:(rs.get r).live=true)(k:Nat):(rs.put r x).get k=if k=r then x else rs.get k:=by
 have:=Ze5 (M:=λ_=>deadRoot) (x:=x) h k;unfold Zao at this;unfold Look.get;exact this
def Look.keys(rs:Look):List Nat:=rs.map (·.1)
theorem Zd8(rs:Look)(r:Nat)(x:Root):(rs.put r x).keys=rs.keys:=by
 unfold Look.keys Look.put;rw[List.map_map];apply List.map_congr_left;intro y _;by_cases h:y.1=r
 ·simp[h]
 ·simp[h]
theorem Z24{rs:Look}{r:Nat}(h:(rs.get r).live=true):r∈rs.keys:=by
 unfold Look.get at h;cases hf:rs.find? (λx=>x.1==r)with
 |some x=>
  have h1:=List.mem_of_find?_eq_some hf;have h2:=List.find?_some hf;unfold Look.keys;exact List.mem_map.2 ⟨x,h1,by simpa using h2⟩
 |none=>rw[hf]at h;cases h
theorem Ze4{M:Mem}{rs:Look}{r:Nat}(h:r∉rs.keys):Zao M rs r=M r:=by
 unfold Zao;cases hf:rs.find? (λx=>x.1==r)with
 |some x=>
  have h1:=List.mem_of_find?_eq_some hf;have h2:=List.find?_some hf;exact absurd (List.mem_map.2 ⟨x,h1,by simpa using h2⟩) h
 |none=>rfl
abbrev cellAt(es:List (List D))(i j:Nat):D:=(es.getD i []).getD j .dead
def set2(es:List (List D))(a b:Nat)(d:D):List (List D):=es.set a ((es.getD a []).set b d)
theorem Zbk(es:List (List D))(a b:Nat)(d:D):(set2 es a b d).length=es.length:=by simp[set2]
theorem Zbf{α:Type}(l:List α){i k:Nat}(x z:α)(h:k≠i):(l.set i x).getD k z=l.getD k z:=by
 rw[List.getD_eq_getElem?_getD,List.getD_eq_getElem?_getD,List.getElem?_set_ne (Ne.symm h)]
theorem Zks(es:List (List D))(a b:Nat)(d:D)(i:Nat):(set2 es a b d).getD i []=if i=a∧a<es.length then(es.getD a []).set b d else es.getD i []:=by
 unfold set2;by_cases h:i=a
 ·subst h;by_cases hl:i<es.length
  ·rw[Zat _ _ _ _ hl];simp[hl]
  ·rw[List.set_eq_of_length_le (by omega)];simp[hl]
 ·rw[Zbf _ _ _ h];simp[h]
theorem Zbd(es:List (List D))(a b:Nat)(d:D)(i:Nat):((set2 es a b d).getD i []).length=(es.getD i []).length:=by
 rw[Zks];split
 ·rename_i h;rw[List.length_set,h.1]
 ·rfl
theorem Zcq{es:List (List D)}{a b:Nat}{d:D}(ha:a<es.length)(hb:b<(es.getD a []).length):cellAt (set2 es a b d) a b=d:=by
 unfold cellAt;rw[Zks,if_pos ⟨rfl,ha⟩,Zat _ _ _ _ hb]
theorem Zef{es:List (List D)}{a b:Nat}{d:D}{i j:Nat}(h:¬(i=a∧j=b)):cellAt (set2 es a b d) i j=cellAt es i j:=by
 unfold cellAt;rw[Zks];split
 ·rename_i h2;rw[Zbf _ _ _ (λhj=>h ⟨h2.1,hj⟩),h2.1]
 ·rfl
theorem Zc3{α:Type}:∀(l:List α) (i:Nat) (z:α),l.set i (l.getD i z)=l
 |[],_,_=>rfl
 |x::l,0,_=>rfl
 |x::l,i+1,z=>by
  have:=Zc3 l i z;simpa using this
theorem Zl4(es:List (List D))(a b:Nat):set2 es a b (cellAt es a b)=es:=by
 unfold set2 cellAt;rw[Zc3,Zc3]
def killCell(es:List (List D))(a b:Nat)(p:Path):D:=
 match p with
 |[]=>.dead
 |_=>match cellAt es a b with |.sl o n es'=>.sl o n (killAt es' p)|d=>d
theorem Zic(es:List (List D))(a b:Nat)(p:Path):killAt es ((a,b)::p)=set2 es a b (killCell es a b p):=by
 cases p with
 |nil=>rfl
 |cons x p=>
  show(match cellAt es a b with |.sl o n es'=>_|_=>es)=_
  unfold killCell;cases hd:cellAt es a b with
  |sl o n es'=>rfl
  |_=>simp only[];rw[←hd,Zl4]
theorem Zf5(es:List (List D))(q:Path):(killAt es q).length=es.length:=by
 match q with
 |[]=>rfl
 |(a,b)::p=>rw[Zic,Zbk]
theorem Zfm{w:World}:∀(q0:Path) {q:Path} {n:Nat} {es:List (List D)} {v:Value},pathOk (killAt es q0) q=true→
  pathOk es q=true∧∀{sz:Nat} {es1:List (List D)} {u:Value},HeadAt w (.sl true n es) v q (.sl true sz es1) u→
   ∃es1',es1'.length=es1.length∧HeadAt w (.sl true n (killAt es q0)) v q (.sl true sz es1') u
 |[],q,n,es,v,h=>⟨h,λhh=>⟨_,rfl,hh⟩⟩
 |(a,b)::p0,[],n,es,v,h=>by
  refine⟨rfl,λ{sz es1 u} hh=>?_⟩;cases hh;exact⟨_,Zf5 _ _,.nil _ _⟩
 |(a,b)::p0,(i,j)::p,n,es,v,h=>by
  rw[Zic]at h⊢;unfold pathOk at h⊢;simp only[Bool.and_eq_true]at h⊢;by_cases hij:i=a∧j=b
  ·obtain⟨rfl,rfl⟩:=hij;obtain⟨hi,hj,n1,es1,hd⟩:=Zfo h.1;rw[Zbk]at hi;rw[Zbd]at hj;have hc:cellAt (set2 es i j (killCell es i j p0)) i j=killCell es i j p0:=Zcq hi hj;have hd':killCell es i j p0=.sl true n1 es1:=hc.symm.trans hd;have h2:=h.2;change pathOk (cellAt (set2 es i j (killCell es i j p0)) i j).rows p=true at h2;rw[hc]at h2;cases p0 with
   |nil=>cases hd'
   |cons x p0=>
    unfold killCell at hd' h2;cases hce:cellAt es i j with
    |sl o n2 es2=>
     rw[hce]at hd' h2;injection hd' with e1 e2 e3;subst e1 e2;obtain⟨k1,k2⟩:=Zfm (w:=w) (x::p0) (n:=n2) (es:=es2) (v:=v) h2;refine⟨⟨by show(cellAt es i j).isOwn=true;rw[hce];rfl,by show pathOk (cellAt es i j).rows p=true;rw[hce];exact k1⟩,λ{sz es3 u} hh=>?_⟩
     cases hh with
     |@cons _ _ B off len cap _ _ v1 _ _ _ hi hj hcell hp=>
      change HeadAt w (cellAt es i j) v1 p (.sl true sz es3) u at hp;rw[hce]at hp;obtain⟨_,k3⟩:=Zfm (w:=w) (x::p0) (n:=n2) (es:=es2) (v:=v1) h2;obtain⟨es3',l3,h3⟩:=k3 hp;refine⟨es3',l3,.cons (by rw[Zbk];exact hi) (by rw[Zbd];exact hj) hcell ?_⟩
      show HeadAt w (cellAt (set2 es i j (killCell es i j (x::p0))) i j) v1 p _ u;rw[Zcq hi hj];unfold killCell;rw[hce];exact h3
    |_=>rw[hce]at hd';cases hd'
  ·have hc:cellAt (set2 es a b (killCell es a b p0)) i j=cellAt es i j:=Zef hij;have h1:(cellAt (set2 es a b (killCell es a b p0)) i j).isOwn=true:=h.1;have h2:pathOk (cellAt (set2 es a b (killCell es a b p0)) i j).rows p=true:=h.2;rw[hc]at h1 h2;refine⟨⟨h1,h2⟩,λ{sz es3 u} hh=>?_⟩;cases hh with
   |@cons _ _ B off len cap _ _ v1 _ _ _ hi hj hcell hp=>
    refine⟨es3,rfl,.cons (by rw[Zbk];exact hi) (by rw[Zbd];exact hj) hcell ?_⟩
    show HeadAt w (cellAt (set2 es a b (killCell es a b p0)) i j) v1 p _ u;rw[hc];exact hp
theorem Za0{w:World}{d d':D}{v v':Value}(h:HeadAt w d v [] d' v'):d'=d∧v'=v:=by
 cases h;exact⟨rfl,rfl⟩
theorem Zjx{w:World}{S:FP}{es:List (List D)}{B off sz:Nat}{F:FP}(o n:Nat)(h:repRows w S es B off sz F)(hle:o+n≤es.length):
  ∃G,repRows w S ((es.drop o).take n) B (off+o*sz) sz G∧∀b,G b→F b:=by
 have e:es=es.take o++((es.drop o).take n++es.drop (o+n)):=by
  rw[←List.drop_drop,List.take_append_drop,List.take_append_drop]
 rw[e]at h;obtain⟨F1,F2,h1,h2,h3,h4⟩:=Zcc.1 h;obtain⟨F3,F4,k1,k2,k3,k4⟩:=Zcc.1 h2;have l1:(es.take o).length=o:=by rw[List.length_take];omega
 rw[l1]at k1;exact⟨F3,k1,λb hb=>(h3 b).2 (.inr ((k3 b).2 (.inl hb)))⟩
theorem Zkq{w:World}{S:FP}{es:List (List D)}{A:Option Addr}{len cap sz:Nat}{F:FP}{sub:Option (Nat×Nat)}{v:Value}
  (h:repD w S (.sl true sz es) (.slice A len cap) F) (hs:subHead A len cap sz sub v):∃G,repD w S (.sl true sz (subRows es sub)) v G∧∀b,G b→F b:=by
 cases sub with
 |none=>rw[show v=.slice A len cap from hs];exact⟨F,h,λb hb=>hb⟩
 |some on=>
  obtain⟨o,n⟩:=on;obtain⟨A',cap',he,hcap,h⟩:=h;injection he with e1 e2 e3;subst e1 e2 e3;obtain⟨hle,hs⟩:=hs;have hl:((es.drop o).take n).length=n:=by rw[List.length_take,List.length_drop];omega
  rcases h with⟨hA,hnil,_,hF⟩|⟨B,off,F',hA,hr,hown⟩
  ·have hA:=hA.resolve_right (by simp)
   subst hA hnil;rcases hs with⟨_,_,rfl⟩|⟨B,off,off',cap',hx,_⟩
   ·exact⟨F,⟨none,0,by simp[subRows],by simp[subRows],.inl ⟨.inl rfl,by simp[subRows],rfl,hF⟩⟩,λb hb=>hb⟩
   ·cases hx
  ·subst hA;rcases hs with⟨hx,_⟩|⟨B',off0,off',cap',hx,rfl,hn,hoff,hlo,hhi⟩
   ·cases hx
   injection hx with hx;injection hx with hB hO;subst hB hO;rcases hown with⟨_,hnB,hF,⟨cs,t,hb1,hb2⟩,hb3⟩|⟨ho,_⟩
   ·obtain⟨G,hG,hsub⟩:=Zjx o n hr hle;have hG':∃G',repRows w S ((es.drop o).take n) B off' sz G'∧∀b,G' b→F' b:=by
     rcases hoff with hz|hoff
     ·subst hz;exact⟨λ_=>False,by simp[repRows],λb hb=>hb.elim⟩
     ·rw[hoff];exact⟨G,hG,hsub⟩
    obtain⟨G',hr',hsub'⟩:=hG';refine⟨λb=>b=B∨G' b,⟨_,cap',by rw[subRows,hl],by rw[subRows,hl];exact hn,.inr ⟨B,off',G',rfl,hr',.inl ⟨rfl,λhb=>hnB (hsub' _ hb),λb=>Iff.rfl,⟨cs,t,hb1,by omega⟩,by omega⟩⟩⟩,λb hb=>(hF b).2 ?_⟩
    rcases hb with hb|hb
    ·exact .inl hb
    ·exact .inr (hsub' _ hb)
   ·cases ho
structure Moves(w:World)(S:FP)(M M':Mem)(L L':Lay)(R:List Nat)(G:FP):Prop where
 rep:MemRep w S M' L'
 hd:∀r,L'.hd r=L.hd r
 live:∀r,(M' r).live=true→(M r).live=true
 fp:∀r,(M' r).live=true→∀b,L'.fp r b→L.fp r b
 keeps:∀r,Keeps w w (M r) (M' r) (L.hd r) (L'.hd r)
 out:∀b,G b→∃r,r∈R∧(M r).live=true∧L.fp r b
 apart:∀r,(M' r).live=true→∀b,G b→¬L'.fp r b
 same:∀r,r∉R→M' r=M r
 box:∀r,(M r).live=true→(M r).box=true→(M' r).live=true
 keep:∀r,(M' r).box=(M r).box∧(M' r).sz=(M r).sz∧(M' r).es.length=(M r).es.length
 fpsame:∀r,r∉R→L'.fp r=L.fp r
 pins:∀r,(M' r).pin=(M r).pin
theorem Moves.refl{w:World}{S:FP}{M:Mem}{L:Lay}(h:MemRep w S M L)(R:List Nat):Moves w S M M L L R (λ_=>False):=
 ⟨h,λ_=>rfl,λ_ h=>h,λ_ _ _ h=>h,λr=>Zc5 _ _ _,λ_ h=>h.elim,λ_ _ _ h=>h.elim,λ_ _=>rfl,λ_ h _=>h,λ_=>⟨rfl,rfl,rfl⟩,λ_ _=>rfl,λ_=>rfl⟩
theorem Moves.trans{w:World}{S:FP}{M M1 M2:Mem}{L L1 L2:Lay}{R1 R2 R:List Nat}{G1 G2:FP}(a:Moves w S M M1 L L1 R1 G1)(b:Moves w S M1 M2 L1 L2 R2 G2)(h1:∀r∈R1,r∈R)(h2:∀r∈R2,r∈R):
  Moves w S M M2 L L2 R (λx=>G1 x∨G2 x)∧∀x,G1 x→¬G2 x:=by
 refine⟨⟨b.rep,λr=>(b.hd r).trans (a.hd r),λr h=>a.live r (b.live r h),λr h x hx=>a.fp r (b.live r h) x (b.fp r h x hx),λr=>Zco (a.keeps r) (b.keeps r),?_,?_,?_,λr h hb=>b.box r (a.box r h hb) (by rw[(a.keep r).1];exact hb),λr=>⟨(b.keep r).1.trans (a.keep r).1,(b.keep r).2.1.trans (a.keep r).2.1,(b.keep r).2.2.trans (a.keep r).2.2⟩,λr hr=>(b.fpsame r (λh=>hr (h2 r h))).trans (a.fpsame r (λh=>hr (h1 r h))),λr=>(b.pins r).trans (a.pins r)⟩,?_⟩
 ·rintro x (hx|hx)
  ·obtain⟨r,hr,hl,hf⟩:=a.out x hx;exact⟨r,h1 r hr,hl,hf⟩
  ·obtain⟨r,hr,hl,hf⟩:=b.out x hx;exact⟨r,h2 r hr,a.live r hl,a.fp r hl x hf⟩
 ·intro r hl x hx hf;rcases hx with hx|hx
  ·exact a.apart r (b.live r hl) x hx (b.fp r hl x hf)
  ·exact b.apart r hl x hx hf
 ·intro r hr;rw[b.same r (λh=>hr (h2 r h)),a.same r (λh=>hr (h1 r h))]
 ·intro x hx hx2;obtain⟨r,_,hl,hf⟩:=b.out x hx2;exact a.apart r hl x hx hf
theorem Ze2{w:World}{S:FP}{M:Mem}{L:Lay}{rs rs':Look}{c:C}{v:Value}{d:D}(hm:MemRep w S (Zao M rs) L)(hc:cRep w S (Zao M rs) L c v)(he:c.move rs=some (true,d,rs')):
  ∃G L',repD w S d v G∧Moves w S (Zao M rs) (Zao M rs') L L' c.roots G∧rs'.keys=rs.keys:=by
 cases c with
 |d x=>
  simp only[C.move,Option.some.injEq,Prod.mk.injEq]at he;obtain⟨_,rfl,rfl⟩:=he;exact⟨_,L,hc.2,Moves.refl hm _,rfl⟩
 |nils n=>
  simp only[C.move,Option.some.injEq,Prod.mk.injEq]at he;obtain⟨_,rfl,rfl⟩:=he;refine⟨λ_=>False,L,⟨none,0,hc,Nat.le_refl _,.inl ⟨.inl rfl,rfl,rfl,λ_ h=>h⟩⟩,Moves.refl hm _,rfl⟩
 |view r ga gh q sz sub=>
  simp only[C.move]at he;split at he
  ·rename_i hok;have hlive:=Zar hok;have hov:Zao M rs r=rs.get r:=Za8 hlive;obtain⟨hborn,_,hv⟩:=hc;rw[hov]at hv;have hrl:(Zao M rs r).live=true:=by rw[hov];exact hlive
   have hrep:=hm.rep r hrl;cases q with
   |nil=>
    simp only[]at he;split at he
    ·cases he
    ·rename_i hbox;simp only[Option.some.injEq,Prod.mk.injEq]at he;obtain⟨_,rfl,rfl⟩:=he;obtain⟨es,A,len,cap,hh,hs⟩:=hv hok rfl;obtain⟨hh1,hh2⟩:=Za0 hh;rw[hov]at hrep;rw[←hh1,←hh2]at hrep;obtain⟨G,hG,hsub⟩:=Zkq hrep hs;have hes:es=(rs.get r).es:=by unfold rootD at hh1;injection hh1
     rw[hes]at hG;have hov2:∀k,Zao M (rs.put r { rs.get r with live:=false }) k=if k=r then { rs.get r with live:=false }else Zao M rs k:=Ze5 hlive;have hlv:∀k,(Zao M (rs.put r { rs.get r with live:=false }) k).live=true→k≠r∧Zao M (rs.put r { rs.get r with live:=false }) k=Zao M rs k:=λk hk=>by
      rw[hov2 k]at hk⊢;by_cases hkr:k=r
      ·rw[if_pos hkr]at hk;cases hk
      ·rw[if_neg hkr];exact⟨hkr,rfl⟩
     refine⟨G,L,hG,⟨⟨λk hk=>?_,λk hk=>?_,λk hk=>?_,λk k' hk hk' hne=>?_,hm.lent⟩,λ_=>rfl,λk hk=>?_,λk hk b hb=>hb,λk=>?_,λb hb=>⟨r,by simp[C.roots],hrl,hsub b hb⟩,λk hk b hb=>?_,λk hk=>?_,λk hk hb=>?_,λk=>?_,λ_ _=>rfl,λk=>?_⟩,Zd8 _ _ _⟩
     ·obtain⟨h1,h2⟩:=hlv k hk;rw[h2]at hk ⊢;exact hm.rep k hk
     ·obtain⟨h1,h2⟩:=hlv k hk;rw[h2]at hk ⊢;exact hm.born k hk
     ·obtain⟨h1,h2⟩:=hlv k hk;rw[h2]at hk;exact hm.own k hk
     ·obtain⟨h1,h2⟩:=hlv k hk;obtain⟨h1',h2'⟩:=hlv k' hk';rw[h2]at hk;rw[h2']at hk';exact hm.apart k k' hk hk' hne
     ·obtain⟨h1,h2⟩:=hlv k hk;rw[h2]at hk;exact hk
     ·by_cases hkr:k=r
      ·subst hkr;refine Zp2 ?_ ?_ ?_ ?_
       ·rw[hov2 k,if_pos rfl]
       ·rw[hov2 k,if_pos rfl,hov];exact λh=>h
       ·rw[hov2 k,if_pos rfl,hov];exact Nat.le_refl _
       ·rw[hov2 k,if_pos rfl,hov];exact λh=>h
      ·rw[hov2 k,if_neg hkr];exact Zc5 _ _ _
     ·obtain⟨h1,h2⟩:=hlv k hk;rw[h2]at hk;exact hm.apart r k hrl hk (Ne.symm h1) b (hsub b hb)
     ·rw[hov2 k,if_neg (λh=>hk (by simp[C.roots,h]))]
     ·rw[hov2 k];by_cases hkr:k=r
      ·subst hkr;rw[hov]at hb;exact absurd hb hbox
      ·rw[if_neg hkr];exact hk
     ·rw[hov2 k];by_cases hkr:k=r
      ·subst hkr;rw[if_pos rfl,hov];exact⟨rfl,rfl,rfl⟩
      ·rw[if_neg hkr];exact⟨rfl,rfl,rfl⟩
     ·rw[hov2 k];by_cases hkr:k=r
      ·subst hkr;rw[if_pos rfl,hov]
      ·rw[if_neg hkr]
   |cons ij q=>
    simp only[Option.some.injEq,Prod.mk.injEq]at he;obtain⟨hp,rfl,rfl⟩:=he;obtain⟨es,A,len,cap,hh,hs⟩:=hv hok hp;have hrows:rowsAt (rs.get r).es (ij::q)=es:=by
     have:=Zdj hh;exact this.symm
    rw[hov]at hrep;obtain⟨G0,R,hG0,hF,hd,back⟩:=Zc7 hh hrep;obtain⟨G,hG,hsub⟩:=Zkq hG0 hs;have hput:=Zjk hh (by simp) (rfl:rootD (rs.get r)=.sl true (rs.get r).sz (rs.get r).es)
    obtain⟨hrep',_⟩:=back (w':=w) (S':=S) (d2:=.dead) (G':=λ_=>False) (λb hb=>⟨hb,rfl⟩) (λb hb=>rfl) ⟨rfl,λb hb=>hb⟩ (λb hb=>hb.elim);rw[hput]at hrep';have hrep2:repD w S (.sl true (rs.get r).sz (killAt (rs.get r).es (ij::q))) (L.hd r) R:=Zhb hrep' (λb=>by simp)
    let L':Lay:=⟨L.hd,λk=>if k=r then R else L.fp k⟩;have hov2:∀k,Zao M (rs.put r { rs.get r with es:=killAt (rs.get r).es (ij::q) }) k=if k=r then { rs.get r with es:=killAt (rs.get r).es (ij::q) }else Zao M rs k:=Ze5 hlive;have hlv:∀k,(Zao M (rs.put r { rs.get r with es:=killAt (rs.get r).es (ij::q) }) k).live=true→(Zao M rs k).live=true:=λk hk=>by
     rw[hov2 k]at hk;by_cases hkr:k=r
     ·subst hkr;rw[hov];exact hlive
     ·rw[if_neg hkr]at hk;exact hk
    have hfp:∀k b,L'.fp k b→L.fp k b:=λk b hb=>by
     by_cases hkr:k=r
     ·subst hkr;have:R b:=by simpa[L']using hb
      exact(hF b).2 (.inr this)
     ·simpa[L',hkr]using hb
    rw[hrows];refine⟨G,L',hG,⟨⟨λk hk=>?_,λk hk=>?_,λk hk b hb=>hm.own k (hlv k hk) b (hfp k b hb),λk k' hk hk' hne b hb hb'=>hm.apart k k' (hlv k hk) (hlv k' hk') hne b (hfp k b hb) (hfp k' b hb'),hm.lent⟩,λ_=>rfl,hlv,λk hk b hb=>hfp k b hb,λk=>?_,λb hb=>⟨r,by simp[C.roots],hrl,(hF b).2 (.inl (hsub b hb))⟩,λk hk b hb hb'=>?_,λk hk=>?_,λk hk hb=>?_,λk=>?_,λk hk=>if_neg (λh=>hk (by simp[C.roots,h])),λk=>?_⟩,Zd8 _ _ _⟩
    ·rw[hov2 k];by_cases hkr:k=r
     ·subst hkr;simp only[if_true,L'];exact hrep2
     ·simp only[if_neg hkr,L'];exact hm.rep k (hlv k hk)
    ·rw[hov2 k];by_cases hkr:k=r
     ·subst hkr;rw[if_pos rfl];have:=hm.born k hrl;rw[hov]at this;exact this
     ·rw[if_neg hkr];exact hm.born k (hlv k hk)
    ·by_cases hkr:k=r
     ·subst hkr;rw[hov2 k,if_pos rfl,hov];intro hb;refine⟨⟨hb,Nat.le_refl _⟩,λga' gh' q' _ ho' hp'=>?_,λhf=>⟨hf,λhl=>⟨hl,rfl,λ_ _ _ _ _=>rfl⟩⟩⟩;obtain⟨k1,k2⟩:=Zfm (w:=w) (ij::q) (q:=q') (n:=(rs.get k).sz) (es:=(rs.get k).es) (v:=L.hd k) hp';exact⟨ho',k1,λsz' es' v' hh'=>k2 hh'⟩
     ·rw[hov2 k,if_neg hkr];exact Zc5 _ _ _
    ·by_cases hkr:k=r
     ·subst hkr;have hR:R b:=by simpa[L']using hb'
      exact hd b (hsub b hb) hR
     ·exact hm.apart r k hrl (hlv k hk) (Ne.symm hkr) b ((hF b).2 (.inl (hsub b hb))) (hfp k b hb')
    ·rw[hov2 k,if_neg (λh=>hk (by simp[C.roots,h]))]
    ·rw[hov2 k];by_cases hkr:k=r
     ·subst hkr;rw[if_pos rfl];exact hlive
     ·rw[if_neg hkr];exact hk
    ·rw[hov2 k];by_cases hkr:k=r
     ·subst hkr;rw[if_pos rfl,hov];exact⟨rfl,rfl,Zf5 _ _⟩
     ·rw[if_neg hkr];exact⟨rfl,rfl,rfl⟩
    ·rw[hov2 k];by_cases hkr:k=r
     ·subst hkr;rw[if_pos rfl,hov]
     ·rw[if_neg hkr]
  ·cases he
 |ptr r ga gh q sz i j=>cases he
 |rptr xs=>cases he
 |undef=>cases he
 |gone=>cases he
 |nz p=>cases he
theorem Z0q{rs rs':Look}{c:C}{b:Bool}{d:D}(h:c.move rs=some (b,d,rs'))(hb:b=true):c.move rs=some (true,d,rs'):=by rw[hb]at h;exact h
def datRep(w:World)(S:FP):List D→List Value→FP→Prop
 |[],[],F=>∀b,¬F b
 |d::ds,v::vs,F=>∃F1 F2,repD w S d v F1∧datRep w S ds vs F2∧(∀b,F b↔F1 b∨F2 b)∧∀b,F1 b→¬F2 b
 |_,_,_=>False
theorem Za4{w:World}{S:FP}:∀{ds:List D} {vs:List Value} {F:FP},datRep w S ds vs F→ds.length=vs.length
 |[],[],_,_=>rfl
 |d::ds,v::vs,_,⟨_,_,_,h,_⟩=>by simp[Za4 h]
 |[],_::_,_,h=>h.elim
 |_::_,[],_,h=>h.elim
theorem Zb4{w:World}{S:FP}{M:Mem}:∀{cs:List C} {vs:List Value} {L:Lay} {rs rs':Look} {ds:List D},MemRep w S (Zao M rs) L→cellsRep w S (Zao M rs) L cs vs→moveAll cs rs=some (true,ds,rs')→
  ∃G L',datRep w S ds vs G∧Moves w S (Zao M rs) (Zao M rs') L L' (cs.flatMap C.roots) G∧rs'.keys=rs.keys
 |[],[],L,rs,rs',ds,hm,_,he=>by
  simp only[moveAll,Option.some.injEq,Prod.mk.injEq]at he;obtain⟨_,rfl,rfl⟩:=he;exact⟨λ_=>False,L,λ_ h=>h,Moves.refl hm _,rfl⟩
 |c::cs,v::vs,L,rs,rs',ds,hm,hc,he=>by
  obtain⟨hc1,hc2⟩:=hc;simp only[moveAll]at he;split at he
  ·rename_i b d rs1 h1;split at he
   ·rename_i b' ds1 rs2 h2;simp only[Option.some.injEq,Prod.mk.injEq,Bool.and_eq_true]at he;obtain⟨⟨rfl,rfl⟩,rfl,rfl⟩:=he;obtain⟨G1,L1,r1,m1,k1⟩:=Ze2 hm hc1 h1;have hc2':cellsRep w S (Zao M rs1) L1 cs vs:=Zb0 (λc v h=>Zbw (λb hb=>⟨hb,rfl⟩) m1.keeps h) hc2;obtain⟨G2,L2,r2,m2,k2⟩:=Zb4 m1.rep hc2' h2;obtain⟨m,hdis⟩:=Moves.trans m1 m2 (R:=(c::cs).flatMap C.roots) (λr hr=>by rw[List.flatMap_cons];exact List.mem_append_left _ hr) (λr hr=>by rw[List.flatMap_cons];exact List.mem_append_right _ hr)
    exact⟨_,L2,⟨G1,G2,r1,r2,λb=>Iff.rfl,hdis⟩,m,k2.trans k1⟩
   ·cases he
  ·cases he
 |[],_::_,L,rs,rs',ds,hm,h,he=>h.elim
 |_::_,[],L,rs,rs',ds,hm,h,he=>h.elim
end Go.Ev
