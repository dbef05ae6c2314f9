/- A function: entered, run, left. -/
import Derived.Test.YtihhlajibgoemaaGreatEvHead
namespace Go.Ev
open Go.RowKit
set_option linter.unusedVariables false
set_option linter.unusedSimpArgs false
structure Takes(w:World)(S:FP)(M M':Mem)(L L':Lay)(G:FP):Prop where
 rep:MemRep w S M' L'
 hd:∀r,L'.hd r=L.hd r
 live:∀r,(M' r).live=true→(M r).live=true
 fp:∀r,(M' r).live=true→∀b,L'.fp r b→L.fp r b
 keeps:∀r,Keeps w w (M r) (M' r) (L.hd r) (L'.hd r)
 out:∀b,G b→∃r,(M r).live=true∧L.fp r b
 apart:∀r,(M' r).live=true→∀b,G b→¬L'.fp r b
 keep:∀r,(M' r).box=(M r).box∧(M' r).sz=(M r).sz∧(M' r).es.length=(M r).es.length
section
variable {P : Program} {w : World} {S : FP}
theorem Moves.takes{M M':Mem}{L L':Lay}{R:List Nat}{G:FP}(h:Moves w S M M' L L' R G):Takes w S M M' L L' G:=
 ⟨h.rep,h.hd,h.live,h.fp,h.keeps,λb hb=>by obtain⟨r,_,h1,h2⟩:=h.out b hb;exact⟨r,h1,h2⟩,h.apart,h.keep⟩
theorem Takes.refl{M:Mem}{L:Lay}(h:MemRep w S M L):Takes w S M M L L (λ_=>False):=(Moves.refl h []).takes
theorem Takes.trans{M M1 M2:Mem}{L L1 L2:Lay}{G1 G2:FP}(a:Takes w S M M1 L L1 G1)(b:Takes w S M1 M2 L1 L2 G2):
  Takes w S M M2 L L2 (λx=>G1 x∨G2 x)∧∀x,G1 x→¬G2 x:=by
 refine⟨⟨b.rep,λr=>(b.hd r).trans (a.hd r),λr h=>a.live r (b.live r h),λr h x hx=>a.fp r (b.live r h) x (b.fp r h x hx),λr=>Zco (a.keeps r) (b.keeps r),?_,?_,λr=>⟨(b.keep r).1.trans (a.keep r).1,(b.keep r).2.1.trans (a.keep r).2.1,(b.keep r).2.2.trans (a.keep r).2.2⟩⟩,?_⟩
 ·rintro x (hx|hx)
  ·exact a.out x hx
  ·obtain⟨r,hl,hf⟩:=b.out x hx;exact⟨r,a.live r hl,a.fp r hl x hf⟩
 ·intro r hl x hx hf;rcases hx with hx|hx
  ·exact a.apart r (b.live r hl) x hx (b.fp r hl x hf)
  ·exact b.apart r hl x hx hf
 ·intro x hx hx2;obtain⟨r,hl,hf⟩:=b.out x hx2;exact a.apart r hl x hx hf
def resOne(P:Program)(w:World)(tm:Nat→Value):ResultVar→Value→Prop
 |.tmp t,v=>v=tm t
 |.cell a ty,v=>∃x,(asAddr (tm a)).run P w=.ok x w∧(loadVar ty x).run P w=.ok v w
def resAll(P:Program)(w:World)(tm:Nat→Value):List ResultVar→List Value→Prop
 |[],[]=>True
 |r::rs,v::vs=>resOne P w tm r v∧resAll P w tm rs vs
 |_,_=>False
def resSem(tmps:Array Value):ResultVar→Sem Value
 |.tmp t=>pure (tmps.getD t undef)
 |.cell a t=>do loadVar t (←asAddr (tmps.getD a undef))
theorem Zmt{fn:Func}{tmps:Array Value}{us:List Value}(h:resAll P w (λt=>tmps.getD t undef) fn.results.toList us):(results fn tmps).run P w=.ok (resVal us) w:=by
 have key:∀(l:List ResultVar) (us:List Value),resAll P w (λt=>tmps.getD t undef) l us→(l.mapM (resSem tmps)).run P w=.ok us w:=by
  intro l;induction l with
  |nil=>intro us h;cases us with|nil=>rfl|cons _ _=>exact h.elim
  |cons r l ih=>
   intro us h;cases us with
   |nil=>exact h.elim
   |cons u us=>
    rw[List.mapM_cons,Sem.run_bind];have h1:(resSem tmps r).run P w=.ok u w:=by
     cases r with
     |tmp t=>have:u=tmps.getD t undef:=h.1;rw[this];rfl
     |cell a ty=>
      obtain⟨x,e1,e2⟩:=h.1;unfold resSem;rw[Sem.run_bind,e1,Result.andThen_ok,e2]
    rw[h1,Result.andThen_ok,Sem.run_bind,ih us h.2,Result.andThen_ok];rfl
 have e:results fn tmps=(do
   let vs ←fn.results.mapM (resSem tmps)
   pure (if h:vs.size=1 then vs[0]else .tuple vs)):=rfl
 rw[e,Sem.run_bind,Array.mapM_eq_mapM_toList,map_eq_pure_bind,Sem.run_bind,key _ us h,Result.andThen_ok]
 match us with
 |[]=>rfl
 |[u]=>rfl
 |u::v::us=>
  have:¬(u::v::us).toArray.size=1:=by simp
  simp only[Sem.run_pure,Result.andThen_ok];rw[dif_neg this];rfl
theorem Ziw{t:TypeId}{d:TypeDesc}{B off:Nat}{us:List Value}(hu:P.underlying t=some d)(hl:us.length=P.cellsOf t)(hc:∀(k:Nat) (v:Value),us[k]?=some v→w.cell? ⟨B,off+k,none⟩=some v)
  (hone:∀u∈us,u.oneCell'=true) (h1:isAggB P t=false→us.length=1):∃v,(loadVar t ⟨B,off,none⟩).run P w=.ok v w∧aggOk P t v∧v.cells.toList=us:=by
 unfold loadVar;rw[Sem.run_bind,Ziv hu,Result.andThen_ok];unfold aggOk;cases ha:isAggB P t with
 |true=>
  have:=run_loadCells_list (P:=P) w ⟨B,off,none⟩ us (λj v hj=>by rw[Zbv];exact hc j v hj)
  rw[hl]at this;refine⟨.agg us.toArray,?_,?_,rfl⟩
  ·simp[Zku hu,this]
  ·simp
 |false=>
  have h2:=h1 ha
  match us,h2,hc,hone with
  |[u],_,hc,hone=>
   have h3:=hc 0 u rfl;rw[Nat.add_zero]at h3;refine⟨u,by simp[h3],?_,?_⟩
   ·simpa using hone u (by simp)
   ·rw[Zcs (hone u (by simp))]
theorem Zml{st:St}{rs:Look}{L L':Lay}{vs:List TV}{us:List Value}{G:FP}(hv:opsRep w S (memOf st) L vs us)(mv:Moves w S (memOf st) (Zao (memOf st) rs) L L' (vs.flatMap TV.roots) G):
  memOf (applyEff st none ⟨true,.undef,rs,[]⟩)=Zao (memOf st) rs:=by
 have:memOf ⟨st.temps,rs.foldr (λx m=>m.set x.1 x.2) st.mem++[]⟩=addNew (Zao (memOf st) rs) st.mem.length []:=by
  refine Ztu (λr hr hn=>?_);have hnR:r∉vs.flatMap TV.roots:=λhin=>by
   have:=Zgj hv r hin;rw[Zbz st hr]at this;cases this
  have h1:=mv.same r hnR;rw[Zbz st hr]at h1;exact h1
 rw[Zet]at this;exact this
theorem Zng{st:St}{r:Nat}(hl:(memOf st r).live=true):memOf { st with mem:=st.mem.set r { memOf st r with live:=false } }=holes (memOf st) [r]:=by
 funext k
 unfold holes memOf;simp only[List.mem_singleton];by_cases hk:k=r
 ·subst hk;rw[if_pos rfl];have hlt2:k<st.mem.length:=by
   rcases Nat.lt_or_ge k st.mem.length with h|h
   ·exact h
   ·rw[Zbz st h]at hl;cases hl
  rw[Zat _ _ _ _ hlt2]
 ·rw[if_neg hk,Zbf _ _ _ hk]
theorem Zl5{st:St}{L:Lay}{r:Nat}{G:FP}{M':Mem}(hm:MemRep w S (memOf st) L)(hl:(memOf st r).live=true)(hM:M'=holes (memOf st) [r])(hG:∀b,G b→L.fp r b):Takes w S (memOf st) M' L L G:=by
 rw[hM];have hm2:=Zlg (X:=[r]) (w':=w) hm (Nat.le_refl _) (λb _=>rfl) (λ_ _ _ _ _=>rfl);refine⟨hm2,λ_=>rfl,λk hk=>(Zb3 hk).2.1,λk _ b hb=>hb,λk=>?_,λb hb=>⟨r,hl,hG b hb⟩,λk hk b hb hf=>?_,λk=>?_⟩
 ·by_cases hk:k∈[r]
  ·intro hb;unfold holes;rw[if_pos hk];exact⟨⟨hb,Nat.le_refl _⟩,λga gh q _ ho _=>by simp[okView]at ho,λhf=>⟨hf,λhl=>by cases hl⟩⟩
  ·unfold holes;rw[if_neg hk];exact Zc5 _ _ _
 ·obtain⟨h1,h2,_⟩:=Zb3 hk;exact hm.apart r k hl h2 (λhe=>h1 (by simp[he])) b (hG b hb) hf
 ·unfold holes;split
  ·exact⟨rfl,rfl,rfl⟩
  ·exact⟨rfl,rfl,rfl⟩
theorem Zly{st st':St}{L:Lay}{tm:Nat→Value}{t:TypeId}{rv:ResultVar}{row:List D}(hm:MemRep w S (memOf st) L)(hv:∀x,tvRep w S (memOf st) L (st.get x) (tm x))(he:resRow P t st rv=some (true,row,st')):
  ∃u G L',resOne P w tm rv u∧outOne P w S t row u G∧Takes w S (memOf st) (memOf st') L L' G∧st'.temps=st.temps:=by
 cases rv with
 |tmp x=>
  simp only[resRow]at he;split at he
  ·rename_i r ga gh n hx;split at he
   ·rename_i hcond;simp only[Bool.and_eq_true]at hcond;obtain⟨hok,hbox,hptr⟩:=hcond;simp only[Option.some.injEq,Prod.mk.injEq,true_and]at he;obtain⟨rfl,rfl⟩:=he;have hvx:=hv x;rw[hx]at hvx;have hl:(memOf st r).live=true:=Zar hok;obtain⟨⟨hborn,_⟩,hp,hc⟩:=hvx;obtain⟨es,B,off,len,cap,hh,hlt,hval⟩:=hc hok rfl;obtain⟨e1,e2⟩:=Za0 hh;unfold rootD at e1;injection e1 with _ e3 e4;subst e3 e4;have hrep:=hm.rep r hl;rw[←e2]at hrep;obtain⟨F',e5,hcap,hrows,hnB,hF,⟨cs,bt,hblk,hbsz⟩,_⟩:=Zbm hrep;obtain⟨Gr,hrl,hrow,hGr⟩:=Zbs 0 hrows hlt;have hholes:=Zng (st:=st) hl;have hsz:off+0*(memOf st r).sz+(memOf st r).sz≤off+cap*(memOf st r).sz:=by
     have:=Nat.mul_le_mul_right (memOf st r).sz (show 1≤cap by omega)
     omega
    refine⟨tm x,λb=>b=B∨Gr b,L,rfl,?_,?_,rfl⟩
    ·unfold outOne;rw[if_pos hptr];refine⟨B,off+0*(memOf st r).sz,Gr,hval,hrow,λhb=>hnB (hGr _ hb),λb=>Iff.rfl,cs,bt,hblk,?_⟩;have hrl':((memOf st r).es.getD 0 []).length=(memOf st r).sz:=hrl;show off+0*(memOf st r).sz+((memOf st r).es.getD 0 []).length≤_;rw[hrl'];omega
    ·exact Zl5 hm hl hholes (λb hb=>by
      rcases hb with hb|hb
      ·exact(hF b).2 (.inl hb)
      ·exact(hF b).2 (.inr (hGr b hb)))
   ·cases he
  ·rename_i a cs hno hx;split at he
   ·cases he
   rename_i hptr;split at he
   ·rename_i ha;split at he
    ·rename_i b row1 rs h1;simp only[Option.some.injEq,Prod.mk.injEq]at he;obtain⟨rfl,rfl,rfl⟩:=he;have hvx:=hv x;rw[hx]at hvx;have hno:=Zgf h1;have hover:=Zf8 st [st.get x];obtain⟨G,L',hd,mv,hk⟩:=Zb4 (M:=memOf st) (by rw[hover];exact hm) (by rw[hover];exact Zbj (ls:=leaves P 9 t) (Zgs hvx hno)) h1
     rw[hover]at mv;have mv':Moves w S (memOf st) (Zao (memOf st) rs) L L' ([st.get x].flatMap TV.roots) G:=mv.more (λr hr=>by
      rw[List.flatMap_cons];refine List.mem_append_left _ ?_;rw[hx];exact Zir hr)
     refine⟨tm x,G,L',rfl,by unfold outOne;rw[if_neg hptr];exact⟨Zsx (by rw[←ha];exact hvx) hno,hd⟩,?_,rfl⟩
     rw[Zml (vs:=[st.get x]) (us:=[tm x]) (show opsRep w S (memOf st) L [st.get x] [tm x]from⟨hv x,trivial⟩) mv'];exact mv.takes
    ·cases he
   ·cases he
  ·cases he
 |cell a ty=>
  simp only[resRow]at he;split at he
  ·rename_i r ga gh n hx;split at he
   ·rename_i hcond;simp only[Bool.and_eq_true,decide_eq_true_eq,Bool.or_eq_true]at hcond;obtain⟨hok,hbox,hn,rfl,hptr',hund,hagg⟩:=hcond;have hptr':isPtrB P ty=false:=by simpa using hptr'
    simp only[Option.some.injEq,Prod.mk.injEq,true_and]at he;obtain⟨rfl,rfl⟩:=he;have hvx:=hv a;rw[hx]at hvx;have hl:(memOf st r).live=true:=Zar hok;obtain⟨⟨hborn,_⟩,hp,hc⟩:=hvx;obtain⟨es,B,off,len,cap,hh,hlt,hval⟩:=hc hok rfl;obtain⟨e1,e2⟩:=Za0 hh;unfold rootD at e1;injection e1 with _ e3 e4;subst e3 e4;have hrep:=hm.rep r hl;rw[←e2]at hrep;obtain⟨F',e5,hcap,hrows,hnB,hF,hblk⟩:=Zbm hrep;obtain⟨G,hrl,hrow,hG⟩:=Zbs 0 hrows hlt;obtain⟨us,hd,hcell⟩:=Zkr hrow;have hul:=Za4 hd;obtain⟨d,hund⟩:=Option.isSome_iff_exists.1 hund;obtain⟨v,hv1,hv2,hv3⟩:=Ziw (w:=w) (B:=B) (off:=off+0*(memOf st r).sz) hund (us:=us) (by rw[←hul,hrl,hn]) hcell (Zgy hd) (λhf=>by
     rcases hagg with h|h
     ·rw[hf]at h;cases h
     ·rw[←hul,hrl,hn,h])
    refine⟨v,G,L,⟨⟨B,off+0*(memOf st r).sz+0,none⟩,?_,hv1⟩,?_,Zl5 hm hl (Zng hl) (λb hb=>(hF b).2 (.inr (hG b hb))),rfl⟩
    ·rw[hval];rfl
    ·unfold outOne;rw[if_neg (by rw[hptr'];simp)]
     exact⟨hv2,by rw[hv3];exact hd⟩
   ·cases he
  ·cases he
theorem Zgp{tm:Nat→Value}:∀{l:List (TypeId×ResultVar)} {st st':St} {L:Lay} {out:List (List D)},MemRep w S (memOf st) L→(∀x,tvRep w S (memOf st) L (st.get x) (tm x))→resRows P l st=some (true,out,st')→
  ∃us G L',resAll P w tm (l.map (·.2)) us∧outRep P w S (l.map (·.1)) out us G∧Takes w S (memOf st) (memOf st') L L' G
 |[],st,st',L,out,hm,_,he=>by
  simp only[resRows,Option.some.injEq,Prod.mk.injEq,true_and]at he;obtain⟨rfl,rfl⟩:=he;exact⟨[],λ_=>False,L,trivial,λ_ h=>h,Takes.refl hm⟩
 |(t,rv)::l,st,st',L,out,hm,hv,he=>by
  simp only[resRows]at he;split at he
  ·rename_i b r st1 h1;split at he
   ·rename_i b' rs st2 h2;simp only[Option.some.injEq,Prod.mk.injEq,Bool.and_eq_true]at he;obtain⟨⟨rfl,rfl⟩,rfl,rfl⟩:=he;obtain⟨u,G1,L1,a1,a2,tk1,htm⟩:=Zly hm hv h1;obtain⟨us,G2,L2,b1,b2,tk2⟩:=Zgp (tm:=tm) tk1.rep (λx=>by
     unfold St.get;rw[htm];exact Zcg (λc v hc=>Zbw (λb hb=>⟨hb,rfl⟩) tk1.keeps hc) (Zg2 tk1.keeps) (hv x)) h2
    obtain⟨tk,hd⟩:=tk1.trans tk2;exact⟨u::us,_,L2,⟨a1,b1⟩,⟨G1,G2,a2,b2,λb=>Iff.rfl,hd⟩,tk⟩
   ·cases he
  ·cases he
theorem Zm4:∀{mts:List (Mode×TypeId)} {rows:List (List D)} {nx:Nat} {b:Bool} {tvs:List TV} {rs:List Root} {bk:List Nat},enter P mts rows nx=some (b,tvs,rs,bk)→bk.Nodup∧∀r∈bk,nx≤r
 |[],[],nx,b,tvs,rs,bk,h=>by
  simp only[enter,Option.some.injEq,Prod.mk.injEq]at h;obtain⟨_,_,_,rfl⟩:=h;exact⟨List.nodup_nil,by simp⟩
 |(m,t)::ms,row::rows,nx,b,tvs,rs,bk,h=>by
  have key:∀{k:Nat} {x:Bool×List TV×List Root×List Nat},enter P ms rows (nx+k)=some x→x.2.2.2.Nodup∧∀r∈x.2.2.2,nx+k≤r:=λh=>Zm4 h;cases m with
  |ro=>
   simp only[enter]at h;split at h
   ·rename_i h2;simp only[Option.some.injEq,Prod.mk.injEq]at h;obtain⟨_,_,_,rfl⟩:=h;exact key (k:=0) h2
   ·cases h
  |inout o p=>
   simp only[enter]at h;split at h
   ·rename_i h2;simp only[Option.some.injEq,Prod.mk.injEq]at h;obtain⟨_,_,_,rfl⟩:=h;obtain⟨a1,a2⟩:=key (k:=1) h2;refine⟨List.nodup_cons.2 ⟨λhx=>?_,a1⟩,λr hr=>?_⟩
    ·have:=a2 nx hx;omega
    ·rcases List.mem_cons.1 hr with rfl|hr
     ·exact Nat.le_refl _
     ·have:=a2 r hr;omega
   ·cases h
  |lend=>
   simp only[enter]at h;split at h
   ·rename_i h2;simp only[Option.some.injEq,Prod.mk.injEq]at h;obtain⟨_,_,_,rfl⟩:=h;obtain⟨a1,a2⟩:=key h2;exact⟨a1,λr hr=>by have:=a2 r hr;omega⟩
   ·cases h
  |give=>
   simp only[enter]at h;split at h
   ·rename_i h2;simp only[Option.some.injEq,Prod.mk.injEq]at h;obtain⟨_,_,_,rfl⟩:=h;obtain⟨a1,a2⟩:=key h2;exact⟨a1,λr hr=>by have:=a2 r hr;omega⟩
   ·cases h
 |[],_::_,_,_,_,_,_,h=>by cases h
 |_::_,[],_,_,_,_,_,h=>by cases h
theorem Zb8{S:FP}:∀{mts:List (Mode×TypeId)} {vs:List Value} {rows:List (List D)} {F:FP},backRep w S mts vs rows F→rows.length=inouts (mts.map (·.1))
 |[],[],[],_,_=>rfl
 |(.inout o p,t)::ms,v::vs,row::rows,F,⟨_,_,_,_,_,_,_,_,_,h,_⟩=>by
  have:=Zb8 h;simp[inouts,this]
 |(.lend,t)::ms,v::vs,rows,F,h=>Zb8 (mts:=ms) (vs:=vs) h
 |(.give,t)::ms,v::vs,rows,F,h=>Zb8 (mts:=ms) (vs:=vs) h
 |(.ro,t)::ms,v::vs,rows,F,h=>Zb8 (mts:=ms) (vs:=vs) h
 |[],[],_::_,_,h=>h.elim
 |[],_::_,_,_,h=>h.elim
 |(.inout _ _,_)::_,[],_,_,h=>h.elim
 |(.inout _ _,_)::_,_::_,[],_,h=>h.elim
 |(.lend,_)::_,[],_,_,h=>h.elim
 |(.give,_)::_,[],_,_,h=>h.elim
 |(.ro,_)::_,[],_,_,h=>h.elim
theorem Zdq{w0:World}{F0:FP}{n0:Nat}{M0:Mem}{L0 L L':Lay}{st st':St}{G:FP}(hsince:Since w0 S F0 n0 M0 L0 w (memOf st) L)(tk:Takes w S (memOf st) (memOf st') L L' G):
  ∀{mts:List (Mode×TypeId)} {rows:List (List D)} {vs:List Value} {bk:List Nat} {back:List (List D)},bkRep M0 L0 mts rows vs bk→bk.Nodup→(∀r∈bk,r<n0)→backRows st' bk=some back→
   inWithin w0 w mts rows vs∧∃G2:FP,backRep w S mts vs back G2∧∀b,G2 b→∃r∈bk,(memOf st' r).live=true∧L'.fp r b
 |[],[],[],[],back,h,_,_,he=>by
  simp only[backRows,Option.some.injEq]at he;subst he;exact⟨trivial,λ_=>False,λ_ h=>h,λ_ h=>h.elim⟩
 |(.inout o p,t)::ms,row::rows,v::vs,r::bk,back,h,hnd,hlt,he=>by
  obtain⟨h1,h2,h3,⟨h4,h7⟩,⟨B,off,rfl,h5⟩,h6⟩:=h;simp only[backRows]at he;split at he
  ·rename_i hl;cases he2:backRows st' bk with
   |none=>rw[he2]at he;cases he
   |some back2=>
    rw[he2]at he;simp only[Option.map_some,Option.some.injEq]at he;subst he;obtain⟨hn1,hn2⟩:=List.nodup_cons.1 hnd;obtain⟨a1,G2,a2,a3⟩:=Zdq hsince tk h6 hn2 (λx hx=>hlt x (by simp[hx])) he2
    have hl':(memOf st' r).live=true:=hl;obtain⟨b1,b2,b3,b4,b5,_,b6⟩:=hsince.within r (hlt r (by simp)) (tk.live r hl')
    obtain⟨k1,k2,k3⟩:=tk.keep r;refine⟨⟨λB' off' hv=>?_,a1⟩,?_⟩
    ·injection hv with hv;injection hv with hv;injection hv with e1 e2;subst e1 e2;have b6:=b6 h2;rw[h5,h4,h3,Nat.one_mul,h7]at b6;exact b6
    ·have hrep:=tk.rep.rep r hl';rw[tk.hd r,b2,h5]at hrep;obtain⟨F',e5,hcap,hrows,hnB,hF,hblk⟩:=Zbm hrep;have hlen:(memOf st' r).es.length=1:=by rw[k3,b5,h4]
     obtain⟨Gr,hrl,hrow,hGr⟩:=Zbs 0 hrows (by omega)
     rw[Nat.zero_mul,Nat.add_zero]at hrow;have hsub:∀b,(b=B∨Gr b)→L'.fp r b:=λb hb=>by
      rcases hb with hb|hb
      ·exact(hF b).2 (.inl hb)
      ·exact(hF b).2 (.inr (hGr b hb))
     refine⟨λb=>(b=B∨Gr b)∨G2 b,⟨B,off,Gr,λb=>b=B∨Gr b,G2,rfl,hrow,λhb=>hnB (hGr _ hb),λb=>Iff.rfl,a2,λb=>Iff.rfl,λb hb hb2=>?_⟩,λb hb=>?_⟩
     ·obtain⟨r',hr',hl2,hf2⟩:=a3 b hb2;exact tk.rep.apart r r' hl' hl2 (λhe=>hn1 (he▸hr')) b (hsub b hb) hf2
     ·rcases hb with hb|hb
      ·exact⟨r,by simp,hl',hsub b hb⟩
      ·obtain⟨r',hr',x⟩:=a3 b hb;exact⟨r',by simp[hr'],x⟩
  ·cases he
 |(.lend,t)::ms,row::rows,v::vs,bk,back,h,hnd,hlt,he=>Zdq hsince tk (mts:=ms) (rows:=rows) (vs:=vs) h hnd hlt he
 |(.give,t)::ms,row::rows,v::vs,bk,back,h,hnd,hlt,he=>Zdq hsince tk (mts:=ms) (rows:=rows) (vs:=vs) h hnd hlt he
 |(.ro,t)::ms,row::rows,v::vs,bk,back,h,hnd,hlt,he=>Zdq hsince tk (mts:=ms) (rows:=rows) (vs:=vs) h hnd hlt he
 |[],[],[],_::_,_,h,_,_,_=>h.elim
 |[],[],_::_,_,_,h,_,_,_=>h.elim
 |[],_::_,_,_,_,h,_,_,_=>h.elim
 |(.inout _ _,_)::_,[],_,_,_,h,_,_,_=>h.elim
 |(.inout _ _,_)::_,_::_,[],_,_,h,_,_,_=>h.elim
 |(.inout _ _,_)::_,_::_,_::_,[],_,h,_,_,_=>h.elim
 |(.lend,_)::_,[],_,_,_,h,_,_,_=>h.elim
 |(.lend,_)::_,_::_,[],_,_,h,_,_,_=>h.elim
 |(.give,_)::_,[],_,_,_,h,_,_,_=>h.elim
 |(.give,_)::_,_::_,[],_,_,h,_,_,_=>h.elim
 |(.ro,_)::_,[],_,_,_,h,_,_,_=>h.elim
 |(.ro,_)::_,_::_,[],_,_,h,_,_,_=>h.elim
theorem Zlm{w0:World}{F0:FP}{n0:Nat}{M0:Mem}{L0 L L':Lay}{st st':St}{G:FP}(hsince:Since w0 S F0 n0 M0 L0 w (memOf st) L)(tk:Takes w S (memOf st) (memOf st') L L' G)(hS:∀b,S b→w.heap[b]?=w0.heap[b]?):
  ∀{mc:List C} {us:List Value} {row:Row},cellsRep w0 S M0 L0 mc us→(∀c∈mc,∀r ga gh n,c=.view r ga gh [] n none→okView (M0 r) ga gh []=true∧r<n0)→nodupB (mc.flatMap C.roots)=true→mutRow st' mc=some row→
   ∃G3:FP,datRep w S row us G3∧∀b,G3 b→∃r∈mc.flatMap C.roots,(memOf st' r).live=true∧L'.fp r b
 |[],[],row,_,_,_,he=>by
  simp only[mutRow,Option.some.injEq]at he;subst he;exact⟨λ_=>False,λ_ h=>h,λ_ h=>h.elim⟩
 |c::mc,u::us,row,⟨h1,h2⟩,hok,hnd,he=>by
  rw[List.flatMap_cons]at hnd;obtain⟨hn1,hn2⟩:=Zct hnd;have rest:∀{row2:Row},mutRow st' mc=some row2→∃G3:FP,datRep w S row2 us G3∧∀b,G3 b→∃r∈mc.flatMap C.roots,(memOf st' r).live=true∧L'.fp r b:=λh=>
   Zlm hsince tk hS h2 (λc hc=>hok c (List.mem_cons_of_mem _ hc)) hn2 h
  cases c with
  |d x=>
   simp only[mutRow]at he;cases hm:mutRow st' mc with
   |none=>rw[hm]at he;cases he
   |some row2=>
    rw[hm]at he;simp only[Option.map_some,Option.some.injEq]at he;subst he;obtain⟨G3,a,b⟩:=rest hm;refine⟨G3,⟨λ_=>False,G3,Zbp (λb hb=>⟨hb,hS b hb⟩) h1.2 (λb hb=>hb.elim),a,λb=>by simp,λ_ h=>h.elim⟩,λx hx=>?_⟩
    obtain⟨r,hr,y⟩:=b x hx;exact⟨r,by rw[List.flatMap_cons];exact List.mem_append_right _ hr,y⟩
  |view r ga gh q n sub=>
   match q,sub,he with
   |[],none,he=>
    simp only[mutRow]at he;split at he
    ·rename_i hl;have hl':(memOf st' r).live=true:=hl;cases hm:mutRow st' mc with
     |none=>rw[hm]at he;cases he
     |some row2=>
      rw[hm]at he;simp only[Option.map_some,Option.some.injEq]at he;subst he;obtain⟨G3,a,b⟩:=rest hm;obtain⟨ho,hlt⟩:=hok _ List.mem_cons_self r ga gh n rfl;obtain⟨_,_,hv⟩:=h1;obtain⟨es,A,len,cap,hh,hs⟩:=hv ho rfl;have hs:u=.slice A len cap:=hs;obtain⟨_,e2⟩:=Za0 hh;obtain⟨_,b2,_⟩:=hsince.within r hlt (tk.live r hl');have hrep:=tk.rep.rep r hl';rw[tk.hd r,b2,←e2,←hs]at hrep;refine⟨λb=>L'.fp r b∨G3 b,⟨L'.fp r,G3,hrep,a,λb=>Iff.rfl,λx hx hx2=>?_⟩,λx hx=>?_⟩
      ·obtain⟨r',hr',hl2,hf2⟩:=b x hx2;exact tk.rep.apart r r' hl' hl2 (λhe=>hn1 r (by simp[C.roots]) (he▸hr')) x hx hf2
      ·rcases hx with hx|hx
       ·exact⟨r,by rw[List.flatMap_cons];simp[C.roots],hl',hx⟩
       ·obtain⟨r',hr',y⟩:=b x hx;exact⟨r',by rw[List.flatMap_cons];exact List.mem_append_right _ hr',y⟩
    ·cases he
   |[],some _,he=>simp[mutRow]at he
   |_::_,_,he=>simp[mutRow]at he
  |_=>simp[mutRow]at he
 |[],_::_,_,h,_,_,_=>h.elim
 |_::_,[],_,h,_,_,_=>h.elim
end
def RegionsSound(X:Ctx)(call:CallF)(R:Type):Prop:=∀(w0:World) (S F0:FP) (n0:Nat) (M0:Mem) (L0:Lay),RegionSound X call R w0 S F0 n0 M0 L0
theorem Zux{X:Ctx}{call:CallF}(hreg:RegionsSound X call (List Row×List Row)){n:Nat}{fn:Func}{rows out back:List Row}(hf:X.P.funcs[X.fn]?=some fn)(h:evFn X call n fn rows=some (out,back)):fn.body.isNone=false∧
  ∀(w:World) (S F:FP) (vs:List Value),(∀b,S b→b<w.heap.size)→(∀b,F b→b<w.heap.size∧¬S b)→
   argsRep X.P w S ((X.H.modes X.fn fn.params.size).zip fn.params.toList) rows vs F→
   Calls X.P X.fn vs.toArray w λe w'=>match e with
    |.returned v=>Leaves X.P w S F ((X.H.modes X.fn fn.params.size).zip fn.params.toList) (X.H.muts X.fn) fn.resultTypes.toList rows vs out back v w'
    |_=>False:=by
 unfold evFn at h;simp only at h;split at h
 ·rename_i c b tvs rs bk hbody hent;cases hb:(b&&(decide (fn.results.size=fn.resultTypes.size)&&(mutCells (((X.H.modes X.fn fn.params.size).zip fn.params.toList).map (·.1)) (X.H.muts X.fn) tvs).all (okEntry rs)))with
  |false=>rw[hb]at h;cases h
  |true=>
   rw[hb]at h;simp only[cond_true]at h;simp only[Bool.and_eq_true,decide_eq_true_eq]at hb;obtain⟨rfl,hsize,hoke⟩:=hb;refine⟨by rw[hbody];rfl,λw S F vs hS hF harg=>calls_of_wp hf hbody ?_⟩
   have hm0:MemRep w S (λ_=>deadRoot) ⟨λ_=>undef,λ_ _=>False⟩:=⟨λr (hr:false=true)=>(nomatch hr),λr (hr:false=true)=>(nomatch hr),λr (hr:false=true)=>(nomatch hr),λr r' (hr:false=true)=>(nomatch hr),hS⟩;obtain⟨L0,ad,hops,hbk,hbkn⟩:=Zh1 harg hm0 (λr _=>rfl) (λr (hr:false=true)=>(nomatch hr)) hF hent;obtain⟨hnd,_⟩:=Zm4 hent;have hmem:∀T:List TV,memOf ⟨T,rs⟩=addNew (λ_=>deadRoot) 0 rs:=λT=>by
    funext r
    unfold memOf addNew;simp only;by_cases hr:r<rs.length
    ·rw[if_pos (by omega)];rfl
    ·rw[if_neg (by omega),List.getD_eq_getElem?_getD,List.getElem?_eq_none (by omega)];rfl
   have hlen:=Zd6 hops;have hR0:Rel w S F rs.length (addNew (λ_=>deadRoot) 0 rs) L0 { temps:=tvs++List.replicate (fn.ntmps-tvs.length) .undef,mem:=rs } { tmps:=vs.toArray++Array.replicate (fn.ntmps-vs.toArray.size) undef,defers:=[] } w L0:=by
    refine⟨by rw[hmem];exact ad.rep,by simp[hlen],λt ht=>?_,rfl,?_,Nat.le_refl _⟩
    ·rw[hmem];have key:∀(xs:List TV) (us:List Value),opsRep w S (addNew (λ_=>deadRoot) 0 rs) L0 xs us→∀t,t<xs.length→tvRep w S (addNew (λ_=>deadRoot) 0 rs) L0 (xs.getD t .undef) (us.getD t undef):=by
      intro xs;induction xs with
      |nil=>intro us _ t ht;simp at ht
      |cons x xs ih=>
       intro us h t ht;cases us with
       |nil=>exact h.elim
       |cons u us=>
        cases t with
        |zero=>simpa using h.1
        |succ t=>simpa using ih us h.2 t (by simpa using ht)
     by_cases h1:t<tvs.length
     ·have e1:(St.get { temps:=tvs++List.replicate (fn.ntmps-tvs.length) .undef,mem:=rs } t)=tvs.getD t .undef:=by
       unfold St.get;simp only;rw[List.getD_eq_getElem?_getD,List.getElem?_append_left h1,List.getD_eq_getElem?_getD]
      have e2:(vs.toArray++Array.replicate (fn.ntmps-vs.toArray.size) undef).getD t undef=vs.getD t undef:=by
       rw[Array.getD_eq_getD_getElem?,Array.getElem?_append_left (by simp;omega),List.getElem?_toArray,List.getD_eq_getElem?_getD]
      rw[e1,e2];exact key tvs vs hops t h1
     ·have e1:(St.get { temps:=tvs++List.replicate (fn.ntmps-tvs.length) .undef,mem:=rs } t)=TV.undef:=by
       unfold St.get;simp only;rw[List.getD_eq_getElem?_getD,List.getElem?_append_right (by omega)]
       cases hx:(List.replicate (fn.ntmps-tvs.length) TV.undef)[t-tvs.length]? with
       |none=>rfl
       |some y=>
        have:=List.mem_of_getElem? hx;rw[(List.mem_replicate.1 this).2];rfl
      rw[e1];trivial
    ·rw[hmem];refine⟨Below.refl 0 w,λ_ _ _=>rfl,λr hl b hb=>.inl ?_,λr hr hl=>⟨hl,rfl,rfl,rfl,rfl,rfl,λ_ B off len cap he cs t f hc=>⟨cs,hc,rfl,λ_ _=>rfl⟩⟩⟩;have hn:newOf 0 rs.length r:=by
      rcases Nat.lt_or_ge r rs.length with h1|h1
      ·exact⟨Nat.zero_le _,by omega⟩
      ·rw[Zbq (by unfold newOf;omega)]at hl;cases hl
     exact ad.fp r hn b hb
   refine Zpu (hreg w S F rs.length _ L0) Zp1 n c _ _ _ (out,back) _ _ w L0 h hR0 (λe st' a' w' L' hK hR' hl=>?_);have leave:∀{st':St} {a':Act} {w':World} {L':Lay},leaveFn X.P (fn.resultTypes.toList.zip fn.results.toList) bk (mutCells (((X.H.modes X.fn fn.params.size).zip fn.params.toList).map (·.1)) (X.H.muts X.fn) tvs) st'=some (out,back)→Rel w S F rs.length (addNew (λ_=>deadRoot) 0 rs) L0 st' a' w' L'→
     a'.defers=[]∧∃v,(results fn a'.tmps).run X.P w'=.ok v w'∧Leaves X.P w S F ((X.H.modes X.fn fn.params.size).zip fn.params.toList) (X.H.muts X.fn) fn.resultTypes.toList rows vs out back v w':=by
    intro st' a' w' L' hK hR';unfold leaveFn at hK;split at hK
    ·rename_i b out1 st2 hres;split at hK
     ·rename_i back1 row1 hbacks hmutr;cases hbn:(b&&nodupB (bk++(mutCells (((X.H.modes X.fn fn.params.size).zip fn.params.toList).map (·.1)) (X.H.muts X.fn) tvs).flatMap C.roots))with
      |false=>rw[hbn]at hK;cases hK
      |true=>
       rw[hbn]at hK;simp only[Bool.and_eq_true]at hbn;obtain⟨rfl,hnodup⟩:=hbn;obtain⟨hnd1,hnd2⟩:=Zct hnodup;simp only[cond_true,Option.some.injEq,Prod.mk.injEq]at hK;obtain⟨rfl,rfl⟩:=hK;obtain⟨us,G,L2,r1,r2,tk⟩:=Zgp (tm:=λt=>a'.tmps.getD t undef) hR'.rep (λx=>Zik hR' (.tmp x)) hres;have hl1:fn.resultTypes.toList.length=fn.results.toList.length:=by simp[hsize]
       rw[List.map_snd_zip (by omega)]at r1
       rw[List.map_fst_zip (by omega)]at r2
       obtain⟨b1,G2,b2,b3⟩:=Zdq hR'.since tk hbk hnd (λr hr=>by have:=hbkn r hr;unfold newOf at this;omega) hbacks
       have hcs:cellsRep w S (addNew (λ_=>deadRoot) 0 rs) L0 (mutCells (((X.H.modes X.fn fn.params.size).zip fn.params.toList).map (·.1)) (X.H.muts X.fn) tvs) (mutVals (((X.H.modes X.fn fn.params.size).zip fn.params.toList).map (·.1)) (X.H.muts X.fn) vs):=
        Zki (ok:=okEntry rs) (λc h=>by cases c<;>first|rfl|cases h) hops hoke
       obtain⟨G3,c1,c2⟩:=Zlm hR'.since tk (λb hb=>hR'.since.frame b (hS b hb) (λhf=>(hF b hf).2 hb)) hcs (λc hc r ga gh n he=>by
        subst he;have ho:=List.all_eq_true.1 hoke _ hc;have ho':okView (rs.getD r deadRoot) ga gh []=true:=ho;have hlt:r<rs.length:=by
         rcases Nat.lt_or_ge r rs.length with h1|h1
         ·exact h1
         ·have:=Zar ho';rw[List.getD_eq_getElem?_getD,List.getElem?_eq_none h1]at this;cases this
        have:addNew (λ_=>deadRoot) 0 rs r=rs.getD r deadRoot:=by
         unfold addNew;rw[if_pos ⟨Nat.zero_le _,by omega⟩]
         rfl
        rw[this];exact⟨ho',hlt⟩) hnd2 hmutr
       have hbl:=Zb8 b2;have hlive2:∀b,(∃r,(memOf st' r).live=true∧L'.fp r b)→(F b∨w.heap.size≤b)∧b<w'.heap.size∧¬S b:=λb ⟨r,h1,h2⟩=>by
        obtain⟨c1,c2⟩:=hR'.rep.own r h1 b h2;exact⟨hR'.since.fp r h1 b h2,c1,c2⟩
       refine⟨hR'.defers,resVal us,Zmt r1,hR'.since.below,hR'.since.frame,b1,us,G,G2,G3,rfl,r2,?_,?_,⟨λb hb hb2=>?_,λb hb=>hlive2 b ?_⟩,λb hb=>⟨λhx=>?_,λhx=>?_⟩,λb hb=>hlive2 b ?_⟩
       ·rw[←hbl,List.take_left];exact b2
       ·rw[←hbl,List.drop_left];have:∀(mc:List C),mutRow st2 mc=some row1→(mutBack row1 mc).flatten=row1:=λmc h=>by
         cases mc with
         |nil=>simp only[mutRow,Option.some.injEq]at h;subst h;rfl
         |cons c mc=>simp[mutBack]
        rw[this _ hmutr];exact c1
       ·obtain⟨r,_,hl2,hf2⟩:=b3 b hb2;exact tk.apart r hl2 b hb hf2
       ·rcases hb with hb|hb
        ·exact tk.out b hb
        ·obtain⟨r,_,hl2,hf2⟩:=b3 b hb;exact⟨r,tk.live r hl2,tk.fp r hl2 b hf2⟩
       ·obtain⟨r,_,hl2,hf2⟩:=c2 b hb;exact tk.apart r hl2 b hx hf2
       ·obtain⟨r,hr,hl2,hf2⟩:=c2 b hb;obtain⟨r',hr',hl2',hf2'⟩:=b3 b hx;exact tk.rep.apart r r' hl2 hl2' (λhe=>hnd1 r' hr' (he▸hr)) b hf2 hf2'
       ·obtain⟨r,_,hl2,hf2⟩:=c2 b hb;exact⟨r,tk.live r hl2,tk.fp r hl2 b hf2⟩
     ·cases hK
    ·cases hK
   cases e with
   |normal=>exact leave hK hR'
   |ret=>exact leave hK hR'
   |exit id=>cases hK
 ·cases h
end Go.Ev
