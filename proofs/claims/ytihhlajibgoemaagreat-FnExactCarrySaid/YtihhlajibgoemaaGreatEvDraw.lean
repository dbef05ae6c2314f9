/- Regions whose operations may come up in any order that binds. -/
import Derived.Test.YtihhlajibgoemaaGreatEvFn
namespace Go.Ev
open Go.RowKit
set_option linter.unusedVariables false
set_option linter.unusedSimpArgs false
def GuardIs(ops:List Oper)(o:Oper)(st:St)(b:Bool):Prop:=
 match o.guard with
 |none=>b=true
 |some (g,want)=>∃d,(ops[g]?).bind (·.dst)=some d∧((∃c,st.get d=.v false [.d (.bool c)]∧b=(c==want))∨(st.get d=.gone∧b=false))
def valsOf(o:Oper)(st:St):List TV:=(operandsOf o.op).map st.operand
def Step(P:Program)(ops:List Oper)(o:Oper)(st st':St)(t:Touch):Prop:=
 (GuardIs ops o st true∧∃e,st'=applyEff st o.dst e∧OpActs P o st.mem.length (valsOf o st) (st.look (seen o.op (valsOf o st))) ((valsOf o st).flatMap TV.roots) e∧Covers st (seen o.op (valsOf o st)) (valsOf o st) e t)∨
 (GuardIs ops o st false∧st'=st.put o.dst .gone∧t=⟨[],[]⟩)
theorem Znp{st:St}{d:Tmp}{x:TV}(h:st.get d=x):st.put (some d) x=st:=by
 subst h;unfold St.put St.get;simp only;rw[Zc3]
def Traced{R:Type}(P:Program)(ops:List Oper)(K:St→List Touch→Option R)(res:R)(rest:List Oper)(st:St)(log:List Touch):Prop:=
 ∃(σ:Nat→St) (τ:Nat→Touch),σ 0=st∧K (σ rest.length) (log++(List.range rest.length).map τ)=some res∧∀i o,rest[i]?=some o→Step P ops o (σ i) (σ (i+1)) (τ i)
theorem Zhr{R:Type}{X:Ctx}{call:CallF}(hs:Sound X.P X.H call){ops:List Oper}{K:St→List Touch→Option R}{res:R}:∀(rest:List Oper) (st:St) (log:List Touch),runOps X call ops rest st log K=some res→Traced X.P ops K res rest st log
 |[],st,log,h=>⟨λ_=>st,λ_=>⟨[],[]⟩,rfl,by simpa[runOps]using h,λi o hi=>by simp at hi⟩
 |o::rest,st,log,h=>by
  have fin:∀{st':St} {t:Touch},runOps X call ops rest st' (log++[t]) K=some res→Step X.P ops o st st' t→Traced X.P ops K res (o::rest) st log:=by
   intro st' t h1 hstep;obtain⟨σ,τ,h2,h3,h4⟩:=Zhr hs rest st' (log++[t]) h1;refine⟨λi=>match i with|0=>st|i+1=>σ i,λi=>match i with|0=>t|i+1=>τ i,rfl,?_,λi o' hi=>?_⟩
   ·rw[List.length_cons,List.range_succ_eq_map,List.map_cons,List.map_map];rw[List.append_assoc,List.singleton_append]at h3;exact h3
   ·cases i with
    |zero=>
     simp only[List.getElem?_cons_zero,Option.some.injEq]at hi;subst hi;show Step X.P ops o st (σ 0) t;rw[h2];exact hstep
    |succ i=>
     rw[List.getElem?_cons_succ]at hi;exact h4 i o' hi
  simp only[runOps]at h;split at h
  ·rename_i hg;obtain⟨e,t,h1,h2,h3⟩:=Zg8 hs h;exact fin h1 (.inl ⟨by unfold GuardIs;rw[hg],e,rfl,h2,h3⟩)
  ·rename_i g want hg;split at h
   ·rename_i b hd;cases hdst:(ops[g]?).bind (·.dst)with
    |none=>rw[hdst]at hd;cases hd
    |some d=>
     rw[hdst]at hd h;simp only[Option.map_some,Option.some.injEq]at hd;have hgi:∀c,c=(b==want)→GuardIs ops o st c:=λc hc=>by unfold GuardIs;rw[hg];exact⟨d,hdst,.inl ⟨b,hd,hc⟩⟩
     have go:opRun X call o st log (λst log=>runOps X call ops rest st log K)=some res→true=(b==want)→Traced X.P ops K res (o::rest) st log:=λh hb=>by
      obtain⟨e,t,h1,h2,h3⟩:=Zg8 hs h;exact fin h1 (.inl ⟨hgi _ hb,e,rfl,h2,h3⟩)
     have skip:runOps X call ops rest (st.put o.dst .gone) (log++[⟨[],[]⟩]) K=some res→false=(b==want)→Traced X.P ops K res (o::rest) st log:=λh hb=>fin h (.inr ⟨hgi _ hb,rfl,rfl⟩);cases b with
     |true=>
      rw[Znp hd]at h;cases want with
      |true=>exact go h rfl
      |false=>exact skip h rfl
     |false=>
      rw[Znp hd]at h;cases want with
      |true=>exact skip h rfl
      |false=>exact go h rfl
   ·rename_i hd;cases hdst:(ops[g]?).bind (·.dst)with
    |none=>rw[hdst]at hd;cases hd
    |some d=>
     rw[hdst]at hd;simp only[Option.map_some,Option.some.injEq]at hd;exact fin h (.inr ⟨by unfold GuardIs;rw[hg];exact⟨d,hdst,.inr ⟨hd,rfl⟩⟩,rfl,rfl⟩)
   ·cases h
def dstAt(ops:List Oper)(k:Nat):Option Tmp:=(ops[k]?).bind (·.dst)
def memD(σ:Nat→St)(τ:Nat→Touch)(D:Nat→Bool):Nat→Mem
 |0=>memOf (σ 0)
 |k+1=>λr=>if D k=true∧r∈(τ k).writes then memOf (σ (k+1)) r else memD σ τ D k r
def tmpD(ops:List Oper)(σ:Nat→St)(D:Nat→Bool):Nat→Nat→TV
 |0=>(σ 0).get
 |k+1=>λt=>if D k=true∧dstAt ops k=some t then(σ (k+1)).get t else tmpD ops σ D k t
section
variable {σ : Nat → St} {τ : Nat → Touch} {D : Nat → Bool} {ops : List Oper}
theorem Zdw(k r:Nat):memD σ τ D (k+1) r=if D k=true∧r∈(τ k).writes then memOf (σ (k+1)) r else memD σ τ D k r:=rfl
theorem Zdx(k t:Nat):tmpD ops σ D (k+1) t=if D k=true∧dstAt ops k=some t then(σ (k+1)).get t else tmpD ops σ D k t:=rfl
theorem Zie{r:Nat}:∀{i:Nat},(∀k,k<i→r∉(τ k).writes→memOf (σ (k+1)) r=memOf (σ k) r)→(∀k,k<i→r∈(τ k).writes→D k=true)→memD σ τ D i r=memOf (σ i) r
 |0,_,_=>rfl
 |i+1,hs,hd=>by
  rw[Zdw];by_cases hw:r∈(τ i).writes
  ·rw[if_pos ⟨hd i (Nat.lt_succ_self i) hw,hw⟩]
  ·rw[if_neg (λh=>hw h.2),Zie (λk hk=>hs k (by omega)) (λk hk=>hd k (by omega)),hs i (Nat.lt_succ_self i) hw]
theorem Zid{r i:Nat}:∀{n:Nat},i≤n→(∀k,i≤k→k<n→D k=true→r∉(τ k).writes)→memD σ τ D n r=memD σ τ D i r
 |0,hi,_=>by have:i=0:=by omega
             subst this;rfl
 |n+1,hi,h=>by
  by_cases he:i=n+1
  ·subst he;rfl
  ·rw[Zdw];rw[if_neg (λhx=>h n (by omega) (Nat.lt_succ_self n) hx.1 hx.2)]
   exact Zid (by omega) (λk h1 h2=>h k h1 (by omega))
theorem Zgb:∀{n:Nat},(∀k,k<n→D k=false)→memD σ τ D n=memOf (σ 0)
 |0,_=>rfl
 |n+1,h=>by
  funext r
  rw[Zdw];rw[if_neg (λhx=>by rw[h n (Nat.lt_succ_self n)]at hx;exact absurd hx.1 (by simp)),Zgb (λk hk=>h k (by omega))]
theorem Zga{i r:Nat}(hr:r∉(τ i).writes):∀{n:Nat},memD σ τ (λk=>D k||k==i) n r=memD σ τ D n r
 |0=>rfl
 |n+1=>by
  rw[Zdw,Zdw];by_cases hn:n=i
  ·subst hn;rw[if_neg (λh=>hr h.2),if_neg (λh=>hr h.2)];exact Zga hr
  ·have:(D n||n==i)=D n:=by simp[hn]
   rw[this,Zga hr]
theorem Zts{i r:Nat}(hr:r∈(τ i).writes){n:Nat}(hi:i<n)(h:∀k,i<k→k<n→D k=true→r∉(τ k).writes):memD σ τ (λk=>D k||k==i) n r=memOf (σ (i+1)) r:=by
 rw[Zid (i:=i+1) (by omega) (λk h1 h2 h3=>h k (by omega) h2 (by
  have:(k==i)=false:=by simp;omega
  simpa[this]using h3))]
 rw[Zdw];rw[if_pos ⟨by simp,hr⟩]
theorem Zi3{t:Nat}:∀{i:Nat},(∀k,k<i→dstAt ops k≠some t→(σ (k+1)).get t=(σ k).get t)→(∀k,k<i→dstAt ops k=some t→D k=true)→tmpD ops σ D i t=(σ i).get t
 |0,_,_=>rfl
 |i+1,hs,hd=>by
  rw[Zdx];by_cases hw:dstAt ops i=some t
  ·rw[if_pos ⟨hd i (Nat.lt_succ_self i) hw,hw⟩]
  ·rw[if_neg (λh=>hw h.2),Zi3 (λk hk=>hs k (by omega)) (λk hk=>hd k (by omega)),hs i (Nat.lt_succ_self i) hw]
theorem Zi1{t i:Nat}:∀{n:Nat},i≤n→(∀k,i≤k→k<n→D k=true→dstAt ops k≠some t)→tmpD ops σ D n t=tmpD ops σ D i t
 |0,hi,_=>by have:i=0:=by omega
             subst this;rfl
 |n+1,hi,h=>by
  by_cases he:i=n+1
  ·subst he;rfl
  ·rw[Zdx];rw[if_neg (λhx=>h n (by omega) (Nat.lt_succ_self n) hx.1 hx.2)]
   exact Zi1 (by omega) (λk h1 h2=>h k h1 (by omega))
theorem Zl6:∀{n:Nat},(∀k,k<n→D k=false)→tmpD ops σ D n=(σ 0).get
 |0,_=>rfl
 |n+1,h=>by
  funext r
  rw[Zdx];rw[if_neg (λhx=>by rw[h n (Nat.lt_succ_self n)]at hx;exact absurd hx.1 (by simp)),Zl6 (λk hk=>h k (by omega))]
theorem Zi2{i t:Nat}(hr:dstAt ops i≠some t):∀{n:Nat},tmpD ops σ (λk=>D k||k==i) n t=tmpD ops σ D n t
 |0=>rfl
 |n+1=>by
  rw[Zdx,Zdx];by_cases hn:n=i
  ·subst hn;rw[if_neg (λh=>hr h.2),if_neg (λh=>hr h.2)];exact Zi2 hr
  ·have:(D n||n==i)=D n:=by simp[hn]
   rw[this,Zi2 hr]
theorem Zua{i t:Nat}(hr:dstAt ops i=some t){n:Nat}(hi:i<n)(h:∀k,i<k→k<n→D k=true→dstAt ops k≠some t):tmpD ops σ (λk=>D k||k==i) n t=(σ (i+1)).get t:=by
 rw[Zi1 (i:=i+1) (by omega) (λk h1 h2 h3=>h k (by omega) h2 (by
  have:(k==i)=false:=by simp;omega
  simpa[this]using h3))]
 rw[Zdx];rw[if_pos ⟨by simp,hr⟩]
end
def Closed(ops:List Oper)(D:Nat→Bool):Prop:=∀j o,ops[j]?=some o→D j=true→∀e∈o.after.toList,Region.binds .any e=true→D e.on=true
theorem Znt{α:Type}{p:List α→Prop}(h0:p [])(h1:∀l a,p l→p (l++[a]))(l:List α):p l:=by
 have key:∀m:List α,p m.reverse:=by
  intro m;induction m with
  |nil=>exact h0
  |cons a m ih=>rw[List.reverse_cons];exact h1 _ _ ih
 have:=key l.reverse
 rwa [List.reverse_reverse]at this
theorem Zhy(l:List Oper)(o:Oper):aheads (l++[o])=aheads l++[edgeMask (aheads l) (o.after.toList.filter (Region.binds .any))]:=by
 unfold aheads;rw[List.foldl_append];rfl
theorem Zf0{acc:List Nat}{i:Nat}:∀{es:List Edge} {m:Nat},Nat.testBit (es.foldl (λm e=>Nat.lor m (Nat.lor (Nat.shiftLeft 1 e.on) (acc.getD e.on 0))) m) i=true→Nat.testBit m i=true∨∃e∈es,i=e.on∨Nat.testBit (acc.getD e.on 0) i=true
 |[],m,h=>.inl h
 |e::es,m,h=>by
  rw[List.foldl_cons]at h;rcases Zf0 h with h|⟨e',he,h⟩
  ·have h1:Nat.testBit (m |||(1 <<< e.on |||acc.getD e.on 0)) i=true:=h;rw[Nat.testBit_or,Nat.testBit_or,Bool.or_eq_true,Bool.or_eq_true]at h1;rcases h1 with h1|h1|h1
   ·exact .inl h1
   ·refine .inr ⟨e,by simp,.inl ?_⟩
    rw[Nat.testBit_shiftLeft,Bool.and_eq_true,decide_eq_true_eq]at h1;by_cases hz:i-e.on=0
    ·have:=h1.1;omega
    ·exfalso;have h2:=h1.2;obtain⟨k,hk⟩:=Nat.exists_eq_succ_of_ne_zero hz;rw[hk,Nat.testBit_succ]at h2;simp at h2
   ·exact .inr ⟨e,by simp,.inr h1⟩
  ·exact .inr ⟨e',by simp[he],h⟩
theorem Zcx(l:List Oper):(aheads l).length=l.length:=by
 induction l using Znt with
 |h0=>rfl
 |h1 l o ih=>rw[Zhy,List.length_append,List.length_append,ih];rfl
theorem Zfv{D:Nat→Bool}(l:List Oper):Closed l D→∀{j:Nat} {o:Oper} {i:Nat},l[j]?=some o→(∀e∈o.after.toList,Region.binds .any e=true→D e.on=true)→Nat.testBit ((aheads l).getD j 0) i=true→D i=true:=by
 induction l using Znt with
 |h0=>intro _ j o i hj;simp at hj
 |h1 l o' ih=>
  intro hc j o i hj he hi;have hc':Closed l D:=λj o hj=>hc j o (by
   have:j<l.length:=(List.getElem?_eq_some_iff.1 hj).1;rw[List.getElem?_append_left this];exact hj)
  rw[Zhy]at hi;by_cases hl:j<l.length
  ·rw[List.getElem?_append_left hl]at hj;rw[List.getD_eq_getElem?_getD,List.getElem?_append_left (by rw[Zcx];exact hl),←List.getD_eq_getElem?_getD]at hi
   exact ih hc' hj he hi
  ·have hjl:j=l.length:=by
    have:=(List.getElem?_eq_some_iff.1 hj).1;rw[List.length_append,List.length_singleton]at this;omega
   subst hjl;rw[List.getElem?_append_right (Nat.le_refl _)]at hj;simp only[Nat.sub_self,List.getElem?_cons_zero,Option.some.injEq]at hj;subst hj;rw[List.getD_eq_getElem?_getD,List.getElem?_append_right (by rw[Zcx];exact Nat.le_refl _),Zcx]at hi
   simp only[Nat.sub_self,List.getElem?_cons_zero,Option.getD_some]at hi;rcases Zf0 hi with hi|⟨e,hem,hi⟩
   ·simp at hi
   obtain⟨h1,h2⟩:=List.mem_filter.1 hem;have hde:=he e h1 h2;rcases hi with rfl|hi
   ·exact hde
   ·have hlt:e.on<l.length:=by
     rcases Nat.lt_or_ge e.on l.length with h|h
     ·exact h
     ·rw[List.getD_eq_getElem?_getD,List.getElem?_eq_none (by rw[Zcx];exact h)]at hi;simp at hi
    have hoe:l[e.on]?=some l[e.on]:=List.getElem?_eq_getElem hlt;exact ih hc' hoe (λe' he' hb'=>hc' e.on _ hoe hde e' he' hb') hi
theorem Zh8{xs ys:List Nat}(h:hit xs ys=false){r:Nat}(h1:r∈xs)(h2:r∈ys):False:=by
 unfold hit at h;rw[List.any_eq_false]at h;exact h r h1 (List.contains_iff_mem.2 h2)
structure Indep(ops:List Oper)(x y:Oper)(tx ty:Touch):Prop where
 wr:∀r,r∈tx.writes→r∉ty.reads∧r∉ty.writes
 rw:∀r,r∈ty.writes→r∉tx.reads
 a1:apartOps ops x y=true
 a2:apartOps ops y x=true
theorem Zfk{ops:List Oper}{τ:Nat→Touch}(h:drawOk ops ((List.range ops.length).map τ)=true){j:Nat}{oj:Oper}(hj:ops[j]?=some oj):
  (∀e∈oj.after.toList,Region.binds .any e=true→e.on<j)∧∀i oi,i<j→ops[i]?=some oi→Nat.testBit ((aheads ops).getD j 0) i=true∨Indep ops oi oj (τ i) (τ j):=by
 unfold drawOk at h;simp only at h;have hjl:=(List.getElem?_eq_some_iff.1 hj).1;have h1:=List.all_eq_true.1 h j (List.mem_range.2 hjl);rw[Bool.and_eq_true]at h1;have hoj:ops.getD j default=oj:=by rw[List.getD_eq_getElem?_getD,hj];rfl
 refine⟨λe he hb=>?_,λi oi hij hi=>?_⟩
 ·have:=List.all_eq_true.1 h1.1 e (by rw[hoj];exact he)
  rw[hb]at this;simpa using this
 ·have h2:=List.all_eq_true.1 h1.2 i (List.mem_range.2 hij);have hoi:ops.getD i default=oi:=by rw[List.getD_eq_getElem?_getD,hi];rfl
  have hti:((List.range ops.length).map τ).getD i ⟨[],[]⟩=τ i:=by
   rw[List.getD_eq_getElem?_getD,List.getElem?_map,List.getElem?_range (by omega)];rfl
  have htj:((List.range ops.length).map τ).getD j ⟨[],[]⟩=τ j:=by
   rw[List.getD_eq_getElem?_getD,List.getElem?_map,List.getElem?_range hjl];rfl
  rw[hoi,hoj,hti,htj]at h2;simp only[Bool.or_eq_true,Bool.and_eq_true,Bool.not_eq_true']at h2;rcases h2 with h2|⟨⟨⟨h3,h4⟩,h5⟩,h6⟩
  ·exact .inl h2
  ·refine .inr ⟨λr hr=>⟨λhx=>Zh8 h3 hr (List.mem_append_left _ hx),λhx=>Zh8 h3 hr (List.mem_append_right _ hx)⟩,λr hr hx=>Zh8 h4 hr hx,h5,h6⟩
theorem Zff{ops:List Oper}{x y:Oper}(h:apartOps ops x y=true){d:Tmp}(hd:x.dst=some d):d∉names ops y∧y.dst≠some d:=by
 unfold apartOps at h;rw[hd]at h;simp only[Bool.and_eq_true,Bool.not_eq_true',bne_iff_ne,ne_eq]at h;exact⟨λhx=>by rw[List.contains_iff_mem.2 hx]at h;exact absurd h.1 (by simp),h.2⟩
theorem Zky{st:St}{dst:Option Tmp}{e:Eff}(r:Nat):memOf (applyEff st dst e) r=if r<st.mem.length then Zao (memOf st) e.upd r else e.new.getD (r-st.mem.length) deadRoot:=by
 unfold memOf applyEff;simp only;by_cases h1:r<st.mem.length
 ·rw[if_pos h1,List.getD_eq_getElem?_getD,List.getElem?_append_left (by rw[Zbc];exact h1),←List.getD_eq_getElem?_getD]
  exact Zh6 h1
 ·rw[if_neg h1,List.getD_eq_getElem?_getD,List.getElem?_append_right (by rw[Zbc];omega),Zbc]
  exact(List.getD_eq_getElem?_getD ..).symm
theorem Zfg(st:St)(dst:Option Tmp)(e:Eff):(applyEff st dst e).temps=(st.put dst e.val).temps:=by cases dst<;>rfl
theorem Zjv(st:St)(dst:Option Tmp)(v:TV):(st.put dst v).temps.length=st.temps.length:=by
 cases dst with
 |none=>rfl
 |some d=>simp[St.put]
theorem Zju{st:St}{dst:Option Tmp}{v:TV}{t:Nat}(h:dst≠some t):(st.put dst v).get t=st.get t:=by
 cases dst with
 |none=>rfl
 |some d=>
  have:t≠d:=λhe=>h (by rw[he])
  simp[St.put,St.get,List.getD_eq_getElem?_getD,List.getElem?_set_ne (Ne.symm this)]
theorem Zhq{st:St}{t:Nat}{v:TV}(h:t<st.temps.length):(st.put (some t) v).get t=v:=by
 simp[St.put,St.get,List.getD_eq_getElem?_getD,h]
section
variable {P : Program} {ops : List Oper} {o : Oper} {st st' : St} {t : Touch}
theorem Step.still(h:Step P ops o st st' t){r:Nat}(hr:r∉t.writes):memOf st' r=memOf st r:=by
 rcases h with⟨_,e,rfl,_,hc⟩|⟨_,rfl,rfl⟩
 ·rw[Zky];split
  ·exact hc.still (memOf st) (Zf8 st _) r hr
  ·rename_i hl;rw[Zbz st (by omega),List.getD_eq_getElem?_getD,List.getElem?_eq_none]
   ·rfl
   ·rcases Nat.lt_or_ge (r-st.mem.length) e.new.length with h1|h1
    ·exact absurd (hc.new r ⟨by omega,by omega⟩) hr
    ·exact h1
 ·unfold memOf;rw[Zmr]
theorem Step.tmp(h:Step P ops o st st' t){x:Nat}(hx:o.dst≠some x):st'.get x=st.get x:=by
 rcases h with⟨_,e,rfl,_,hc⟩|⟨_,rfl,rfl⟩
 ·unfold St.get;rw[Zfg];exact Zju hx
 ·exact Zju hx
theorem Step.size(h:Step P ops o st st' t):st'.temps.length=st.temps.length:=by
 rcases h with⟨_,e,rfl,_,hc⟩|⟨_,rfl,rfl⟩
 ·rw[Zfg,Zjv]
 ·rw[Zjv]
theorem Step.long(h:Step P ops o st st' t):st.mem.length≤st'.mem.length:=by
 rcases h with⟨_,e,rfl,_,hc⟩|⟨_,rfl,rfl⟩
 ·exact Zhe _ _ _
 ·rw[Zmr];exact Nat.le_refl _
end
theorem Zkj{ops:List Oper}{o:Oper}{t:Tmp}(h:Operand.tmp t∈operandsOf o.op):t∈names ops o:=by
 unfold names;refine List.mem_append_left _ (List.mem_filterMap.2 ⟨.tmp t,?_,rfl⟩);unfold operandsOf at h;split at h
 ·rename_i c hc;rw[hc];show _∈(Call.operands c).toList;unfold Call.operands;rw[Array.toList_append];exact List.mem_append_right _ h
 ·exact h
theorem Zli{st:St}{vs:List TV}{M:Mem}(h:∀r∈vs.flatMap TV.roots,M r=memOf st r):Zao M (st.look vs)=M:=by
 funext r
 by_cases hr:r∈(st.look vs).keys
 ·have h1:Zao M (st.look vs) r=Zao (memOf st) (st.look vs) r:=by rw[Zc2 hr,Zc2 hr]
  rw[h1,Zf8,h r (by rw[Zf7]at hr;exact Zcp.1 hr)]
 ·exact Ze4 hr
theorem Zk6:∀{l:List Bool} {i:Nat},l[i]?=some false→(l.set i true).count false+1=l.count false
 |[],i,h=>by simp at h
 |x::l,0,h=>by
  simp only[List.getElem?_cons_zero,Option.some.injEq]at h;subst h;simp
 |x::l,i+1,h=>by
  rw[List.getElem?_cons_succ]at h;have ih:=Zk6 h;rw[List.set_cons_succ,List.count_cons,List.count_cons];omega
section
variable {X : Ctx} {ops : Array Oper} {σ : Nat → St} {τ : Nat → Touch} {w0 : World} {S F0 : FP} {n0 : Nat} {M0 : Mem} {L0 : Lay}
structure Part(ops:Array Oper)(σ:Nat→St)(τ:Nat→Touch)(w0:World)(S F0:FP)(n0:Nat)(M0:Mem)(L0:Lay)(D:Nat→Bool)(a:Act)(w:World)(L:Lay):Prop where
 rep:MemRep w S (memD σ τ D ops.size) L
 size:a.tmps.size=(σ 0).temps.length
 tmps:∀t,t<(σ 0).temps.length→tvRep w S (memD σ τ D ops.size) L (tmpD ops.toList σ D ops.size t) (a.tmps.getD t undef)
 defers:a.defers=[]
 since:Since w0 S F0 n0 M0 L0 w (memD σ τ D ops.size) L
 long:n0≤(σ 0).mem.length
variable (hst : ∀ i o, ops.toList[i]? = some o → Step X.P ops.toList o (σ i) (σ (i + 1)) (τ i))
include hst
theorem Zvd:∀i,i≤ops.size→(σ i).temps.length=(σ 0).temps.length∧(σ 0).mem.length≤(σ i).mem.length
 |0,_=>⟨rfl,Nat.le_refl _⟩
 |i+1,h=>by
  have hi:ops.toList[i]?=some ops[i]:=by
   rw[List.getElem?_eq_getElem (by simp;omega)];simp
  obtain⟨h1,h2⟩:=Zvd i (by omega)
  exact⟨(hst i _ hi).size.trans h1,Nat.le_trans h2 (hst i _ hi).long⟩
variable (hok : drawOk ops.toList ((List.range ops.size).map τ) = true)
include hok
theorem Zt1{i:Nat}{o:Oper}{D:Nat→Bool}{a:Act}{w:World}{L:Lay}{next:Act→World→Prop}{Q:Exit→Act→World→Prop}(hi:ops.toList[i]?=some o)(hc:Closed ops.toList D)(hDi:D i=false)
  (hready:∀e∈o.after.toList,Region.binds .any e=true→D e.on=true) (hp:Part ops σ τ w0 S F0 n0 M0 L0 D a w L)
  (hn:∀a' w' L',Part ops σ τ w0 S F0 n0 M0 L0 (λk=>D k||k==i) a' w' L'→next a' w'):wpOp X.P ops Q i next a w:=by
 have hil:i<ops.toList.length:=(List.getElem?_eq_some_iff.1 hi).1;have hin:i<ops.size:=by simpa using hil
 have hstep:=hst i o hi;have hok':drawOk ops.toList ((List.range ops.toList.length).map τ)=true:=by simpa using hok
 have hat:∀k,k<ops.size→∃ok,ops.toList[k]?=some ok:=λk hk=>⟨_,List.getElem?_eq_getElem (by simpa using hk)⟩
 have before:∀k ok,k<i→ops.toList[k]?=some ok→D k=true∨Indep ops.toList ok o (τ k) (τ i):=λk ok hk hko=>by
  rcases(Zfk hok' hi).2 k ok hk hko with h|h
  ·exact .inl (Zfv _ hc hi hready h)
  ·exact .inr h
 have behind:∀k ok,i<k→ops.toList[k]?=some ok→D k=true→Indep ops.toList o ok (τ i) (τ k):=λk ok hk hko hD=>by
  rcases(Zfk hok' hko).2 i o hk hi with h|h
  ·have:=Zfv _ hc hko (hc k ok hko hD) h;rw[hDi]at this;cases this
  ·exact h
 have still:∀r k,k<i→r∉(τ k).writes→memOf (σ (k+1)) r=memOf (σ k) r:=λr k hk hr=>by
  obtain⟨ok,hko⟩:=hat k (by omega)
  exact(hst k ok hko).still hr
 have stillT:∀t k,k<i→dstAt ops.toList k≠some t→(σ (k+1)).get t=(σ k).get t:=λt k hk hr=>by
  obtain⟨ok,hko⟩:=hat k (by omega)
  refine(hst k ok hko).tmp (λh=>hr ?_);unfold dstAt;rw[hko];exact h
 have later:∀r,(r∈(τ i).reads∨r∈(τ i).writes)→∀k,i<k→k<ops.size→D k=true→r∉(τ k).writes:=λr hr k hk hkn hD hw=>by
  obtain⟨ok,hko⟩:=hat k hkn;have ind:=behind k ok hk hko hD;rcases hr with hr|hr
  ·exact ind.rw r hw hr
  ·exact(ind.wr r hr).2 hw
 have memEq:∀r,(r∈(τ i).reads∨r∈(τ i).writes)→memD σ τ D ops.size r=memOf (σ i) r:=λr hr=>by
  rw[Zid (i:=i) (by omega) (λk h1 h2 h3 hw=>by
   by_cases hki:k=i
   ·subst hki;rw[hDi]at h3;cases h3
   ·exact later r hr k (by omega) h2 h3 hw)]
  refine Zie (still r) (λk hk hw=>?_);obtain⟨ok,hko⟩:=hat k (by omega)
  rcases before k ok hk hko with h|h
  ·exact h
  ·rcases hr with hr|hr
   ·exact absurd hr (h.wr r hw).1
   ·exact absurd hr (h.wr r hw).2
 have tmpEq:∀t,t∈names ops.toList o→tmpD ops.toList σ D ops.size t=(σ i).get t:=λt ht=>by
  rw[Zi1 (i:=i) (by omega) (λk h1 h2 h3 hw=>by
   by_cases hki:k=i
   ·subst hki;rw[hDi]at h3;cases h3
   ·obtain⟨ok,hko⟩:=hat k h2;have ind:=behind k ok (by omega) hko h3
    refine(Zff ind.a2 (d:=t) ?_).1 ht;unfold dstAt at hw;rw[hko]at hw;exact hw)]
  refine Zi3 (stillT t) (λk hk hw=>?_);obtain⟨ok,hko⟩:=hat k (by omega)
  rcases before k ok hk hko with h|h
  ·exact h
  ·refine absurd ht (Zff h.a1 (d:=t) ?_).1;unfold dstAt at hw;rw[hko]at hw;exact hw
 have hdst:∀t,o.dst=some t→dstAt ops.toList i=some t:=λt ht=>by unfold dstAt;rw[hi];exact ht
 have laterT:∀t,o.dst=some t→∀k,i<k→k<ops.size→D k=true→dstAt ops.toList k≠some t:=λt ht k hk hkn hD hw=>by
  obtain⟨ok,hko⟩:=hat k hkn;have ind:=behind k ok hk hko hD;refine(Zff ind.a1 ht).2 ?_;unfold dstAt at hw;rw[hko]at hw;exact hw
 have newT:∀t,t<(σ 0).temps.length→tmpD ops.toList σ (λk=>D k||k==i) ops.size t=if o.dst=some t then(σ (i+1)).get t else tmpD ops.toList σ D ops.size t:=λt ht=>by
  by_cases hd:o.dst=some t
  ·rw[if_pos hd];exact Zua (hdst t hd) hin (laterT t hd)
  ·rw[if_neg hd];refine Zi2 (λh=>hd ?_);unfold dstAt at h;rw[hi]at h;exact h
 obtain⟨hsz,hml⟩:=Zvd hst i (by omega)
 have tv:∀t,t∈names ops.toList o→tvRep w S (memD σ τ D ops.size) L ((σ i).get t) (a.tmps.getD t undef):=λt ht=>by
  by_cases htl:t<(σ 0).temps.length
  ·rw[←tmpEq t ht];exact hp.tmps t htl
  ·unfold St.get;rw[List.getD_eq_getElem?_getD,List.getElem?_eq_none (by rw[hsz];exact Nat.le_of_not_lt htl)]
   trivial
 have hoi:ops[i]?=some o:=by simpa using hi
 have wanted:∀b,GuardIs ops.toList o (σ i) b→Region.wanted o (yielded ops a.tmps)=b:=λb hg=>by
  unfold GuardIs at hg;unfold Region.wanted;split at hg
  ·rename_i hgd;rw[hgd,hg]
  ·rename_i g want hgd;obtain⟨d,h1,hg⟩:=hg;have hdn:d∈names ops.toList o:=by
    unfold names;refine List.mem_append_right _ ?_;rw[hgd];simp only;rw[h1];simp
   have h3:=tv d hdn;have e1:(ops[g]?).bind (·.dst)=some d:=by rw[←h1];simp
   rw[hgd];simp only;rcases hg with⟨c,h2,rfl⟩|⟨h2,rfl⟩
   ·rw[h2]at h3;have h4:a.tmps.getD d undef=.bool c:=h3.2.1;have hdl:=Zvp h2;have hy:yielded ops a.tmps g=some c:=by
     unfold yielded;rw[e1];simp only[Option.bind_some];have hlt:d<a.tmps.size:=by rw[hp.size,←hsz];exact hdl
     have:a.tmps[d]?=some (.bool c):=by
      rw[←h4];simp[Array.getD,hlt]
     rw[this]
    rw[hy];cases c<;>cases want<;>rfl
   ·rw[h2]at h3;have h4:a.tmps.getD d undef=undef:=h3;have hdl:=Ztf h2;have hy:yielded ops a.tmps g=none:=by
     unfold yielded;rw[e1];simp only[Option.bind_some];have hlt:d<a.tmps.size:=by rw[hp.size,←hsz];exact hdl
     have:a.tmps[d]?=some undef:=by
      rw[←h4];simp[Array.getD,hlt]
     rw[this];rfl
    rw[hy];rfl
 unfold wpOp;rw[hoi];simp only;rcases hstep with⟨hg,e,hσ,hact,hcov⟩|⟨hg,hσ,hτ⟩
 ·rw[if_pos (wanted true hg)];refine .inl ?_;have hover:Zao (memD σ τ D ops.size) ((σ i).look (seen o.op (valsOf o (σ i))))=memD σ τ D ops.size:=Zli (λr hr=>memEq r (.inl (hcov.reads r hr)));have hops:opsRep w S (memD σ τ D ops.size) L (valsOf o (σ i)) ((operandsOf o.op).map a.eval):=by
   have key:∀xs:List Operand,(∀x∈xs,x∈operandsOf o.op)→opsRep w S (memD σ τ D ops.size) L (xs.map (σ i).operand) (xs.map a.eval):=by
    intro xs;induction xs with
    |nil=>intro _;trivial
    |cons x xs ih=>
     intro h;refine⟨?_,ih (λy hy=>h y (by simp[hy]))⟩
     cases x with
     |tmp t=>exact tv t (Zkj (h _ (by simp)))
     |const v=>
      show cRep w S (memD σ τ D ops.size) L (ofValue 0 v) v;unfold ofValue;split
      ·exact⟨rfl,rfl,λ_ h=>h⟩
      ·exact⟨rfl,rfl,λ_ h=>h⟩
      ·exact⟨rfl,rfl,λ_ h=>h⟩
      ·rfl
      ·trivial
     |_=>trivial
   exact key _ (λx hx=>hx)
  have hfresh:∀r,newOf (σ i).mem.length e.new.length r→(memD σ τ D ops.size r).born=false:=λr hr=>by
   rw[memEq r (.inr (hcov.new r hr)),Zbz (σ i) hr.1];rfl
  refine hact w S _ L a next Q hp.rep hover hfresh hops (λv w' L' hv ht=>?_)
  have hmem:addNew (Zao (memD σ τ D ops.size) e.upd) (σ i).mem.length e.new=memD σ τ (λk=>D k||k==i) ops.size:=by
   funext r
   by_cases hr:r∈(τ i).writes
   ·rw[Zts hr hin (later r (.inr hr)),hσ,Zky];by_cases hnew:newOf (σ i).mem.length e.new.length r
    ·rw[if_neg (by have:=hnew.1;omega)]
     unfold addNew;exact if_pos hnew
    ·rw[Zbq hnew];have hroot:=(hcov.writes r hr).resolve_right hnew;have hlt:r<(σ i).mem.length:=by
      have hb:=Zgj hops r hroot;rw[memEq r (.inr hr)]at hb;rcases Nat.lt_or_ge r (σ i).mem.length with h|h
      ·exact h
      ·rw[Zbz (σ i) h]at hb;cases hb
     rw[if_pos hlt];by_cases hk:r∈Look.keys e.upd
     ·rw[Zc2 hk,Zc2 hk]
     ·rw[Ze4 hk,Ze4 hk];exact memEq r (.inr hr)
   ·rw[Zga hr];rw[Zbq (λh=>hr (hcov.new r h))];exact hcov.still _ hover r hr
  rw[hmem]at hv ht;refine hn (a.put o.dst v) w' L' ⟨ht.rep,?_,λt htl=>?_,?_,hp.since.step ht (λr hr=>Nat.le_trans hp.long (Nat.le_trans hml hr.1)),hp.long⟩
  ·rw[←hp.size];cases o.dst<;>simp[Act.put]
  ·rw[newT t htl];by_cases hd:o.dst=some t
   ·rw[if_pos hd,hσ];have e1:(applyEff (σ i) o.dst e).get t=e.val:=by
     unfold St.get;rw[Zfg,hd];exact Zhq (by omega)
    have e2:(a.put o.dst v).tmps.getD t undef=v:=by
     rw[hd];have:t<a.tmps.size:=by rw[hp.size];exact htl
     simp[Act.put,this]
    rw[e1,e2];exact hv
   ·rw[if_neg hd];have e2:(a.put o.dst v).tmps.getD t undef=a.tmps.getD t undef:=by
     cases hx:o.dst with
     |none=>rfl
     |some d=>
      have:d≠t:=λhe=>hd (by rw[hx,he])
      simp[Act.put,Array.getElem?_setIfInBounds_ne this]
    rw[e2];exact Zcg (λc u hc=>ht.cRep hp.rep hfresh hc) (ht.f hfresh) (hp.tmps t htl)
  ·have:=hp.defers;cases o.dst<;>exact this
 ·rw[if_neg (by rw[wanted false hg];simp)]
  have hmem:memD σ τ (λk=>D k||k==i) ops.size=memD σ τ D ops.size:=by
   funext r
   exact Zga (by rw[hτ];simp)
  refine hn (a.put o.dst undef) w L ⟨by rw[hmem];exact hp.rep,?_,λt htl=>?_,?_,by rw[hmem];exact hp.since,hp.long⟩
  ·rw[←hp.size];cases o.dst<;>simp[Act.put]
  ·rw[newT t htl,hmem];by_cases hd:o.dst=some t
   ·rw[if_pos hd,hσ,hd,Zhq (by omega)]
    have e2:(a.put (some t) undef).tmps.getD t undef=undef:=by
     have:t<a.tmps.size:=by rw[hp.size];exact htl
     simp[Act.put,this]
    rw[e2];rfl
   ·rw[if_neg hd];have e2:(a.put o.dst undef).tmps.getD t undef=a.tmps.getD t undef:=by
     cases hx:o.dst with
     |none=>rfl
     |some d=>
      have:d≠t:=λhe=>hd (by rw[hx,he])
      simp[Act.put,Array.getElem?_setIfInBounds_ne this]
    rw[e2];exact hp.tmps t htl
  ·have:=hp.defers;cases o.dst<;>exact this
theorem Zu8{R:Type}{K:St→Option R}{res:R}{Q:Exit→Act→World→Prop}(hK:∀a' w' L',Rel w0 S F0 n0 M0 L0 (σ ops.size) a' w' L'→Q .normal a' w'):
  ∀(fuel:Nat) (listed:Array Bool) (a:Act) (w:World) (L:Lay),listed.size=ops.size→listed.toList.count false=fuel→Closed ops.toList (λk=>listed.getD k false)→Part ops σ τ w0 S F0 n0 M0 L0 (λk=>listed.getD k false) a w L→
   wpAny X.P .any ops Q fuel listed a w:=by
 have hok':drawOk ops.toList ((List.range ops.toList.length).map τ)=true:=by simpa using hok
 have ready_iff:∀(listed:Array Bool) (i:Nat),listed.size=ops.size→(i∈Region.ready .any ops listed↔∃o,ops.toList[i]?=some o∧listed.getD i false=false∧∀e∈o.after.toList,Region.binds .any e=true→listed.getD e.on false=true):=by
  intro listed i hs;unfold Region.ready;rw[List.mem_filter,List.mem_range];constructor
  ·rintro⟨h1,h2⟩;rw[Bool.and_eq_true]at h2;have hoi:ops[i]?=some ops[i]:=Array.getElem?_eq_getElem h1;rw[hoi]at h2;simp only[Option.map_some,Option.getD_some,Array.all_eq_true',Bool.or_eq_true,Bool.not_eq_true']at h2;refine⟨ops[i],by simp,?_,λe he hb=>?_⟩
   ·have:=h2.1;have hlt:i<listed.size:=by omega
    simp only[Array.getD,hlt,dite_true]at this⊢;simpa using this
   ·rcases h2.2 e (by simpa using he)with h|h
    ·rw[hb]at h;cases h
    ·exact h
  ·rintro⟨o,h1,h2,h3⟩;have hoi:ops[i]?=some o:=by simpa using h1
   have hlt:i<ops.size:=(Array.getElem?_eq_some_iff.1 hoi).1;refine⟨hlt,?_⟩;rw[Bool.and_eq_true,hoi];simp only[Option.map_some,Option.getD_some,Array.all_eq_true',Bool.or_eq_true,Bool.not_eq_true'];refine⟨?_,λe he=>?_⟩
   ·have hlt:i<listed.size:=by omega
    simp only[Array.getD,hlt,dite_true]at h2⊢;simpa using h2
   ·cases hb:Region.binds .any e with
    |false=>exact .inl rfl
    |true=>exact .inr (h3 e (by simpa using he) hb)
 have done:∀(listed:Array Bool) (a:Act) (w:World) (L:Lay),listed.size=ops.size→(∀i,i<ops.size→listed.getD i false=true)→Part ops σ τ w0 S F0 n0 M0 L0 (λk=>listed.getD k false) a w L→Q .normal a w:=by
  intro listed a w L hs hall hp;have still:∀r k,k<ops.size→r∉(τ k).writes→memOf (σ (k+1)) r=memOf (σ k) r:=λr k hk hr=>
   (hst k _ (List.getElem?_eq_getElem (by simpa using hk))).still hr
  have hmem:memD σ τ (λk=>listed.getD k false) ops.size=memOf (σ ops.size):=by
   funext r
   exact Zie (still r) (λk hk _=>hall k hk)
  have htmp:∀t,tmpD ops.toList σ (λk=>listed.getD k false) ops.size t=(σ ops.size).get t:=λt=>
   Zi3 (λk hk hr=>(hst k _ (List.getElem?_eq_getElem (by simpa using hk))).tmp (λh=>hr (by
    unfold dstAt;rw[List.getElem?_eq_getElem (by simpa using hk)];exact h))) (λk hk _=>hall k hk)
  obtain⟨hsz,hml⟩:=Zvd hst ops.size (Nat.le_refl _);refine hK a w L ⟨by rw[←hmem];exact hp.rep,by rw[hsz];exact hp.size,λt ht=>?_,hp.defers,by rw[←hmem];exact hp.since,Nat.le_trans hp.long hml⟩
  rw[←hmem,←htmp t];exact hp.tmps t (by omega)
 have none_ready:∀(listed:Array Bool),listed.size=ops.size→Region.ready .any ops listed=[]→∀i,i<ops.size→listed.getD i false=true:=by
  intro listed hs hr i;induction i using Nat.strongRecOn with
  |_ i ih=>
   intro hi;cases hd:listed.getD i false with
   |true=>rfl
   |false=>
    exfalso;have hoi:ops.toList[i]?=some (ops.toList[i]'(by simpa using hi)):=List.getElem?_eq_getElem (by simpa using hi)
    have hm:i∈Region.ready .any ops listed:=(ready_iff listed i hs).2 ⟨_,hoi,hd,λe he hb=>by
     have hlt:=(Zfk hok' hoi).1 e he hb;exact ih e.on hlt (by omega)⟩
    rw[hr]at hm;cases hm
 intro fuel;induction fuel with
 |zero=>
  intro listed a w L hs hcnt hc hp;have hall:∀i,i<ops.size→listed.getD i false=true:=λi hi=>by
   have hlt:i<listed.size:=by omega
   have hno:=List.count_eq_zero.1 hcnt;cases hx:listed.getD i false with
   |true=>rfl
   |false=>
    exfalso;apply hno;simp only[Array.getD,hlt,dite_true]at hx;rw[←hx];simp
  refine⟨?_,done listed a w L hs hall hp⟩;cases hr:Region.ready .any ops listed with
  |nil=>rfl
  |cons i rest=>
   exfalso;have hm:i∈Region.ready .any ops listed:=by rw[hr];simp
   obtain⟨o,h1,h2,_⟩:=(ready_iff listed i hs).1 hm;have:=hall i (by simpa using(List.getElem?_eq_some_iff.1 h1).1)
   rw[h2]at this;cases this
 |succ fuel ih=>
  intro listed a w L hs hcnt hc hp;refine⟨λhr=>done listed a w L hs (none_ready listed hs hr) hp,λi him=>?_⟩;obtain⟨o,h1,h2,h3⟩:=(ready_iff listed i hs).1 him;have hlt:i<listed.size:=by
   have:=(List.getElem?_eq_some_iff.1 h1).1;rw[hs];simpa using this
  have hD:(λk=>(listed.setIfInBounds i true).getD k false)=λk=>listed.getD k false||k==i:=by
   funext k
   rw[Array.getD_eq_getD_getElem?,Array.getD_eq_getD_getElem?,Array.getElem?_setIfInBounds];by_cases hk:i=k
   ·subst hk;simp[hlt]
   ·have:(k==i)=false:=by simp;omega
    rw[if_neg hk,this,Bool.or_false]
  refine Zt1 hst hok h1 hc h2 h3 hp (λa' w' L' hp'=>?_);refine ih _ a' w' L' (by simp[hs]) ?_ ?_ (by rw[hD];exact hp')
  ·have hf:listed.toList[i]?=some false:=by
    simp only[Array.getD,hlt,dite_true]at h2;rw[←h2];simp[hlt]
   have:=Zk6 hf;rw[Array.toList_setIfInBounds];omega
  ·rw[hD];intro j oj hj hDj e he hb;simp only[Bool.or_eq_true,beq_iff_eq]at hDj⊢;rcases hDj with hDj|rfl
   ·exact .inl (hc j oj hj hDj e he hb)
   ·rw[h1]at hj;injection hj with hj;subst hj;exact .inl (h3 e he hb)
end
theorem Zko{R:Type}{X:Ctx}{call:CallF}(hs:Sound X.P X.H call)(hm:X.P.follows .mixedOrders=true):RegionsSound X call R:=by
 intro w0 S F0 n0 M0 L0 id ops draw st K res Q a w L h hR hK;cases draw with
 |false=>
  refine wp_region ?_;have:=Zeq (w0:=w0) (S:=S) (F0:=F0) (n0:=n0) (M0:=M0) (L0:=L0) hs (ops:=ops) (Q:=Q) ops.toList 0 st [] a w L (λi=>by simp) h hR (λst' log' a' w' L' h2 hR2 hl=>by
   simp only[Bool.not_false,Bool.true_or,cond_true]at h2;exact hK st' a' w' L' h2 hR2 hl)
  rw[List.range_eq_range'];simpa using this
 |true=>
  refine wp_region_any hm ?_;obtain⟨σ,τ,h1,h2,h3⟩:=Zhr hs ops.toList st [] h;simp only[Bool.not_true,Bool.false_or,List.nil_append]at h2;cases hok:drawOk ops.toList ((List.range ops.toList.length).map τ)with
  |false=>rw[hok]at h2;cases h2
  |true=>
   rw[hok]at h2;simp only[cond_true]at h2;have hsz:ops.toList.length=ops.size:=by simp
   rw[hsz]at h2 hok;have hnone:∀k,k<ops.size→(Array.replicate ops.size false).getD k false=false:=λk hk=>by simp[Array.getD,hk]
   have hml:=(Zvd h3 ops.size (Nat.le_refl _)).2;refine Zu8 h3 hok (K:=K) (res:=res) (λa' w' L' hR'=>hK (σ ops.size) a' w' L' h2 hR' (by rw[←h1];exact hml)) ops.size _ a _ L (by simp) (by simp) (λj o hj hD=>?_) ?_
   ·have:j<ops.size:=by simpa using(List.getElem?_eq_some_iff.1 hj).1
    have hD':(Array.replicate ops.size false).getD j false=true:=hD;rw[hnone j this]at hD';cases hD'
   ·have hw:∀b:Nat,({ w with drawn:=w.drawn+1 }:World).heap[b]?=w.heap[b]?:=λ_=>rfl;have hrep:∀{M:Mem} {L:Lay},MemRep w S M L→MemRep { w with drawn:=w.drawn+1 } S M L:=λhm=>⟨λr hr=>Zbp (w:=w) (w':={ w with drawn:=w.drawn+1 }) (λb hb=>⟨hb,rfl⟩) (hm.rep r hr) (λ_ _=>rfl),hm.born,hm.own,hm.apart,hm.lent⟩;refine⟨?_,by rw[h1];exact hR.size,λt ht=>?_,hR.defers,?_,by rw[h1];exact hR.long⟩
    ·rw[Zgb hnone,h1];exact hrep hR.rep
    ·rw[Zgb hnone,Zl6 hnone,h1];rw[h1]at ht;exact Zcg (λc v hc=>Zbw (w:=w) (w':={ w with drawn:=w.drawn+1 }) (λb hb=>⟨hb,rfl⟩) (λr=>Zdv (w:=w) (w':={ w with drawn:=w.drawn+1 }) (S:=S) (F:=L.fp r) (λhl=>⟨hR.rep.rep r hl,λ_ _=>rfl⟩)) hc) (Zg2 (λr=>Zdv (w:=w) (w':={ w with drawn:=w.drawn+1 }) (S:=S) (F:=L.fp r) (λhl=>⟨hR.rep.rep r hl,λ_ _=>rfl⟩))) (hR.tmps t ht)
    ·rw[Zgb hnone,h1];refine⟨hR.since.below.trans ⟨rfl,rfl,rfl,Nat.le_refl _,λ_ _=>rfl⟩,hR.since.frame,hR.since.fp,hR.since.within⟩
end Go.Ev
