/- What comes in from outside, by its type: typed data, its rows, and that a law's arguments are of this kind and read on. -/
import Derived.ReadAgain
import Derived.ChangeSame
import Derived.ChangeOld
import Derived.ChangeStays
import Derived.ChangeBook
import Derived.Below
import Derived.DataElems
import Derived.WideShapes
import Derived.Test.YtihhlajibgoemaaGreatEvTable
namespace Go.Ev
open Go.RowKit Go.ChangeShapes Go.WideShapes
set_option linter.unusedVariables false
set_option linter.unusedSimpArgs false
inductive Ty where
 |int (k:IntKind)|bool|str|sl (e:Ty)|pair (a b:Ty)
 deriving DecidableEq,Inhabited
@[reducible] def Ty.den:Ty→Type
 |.int _=>Int
 |.bool=>Bool
 |.str=>ByteArray
 |.sl e=>List e.den
 |.pair a b=>a.den×b.den
def Ty.width:Ty→Nat
 |.pair a b=>a.width+b.width
 |_=>1
def Ty.enc:(t:Ty)→t.den→List D
 |.int k,x=>[.int k x]
 |.bool,b=>[.bool b]
 |.str,s=>[.str s]
 |.sl e,xs=>[.sl false e.width (xs.map e.enc)]
 |.pair a b,x=>a.enc x.1++b.enc x.2
def Ty.ok:(t:Ty)→t.den→Prop
 |.int k,x=>(Lit.int k x).wf=true
 |.bool,_=>True
 |.str,s=>s.size≤9223372036854775807
 |.sl e,xs=>xs.length≤9223372036854775807∧∀x∈xs,e.ok x
 |.pair a b,x=>a.ok x.1∧b.ok x.2
theorem Ty.width_pos:∀t:Ty,0<t.width
 |.int _=>Nat.one_pos
 |.bool=>Nat.one_pos
 |.str=>Nat.one_pos
 |.sl _=>Nat.one_pos
 |.pair a b=>by have:=a.width_pos;unfold Ty.width;omega
theorem Ty.enc_length:∀(t:Ty) (x:t.den),(t.enc x).length=t.width
 |.int _,_=>rfl
 |.bool,_=>rfl
 |.str,_=>rfl
 |.sl _,_=>rfl
 |.pair a b,x=>by show(a.enc x.1++b.enc x.2).length=a.width+b.width;rw[List.length_append,a.enc_length,b.enc_length]
def Ty.zero:(t:Ty)→t.den
 |.int _=>(0:Int)
 |.bool=>false
 |.str=>ByteArray.empty
 |.sl _=>[]
 |.pair a b=>(a.zero,b.zero)
def tyFs(P:Program)(g:TypeId→Option Ty):Nat→List Field→Option Ty
 |_,[]=>none
 |o,[f]=>if f.offset=o then(match g f.type with|some T=>if T.width=P.cellsOf f.type then some T else none|none=>none)else none
 |o,f::f'::fs=>if f.offset=o then(match g f.type with
  |some T=>if T.width=P.cellsOf f.type then(match tyFs P g (o+T.width) (f'::fs)with|some T'=>some (.pair T T')|none=>none)else none
  |none=>none)else none
def tyOf(P:Program):Nat→TypeId→Option Ty
 |0,_=>none
 |n+1,t=>match P.underlying t with
  |some (.int k)=>some (.int k)
  |some .bool=>some .bool
  |some .string=>some .str
  |some (.slice e)=>(match tyOf P n e with|some T=>if T.width=P.cellsOf e then some (.sl T)else none|none=>none)
  |some (.struct fs)=>(match tyFs P (tyOf P n) 0 fs.toList with|some T=>if T.width=P.cellsOf t then some T else none|none=>none)
  |_=>none
section
variable {P : Program} {w : World}
abbrev Known(w:World):FP:=λb=>b<w.heap.size
theorem Zje{S:FP}:∀{xs ys:List D} {us vs:List Value},datRep w S xs us (λ_=>False)→datRep w S ys vs (λ_=>False)→datRep w S (xs++ys) (us++vs) (λ_=>False)
 |[],ys,[],vs,_,h=>h
 |x::xs,ys,u::us,vs,⟨F1,F2,h1,h2,h3,h4⟩,h=>by
  have e1:F1=λ_=>False:=funext λb=>propext ⟨λhb=>(h3 b).2 (.inl hb),λhb=>hb.elim⟩;have e2:F2=λ_=>False:=funext λb=>propext ⟨λhb=>(h3 b).2 (.inr hb),λhb=>hb.elim⟩;subst e1 e2;exact⟨_,_,h1,Zje h2 h,h3,h4⟩
 |[],_,_::_,_,h,_=>h.elim
 |_::_,_,[],_,h,_=>h.elim
theorem Zb2{S:FP}{d:D}{v:Value}(h:repD w S d v (λ_=>False)):datRep w S [d] [v] (λ_=>False):=
 ⟨λ_=>False,λ_=>False,h,λ_ h=>h,λb=>by simp,λ_ h=>h.elim⟩
theorem Ztp{α:Type}{p:Nat→α→Prop}:∀n:Nat,(∀i,i<n→∃x,p i x)→∃l:List α,l.length=n∧∀i x,l[i]?=some x→p i x:=by
 intro n;induction n with
 |zero=>intro _;exact⟨[],rfl,by simp⟩
 |succ n ih=>
  intro h;obtain⟨l,hl,hp⟩:=ih (λi hi=>h i (by omega))
  obtain⟨x,hx⟩:=h n (by omega)
  refine⟨l++[x],by simp[hl],λi y hy=>?_⟩
  rcases Nat.lt_or_ge i l.length with hi|hi
  ·rw[List.getElem?_append_left hi]at hy;exact hp i y hy
  ·rw[List.getElem?_append_right hi]at hy;have h0:i-l.length=0:=by
    rcases Nat.eq_zero_or_pos (i-l.length)with h0|h0
    ·exact h0
    ·rw[List.getElem?_eq_none (by simp;omega)]at hy;cases hy
   rw[h0]at hy;have:i=n:=by omega
   subst this;simp at hy;subst hy;exact hx
theorem Zlz{S:FP}{T:Ty}{B sz:Nat}(hsz:T.width=sz):∀{l:List T.den} {off:Nat},(∀i x,l[i]?=some x→∃c:List Value,datRep w S (T.enc x) c (λ_=>False)∧∀(j:Nat) (u:Value),c[j]?=some u→w.cell? ⟨B,off+i*sz+j,none⟩=some u)→
  repRows w S (l.map T.enc) B off sz (λ_=>False)
 |[],_,_=>λ_ h=>h
 |x::l,off,h=>by
  obtain⟨c,h1,h2⟩:=h 0 x rfl;refine⟨λ_=>False,λ_=>False,by rw[T.enc_length];exact hsz,Zc4 (λb hb=>⟨hb,rfl⟩) h1 (λ_ h=>h.elim) (λk v hk=>?_),Zlz hsz (λi y hy=>?_),λb=>by simp,λ_ h=>h.elim⟩
  ·have:=h2 k v hk;rw[Nat.zero_mul,Nat.add_zero]at this;exact this
  ·obtain⟨c',k1,k2⟩:=h (i+1) y (by simpa using hy)
   refine⟨c',k1,λj u hu=>?_⟩;rw[show off+sz+i*sz+j=off+(i+1)*sz+j by rw[Nat.add_mul];omega]
   exact k2 j u hu
def OpensAt(P:Program)(t:TypeId)(T:Ty):Prop:=
 ∀{H:Type} {enc:TypeId×Value→H} {w:World} {held:Bool} {fuel:Nat} {cs:List Value} {y:DataW H×List MemPlace},
  DataW.trod enc P w 0 (λ_=>true) held fuel t cs=some y→∃x:T.den,T.ok x∧datRep w (Known w) (T.enc x) cs (λ_=>False)
theorem Zho{g:TypeId→Option Ty}(hg:∀t T,g t=some T→OpensAt P t T):∀{fs:List Field} {o:Nat} {T:Ty},tyFs P g o fs=some T→∀{H:Type} {enc:TypeId×Value→H} {w:World} {held:Bool} {fuel:Nat} {cs:List Value},
  (∀f∈fs,∃y:DataW H×List MemPlace,DataW.trod enc P w 0 (λ_=>true) held fuel f.type ((cs.drop f.offset).take (P.cellsOf f.type))=some y)→∃x:T.den,T.ok x∧datRep w (Known w) (T.enc x) ((cs.drop o).take T.width) (λ_=>False)
 |[],o,T,h=>by cases h
 |[f],o,T,h=>by
  rename_i H enc w held fuel cs;intro hf;simp only[tyFs]at h;split at h
  ·rename_i ho;split at h
   ·rename_i T' hT;split at h
    ·rename_i hw;injection h with h;subst h;obtain⟨y,hy⟩:=hf f (by simp)
     rw[ho,←hw]at hy;exact hg _ _ hT hy
    ·cases h
   ·cases h
  ·cases h
 |f::f'::fs,o,T,h=>by
  rename_i H enc w held fuel cs;intro hf;simp only[tyFs]at h;split at h
  ·rename_i ho;split at h
   ·rename_i T1 hT;split at h
    ·rename_i hw;split at h
     ·rename_i T2 hT2;injection h with h;subst h;obtain⟨y,hy⟩:=hf f (by simp)
      rw[ho,←hw]at hy;obtain⟨x1,k1,r1⟩:=hg _ _ hT hy;obtain⟨x2,k2,r2⟩:=Zho hg hT2 (λg hg=>hf g (by simp[hg]))
      refine⟨(x1,x2),⟨k1,k2⟩,?_⟩;have:(cs.drop o).take (T1.width+T2.width)=(cs.drop o).take T1.width++(cs.drop (o+T1.width)).take T2.width:=by rw[List.take_add,List.drop_drop]
      show datRep w (Known w) (T1.enc x1++T2.enc x2) ((cs.drop o).take (T1.width+T2.width)) _;rw[this];exact Zje r1 r2
     ·cases h
    ·cases h
   ·cases h
  ·cases h
theorem Zkn:∀(n:Nat) (t:TypeId) (T:Ty),tyOf P n t=some T→OpensAt P t T
 |0,_,_,h=>by cases h
 |n+1,t,T,h=>by
  rename_i H enc w held fuel cs y;intro hy;unfold tyOf at h;split at h
  ·rename_i k ht;injection h with h;subst h;obtain⟨x,rfl,_,hw⟩:=DataW.trod_int ht hy;exact⟨x,hw,Zb2 ⟨rfl,λ_ h=>h⟩⟩
  ·rename_i ht;injection h with h;subst h;obtain⟨x,rfl,_⟩:=DataW.trod_bool ht hy;exact⟨x,trivial,Zb2 ⟨rfl,λ_ h=>h⟩⟩
  ·rename_i ht;injection h with h;subst h;obtain⟨x,rfl,_,hs⟩:=DataW.trod_string ht hy;exact⟨x,by show x.size≤_;unfold maxLen at hs;omega,Zb2 ⟨rfl,λ_ h=>h⟩⟩
  ·rename_i e ht;split at h
   ·rename_i T' hT;split at h
    ·rename_i hw;injection h with h;subst h;have ih:OpensAt P e T':=Zkn n e T' hT;rcases DataW.trod_slice ht hy with⟨rfl,_⟩|⟨a,len,cap,elems,rest,m,_,rfl,_,_,hl,hc,hel,hread,hspare,_⟩
     ·exact⟨[],⟨Nat.zero_le _,by simp⟩,Zb2 ⟨none,0,rfl,Nat.le_refl _,.inl ⟨.inl rfl,rfl,rfl,λ_ h=>h⟩⟩⟩
     ·have hpos:=T'.width_pos;have hm:len≤9223372036854775807:=by unfold maxLen at hc;omega
      by_cases hcap:cap=0
      ·have hlen:len=0:=by omega
       subst hlen hcap;exact⟨[],⟨Nat.zero_le _,by simp⟩,Zb2 ⟨some a,0,rfl,Nat.le_refl _,.inl ⟨.inr rfl,rfl,rfl,λ_ h=>h⟩⟩⟩
      ·-- a first cell is there
       have hfirst:a.spot=none∧a.block<w.heap.size:=by
        have hcell:∃v,w.cell? a=some v:=by
         by_cases hlen:0<len
         ·have h1:=hread 0 hlen;obtain⟨z,hz⟩:∃z,elems[0]?=some z:=⟨_,List.getElem?_eq_getElem (by omega)⟩
          rw[hz]at h1;obtain⟨c,hc1,_⟩:=Option.bind_eq_some_iff.1 h1;obtain⟨_,hlen2,hcc⟩:=World.cells?_some hc1;have:=hcc 0 (by omega)
          obtain⟨v,hv⟩:∃v,c[0]?=some v:=⟨_,List.getElem?_eq_getElem (by omega)⟩
          rw[hv]at this;exact⟨v,by simpa[Addr.add]using this⟩
         ·have h0:len=0:=by omega
          subst h0;obtain⟨hrl,hr⟩:=hspare rfl;have h1:=hr 0 (by omega)
          obtain⟨z,hz⟩:∃z,rest[0]?=some z:=⟨_,List.getElem?_eq_getElem (by omega)⟩
          rw[hz]at h1;obtain⟨c,hc1,_⟩:=Option.bind_eq_some_iff.1 h1;obtain⟨_,hlen2,hcc⟩:=World.cells?_some hc1;have:=hcc 0 (by omega)
          obtain⟨v,hv⟩:∃v,c[0]?=some v:=⟨_,List.getElem?_eq_getElem (by omega)⟩
          rw[hv]at this;exact⟨v,by simpa[Addr.add]using this⟩
        obtain⟨v,hv⟩:=hcell;refine⟨World.cell?_spot hv,?_⟩;rcases Nat.lt_or_ge a.block w.heap.size with h|h
        ·exact h
        ·unfold World.cell? at hv;rw[Array.getElem?_eq_none h]at hv;cases hv
       obtain⟨B,off,sp⟩:=a;obtain⟨rfl,hB⟩:=hfirst;have key:∀i,i<len→∃x:T'.den,T'.ok x∧∃c:List Value,datRep w (Known w) (T'.enc x) c (λ_=>False)∧∀(j:Nat) (u:Value),c[j]?=some u→w.cell? ⟨B,off+i*P.cellsOf e+j,none⟩=some u:=by
        intro i hi;have h1:=hread i hi;obtain⟨z,hz⟩:∃z,elems[i]?=some z:=⟨_,List.getElem?_eq_getElem (by omega)⟩
        rw[hz]at h1;obtain⟨c,hc1,hc2⟩:=Option.bind_eq_some_iff.1 h1;obtain⟨x,hx,hr⟩:=ih hc2;obtain⟨_,hlen2,hcc⟩:=World.cells?_some hc1;refine⟨x,hx,c,hr,λj u hu=>?_⟩;have hj:j<P.cellsOf e:=by
         rcases Nat.lt_or_ge j c.length with hj|hj
         ·omega
         ·rw[List.getElem?_eq_none hj]at hu;cases hu
        have:=hcc j hj;rw[hu,Zbv,Zbv]at this;exact this
       obtain⟨l,hll,hlp⟩:=Ztp len key;refine⟨l,⟨by omega,λx hx=>?_⟩,Zb2 ⟨some ⟨B,off,none⟩,cap,by rw[List.length_map,hll],by rw[List.length_map,hll];exact hl,.inr ⟨B,off,λ_=>False,rfl,?_,.inr ⟨rfl,λ_ h=>h,λ_ h=>h,.inr hB⟩⟩⟩⟩
       ·obtain⟨i,hi⟩:=List.mem_iff_getElem?.1 hx;exact(hlp i x hi).1
       ·rw[hw];exact Zlz hw (λi x hx=>(hlp i x hx).2)
    ·cases h
   ·cases h
  ·rename_i fs ht;split at h
   ·rename_i T' hT;split at h
    ·rename_i hw;injection h with h;subst h;obtain⟨xs,m,_,_,hl,hlen,hf⟩:=DataW.trod_struct ht hy;obtain⟨x,hx,hr⟩:=Zho (λt T h=>Zkn n t T h) hT (enc:=enc) (w:=w) (held:=held) (fuel:=m) (cs:=cs) (λf hf2=>by
      obtain⟨i,hi⟩:=List.mem_iff_getElem?.1 hf2;have h1:=hf i f (by simpa using hi)
      have hi2:i<xs.length:=by
       rw[hlen];rcases Nat.lt_or_ge i fs.toList.length with h2|h2
       ·simpa using h2
       ·rw[List.getElem?_eq_none h2]at hi;cases hi
      exact⟨_,h1.trans (List.getElem?_eq_getElem hi2)⟩)
     refine⟨x,hx,?_⟩;rw[List.drop_zero,hw,←hl,List.take_length]at hr;exact hr
    ·cases h
   ·cases h
  ·cases h
theorem Zsw{r:Reach}{b0:Nat}{t:TypeId}{v:Value}{n:Nat}{T:Ty}(ht:tyOf P n t=some T)(h:Value.okWide P w r b0 t v):aggOk P t v:=by
 unfold aggOk isAggB;cases n with
 |zero=>cases ht
 |succ n=>
  unfold tyOf at ht;split at ht
  ·rename_i hu;rw[hu];obtain⟨x,rfl⟩:=okWide_int hu h;simp[Value.oneCell']
  ·rename_i hu;rw[hu];obtain⟨x,rfl⟩:=okWide_bool hu h;simp[Value.oneCell']
  ·rename_i hu;rw[hu];obtain⟨x,rfl⟩:=okWide_string hu h;simp[Value.oneCell']
  ·rename_i hu;rw[hu];obtain⟨x,_,_,rfl⟩:=okWide_slice hu h;simp[Value.oneCell']
  ·rename_i hu;rw[hu];obtain⟨x,rfl,_⟩:=okWide_struct hu h;simp
  ·cases ht
@[reducible] def Dens:List Ty→Type
 |[]=>Unit
 |t::ts=>t.den×Dens ts
def encs:(ts:List Ty)→Dens ts→List Row
 |[],_=>[]
 |t::ts,x=>t.enc x.1::encs ts x.2
def oks:(ts:List Ty)→Dens ts→Prop
 |[],_=>True
 |t::ts,x=>t.ok x.1∧oks ts x.2
def tysOf(P:Program):List TypeId→Option (List Ty)
 |[]=>some []
 |t::ts=>match tyOf P 9 t,tysOf P ts with
  |some T,some Ts=>some (T::Ts)
  |_,_=>none
theorem Zkz{H:Type}{enc:TypeId×Value→H}{held:Bool}{r:Reach}{b0:Nat}:∀{ts:List TypeId} {Ts:List Ty} {vs:List Value} {ds:List (DataW H)} {ps:List MemPlace},tysOf P ts=some Ts→
  (∀(j:Nat) t v,ts[j]?=some t→vs[j]?=some v→Value.okWide P w r b0 t v)→DataW.TrodAll enc P w 0 (λ_=>true) held ts vs ds ps→
  ∃x:Dens Ts,oks Ts x∧argsRep P w (Known w) ((List.replicate ts.length Mode.lend).zip ts) (encs Ts x) vs (λ_=>False)
 |[],Ts,vs,ds,ps,hT,_,h=>by
  simp only[tysOf,Option.some.injEq]at hT;subst hT;obtain⟨rfl,rfl,rfl⟩:=trodAll_nil h;exact⟨(),trivial,λ_ h=>h⟩
 |t::ts,Ts,vs,ds,ps,hT,hok,h=>by
  simp only[tysOf]at hT;split at hT
  ·rename_i T Ts' h1 h2;injection hT with hT;subst hT;obtain⟨v,vs1,d,ds1,p,q,rfl,rfl,rfl,⟨fuel,ht⟩,h3⟩:=trodAll_cons h;obtain⟨x,hx,hr⟩:=Zkn 9 t T h1 ht;obtain⟨xs,hxs,hrs⟩:=Zkz h2 (λj t v a b=>hok (j+1) t v (by simpa using a) (by simpa using b)) h3
   refine⟨(x,xs),⟨hx,hxs⟩,?_⟩;exact⟨λ_=>False,λ_=>False,⟨λ_ h=>h,Zsw h1 (hok 0 t v rfl rfl),hr⟩,hrs,λb=>by simp,λ_ h=>h.elim⟩
  ·cases hT
theorem Zsz{H:Type}{enc:TypeId×Value→H}{W W':World}(hl:laidOutB P=true)(hm:mapsRowed P=true)(hz:((List.range P.types.size).all λt=>match P.underlying t with|some (.slice e)=>decide (0<P.cellsOf e)|_=>true)=true)
  {ts:List TypeId} (hts:∀t∈ts,t<P.types.size) {vs:List Value} {ds:List (DataW H)} {ps:List MemPlace} (h:DataW.TrodAll enc P W 0 (λ_=>true) true ts vs ds ps) (hb:Below W.heap.size W W'):
  DataW.TrodAll enc P W' 0 (λb=>decide (b<W.heap.size)) true ts vs ds ps:=by
 have h1:DataW.TrodAll enc P W' 0 (λ_=>true) true ts vs ds ps:=by
  have hlt:=h.lt;clear hts;induction ts generalizing vs ds ps with
  |nil=>
   obtain⟨rfl,rfl,rfl⟩:=trodAll_nil h;exact trodAll_mk0
  |cons t ts ih=>
   obtain⟨v,vs1,d,ds1,p,q,rfl,rfl,rfl,⟨n,h1⟩,h2⟩:=trodAll_cons h;refine⟨p,q,⟨n,?_⟩,ih h2 (λx hx=>hlt x (List.mem_append_right _ hx)),rfl⟩;exact DataW.trod_carry n t _ _ h1 (λx hx=>hb.same (hlt x (List.mem_append_left _ hx)))
 exact DataW.TrodAll.respare (kids_rows hl hm) (slices_full_of P hz) hts h1 (λp hp=>by simpa using h.lt p hp)
theorem Zto{H:Hints}{f:FuncId}{fn:Func}{g:Contract}(hs:SoundAt P H f g)(hf:P.funcs[f]?=some fn)(hH:H.modes f fn.params.size=List.replicate fn.params.toList.length Mode.lend){tb:TypeId}(hres:fn.resultTypes=#[tb])(hagg:isAggB P tb=false)(hptr:isPtrB P tb=false)
  {Ts:List Ty} (hT:tysOf P fn.params.toList=some Ts) (hlaw:∀x:Dens Ts,oks Ts x→g (encs Ts x)=some (true,[[.bool true]],[])) {H':Type} {enc:TypeId×Value→H'} {W:World} {b0:Nat} {args:Array Value} {ds:List (DataW H')} {ps:List MemPlace}
  (hval:∀(j:Nat) t v,fn.params[j]?=some t→args[j]?=some v→Value.okWide P W .any b0 t v) (hA:DataW.TrodAll enc P W 0 (λ_=>true) true fn.params.toList args.toList ds ps):
  Calls P f args W λe W'=>e=.returned (.bool true)∧Below W.heap.size W W':=by
 obtain⟨x,hx,harg⟩:=Zkz hT (λj t v h1 h2=>hval j t v (by simpa using h1) (by simpa using h2)) hA
 obtain⟨_,_,hc⟩:=hs fn _ _ _ hf (hlaw x hx);have:=hc W (Known W) (λ_=>False) args.toList (λb h=>h) (λb h=>h.elim) (by rw[hH];exact harg)
 rw[Array.toArray_toList]at this;refine this.mono (λe W' he=>?_);cases e with
 |returned v=>
  obtain⟨hbel,hfr,_,us,G1,G2,G3,rfl,hout,_,_,_⟩:=he;rw[hres]at hout
  match us,hout with
  |[u],hout=>
   obtain⟨F1,F2,h1,_,_,_⟩:=hout;unfold outOne at h1;rw[if_neg (by rw[hptr];simp)]at h1
   obtain⟨ha,hd⟩:=h1;unfold aggOk at ha;rw[hagg]at ha;simp only[Bool.false_eq_true,if_false]at ha;rw[Zcs ha]at hd;obtain⟨_,_,hb,_⟩:=hd;have hu:u=.bool true:=hb.1;subst hu;exact⟨rfl,⟨hbel.os,hbel.tape,hbel.output,hbel.size,λk hk=>hfr k hk (λh=>h)⟩⟩
 |_=>exact he.elim
end
end Go.Ev
