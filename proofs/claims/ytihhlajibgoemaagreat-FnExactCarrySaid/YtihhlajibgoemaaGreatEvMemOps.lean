/- Making, slicing, appending. -/
import Derived.Test.YtihhlajibgoemaaGreatEvNew
namespace Go.Ev
open Go.RowKit
set_option linter.unusedVariables false
set_option linter.unusedSimpArgs false
theorem Zgm{w:World}{S:FP}{d:D}{v:Value}{F:FP}(h:repD w S d v F):v.oneCell'=true:=by
 cases d with
 |dead=>exact h.1
 |_=>exact Znq h rfl
theorem Zgy{w:World}{S:FP}:∀{ds:List D} {vs:List Value} {F:FP},datRep w S ds vs F→∀v∈vs,v.oneCell'=true
 |[],[],_,_,v,hv=>by cases hv
 |d::ds,u::vs,_,⟨_,_,h1,h2,_⟩,v,hv=>by
  rcases List.mem_cons.1 hv with rfl|hv
  ·exact Zgm h1
  ·exact Zgy h2 v hv
 |[],_::_,_,h,_,_=>h.elim
 |_::_,[],_,h,_,_=>h.elim
theorem Zkr{w:World}{S:FP}{B:Nat}:∀{ds:List D} {off:Nat} {F:FP},repRow w S ds B off F→∃vs,datRep w S ds vs F∧∀(k:Nat) (v:Value),vs[k]?=some v→w.cell? ⟨B,off+k,none⟩=some v
 |[],off,F,h=>⟨[],h,by simp⟩
 |d::ds,off,F,h=>by
  obtain⟨v,F1,F2,h1,h2,h3,h4,h5⟩:=h;obtain⟨vs,k1,k2⟩:=Zkr h3;refine⟨v::vs,⟨F1,F2,h2,k1,h4,h5⟩,λk u hk=>?_⟩;cases k with
  |zero=>simp at hk;subst hk;exact h1
  |succ k=>
   have:=k2 k u (by simpa using hk)
   rw[show off+(k+1)=off+1+k by omega]
   exact this
theorem Zgr{w:World}{S:FP}{B sz:Nat}:∀{es:List (List D)} {off:Nat} {F:FP},repRows w S es B off sz F→
  ∃vss,rowsDat w S sz es vss F∧(∀(k:Nat) (v:Value),vss.flatten[k]?=some v→w.cell? ⟨B,off+k,none⟩=some v)∧vss.flatten.length=es.length*sz
 |[],off,F,h=>⟨[],h,by simp,by simp⟩
 |e::es,off,F,h=>by
  obtain⟨F1,F2,h1,h2,h3,h4,h5⟩:=h;obtain⟨vs,a1,a2⟩:=Zkr h2;obtain⟨vss,b1,b2,b3⟩:=Zgr h3;have hl:vs.length=sz:=by rw[←h1];exact(Za4 a1).symm
  refine⟨vs::vss,⟨F1,F2,h1,a1,b1,h4,h5⟩,λk u hk=>?_,by rw[List.flatten_cons,List.length_append,b3,hl,List.length_cons,Nat.add_mul];omega⟩
  rw[List.flatten_cons]at hk;by_cases hlt:k<vs.length
  ·rw[List.getElem?_append_left hlt]at hk;exact a2 k u hk
  ·rw[List.getElem?_append_right (by omega)]at hk
   have:=b2 _ u hk;rw[show off+k=off+sz+(k-vs.length) by omega]
   exact this
theorem Zis{w:World}{S:FP}{sz:Nat}:∀{es:List (List D)} {vss:List (List Value)} {F:FP},rowsDat w S sz es vss F→∀v∈vss.flatten,v.oneCell'=true
 |[],[],_,_,v,hv=>by simp at hv
 |e::es,vs::vss,_,⟨_,_,_,h1,h2,_⟩,v,hv=>by
  rw[List.flatten_cons,List.mem_append]at hv;rcases hv with hv|hv
  ·exact Zgy h1 v hv
  ·exact Zis h2 v hv
 |[],_::_,_,h,_,_=>h.elim
 |_::_,[],_,h,_,_=>h.elim
theorem Zfc{w:World}{S:FP}{sz:Nat}:∀{es es':List (List D)} {vss vss':List (List Value)} {F F':FP},rowsDat w S sz es vss F→rowsDat w S sz es' vss' F'→(∀b,F b→¬F' b)→rowsDat w S sz (es++es') (vss++vss') (λb=>F b∨F' b)
 |[],es',[],vss',F,F',h,h',hd=>by
  have:F'=λb=>F b∨F' b:=funext λb=>propext ⟨.inr,λhb=>hb.resolve_left (h b)⟩;rw[←this];exact h'
 |e::es,es',v::vss,vss',F,F',⟨F1,F2,h1,h2,h3,h4,h5⟩,h',hd=>by
  refine⟨F1,λb=>F2 b∨F' b,h1,h2,Zfc h3 h' (λb hb=>hd b ((h4 b).2 (.inr hb))),λb=>by show F b∨F' b↔F1 b∨(F2 b∨F' b);rw[h4 b];exact or_assoc,λb hb hb'=>?_⟩
  rcases hb' with hb' |hb'
  ·exact h5 b hb hb'
  ·exact hd b ((h4 b).2 (.inl hb)) hb'
 |[],_,_::_,_,_,_,h,_,_=>h.elim
 |_::_,_,[],_,_,_,h,_,_=>h.elim
theorem Zeh{w:World}{S:FP}:∀{ds:List D} {vs:List Value} {F:FP},datRep w S ds vs F→ds.all D.noSl=true→∀b,¬F b
 |[],[],_,h,_=>h
 |d::ds,v::vs,F,⟨F1,F2,h1,h2,h3,h4⟩,hn=>λb hb=>by
  rw[List.all_cons,Bool.and_eq_true]at hn;rcases(h3 b).1 hb with hb|hb
  ·cases d with
   |int=>exact h1.2 b hb
   |bool=>exact h1.2 b hb
   |str=>exact h1.2 b hb
   |dead=>exact h1.2 b hb
   |sl=>cases hn.1
  ·exact Zeh h2 hn.2 b hb
 |[],_::_,_,h,_=>h.elim
 |_::_,[],_,h,_=>h.elim
theorem Zgq{w:World}{S:FP}{sz:Nat}:∀{es:List (List D)} {vss:List (List Value)} {F:FP},rowsDat w S sz es vss F→(es.all λr=>r.all D.noSl)=true→∀b,¬F b
 |[],[],_,h,_=>h
 |e::es,v::vss,F,⟨F1,F2,_,h1,h2,h3,h4⟩,hn=>λb hb=>by
  rw[List.all_cons,Bool.and_eq_true]at hn;rcases(h3 b).1 hb with hb|hb
  ·exact Zeh h1 hn.1 b hb
  ·exact Zgq h2 hn.2 b hb
 |[],_::_,_,h,_=>h.elim
 |_::_,[],_,h,_=>h.elim
section
variable {P : Program} {w : World}
theorem Zl1{A:Option Addr}{n cap size:Nat}{vs:List Value}(hl:vs.length=n*size)(hc:n=0∨∃B off,A=some ⟨B,off,none⟩∧∀(k:Nat) (v:Value),vs[k]?=some v→w.cell? ⟨B,off+k,none⟩=some v):
  (Builtin.firstCells size n (.slice A n cap)).run P w=.ok vs.toArray w:=by
 rcases hc with hn|⟨B,off,rfl,hc⟩
 ·subst hn;obtain rfl:vs=[]:=List.eq_nil_of_length_eq_zero (by simpa using hl)
  cases A with
  |none=>rfl
  |some a=>
   have:=run_loadCells_list (P:=P) w a [] (λj v hj=>by simp at hj)
   rw[List.length_nil]at this;show(Go.loadCells a (0*size)).run P w=_;rw[Nat.zero_mul];exact this
 ·have:=run_loadCells_list (P:=P) w ⟨B,off,none⟩ vs (λj v hj=>by rw[Zbv];exact hc j v hj)
  rw[hl]at this;exact this
theorem Zkt{t u ty e e':TypeId}{i:TypeInfo}{B off n cap m c:Nat}{A':Option Addr}{news:List Value}{cs:Array Value}{bt:TypeId}(ht:P.underlying t=some (.slice e))(hu:P.underlying u=some (.slice e'))(hi:P.info? e=some i)
  (hn:(Builtin.firstCells i.size m (.slice A' m c)).run P w=.ok news.toArray w) (h1:∀v∈news,v.oneCell'=true) (hroom:n+m≤cap) (hB:w.heap[B]?=some (.cells cs bt (0,0))) (hle:off+n*i.size+news.length≤cs.size):
  (Builtin.append_ #[t,u] ty #[.slice (some ⟨B,off,none⟩) n cap,.slice A' m c]).run P w=.ok (.slice (some ⟨B,off,none⟩) (n+m) cap)
   (w.setRow B (cs.toList.take (off+n*i.size)++news++cs.toList.drop (off+n*i.size+news.length)).toArray):=by
 have hst:=run_storeCells_at (P:=P) B (off+n*i.size) bt news 0 cs w hB (by simpa using hle) h1
 simp only[Nat.add_zero]at hst;simp[Builtin.append_,run_underlying ht,run_underlying hu,sizeOf,typeInfo,hi,Builtin.lenOf,hroom,hn,Zbv,hst]
theorem Ziu{t u ty e e':TypeId}{i:TypeInfo}{m c:Nat}{A':Option Addr}{news:List Value}(ht:P.underlying t=some (.slice e))(hu:P.underlying u=some (.slice e'))(hi:P.info? e=some i)
  (hn:(Builtin.firstCells i.size m (.slice A' m c)).run P w=.ok news.toArray w) (hm:m=0):
  (Builtin.append_ #[t,u] ty #[.slice none 0 0,.slice A' m c]).run P w=.ok (.slice none 0 0) w:=by
 subst hm;simp[Builtin.append_,run_underlying ht,run_underlying hu,sizeOf,typeInfo,hi,Builtin.lenOf,hn]
theorem Zja{t u ty e e':TypeId}{i:TypeInfo}{z:Value}{n cap m c:Nat}{A A':Option Addr}{olds news:List Value}(ht:P.underlying t=some (.slice e))(hu:P.underlying u=some (.slice e'))(hi:P.info? e=some i)(hz:i.zero=some z)
  (ho:(Builtin.firstCells i.size n (.slice A n cap)).run P w.drew=.ok olds.toArray w.drew) (hn:(Builtin.firstCells i.size m (.slice A' m c)).run P w.drew=.ok news.toArray w.drew)
  (hgrow:cap<n+m) (hpos:0<i.bytes) (hb:(n+m)*i.bytes≤140737488355328):
  ∃C,(n+m≤C∧C≤9223372036854775807)∧(Builtin.append_ #[t,u] ty #[.slice A n cap,.slice A' m c]).run P w=.ok (.slice (some ⟨w.heap.size,0,none⟩) (n+m) C) (w.drew.alloc (.cells (olds.toArray++news.toArray++Builtin.zeroCells z.cells (C-(n+m))) e)):=by
 have h1:¬(n+m≤cap):=by omega
 have h4:n+m≤140737488355328:=Nat.le_trans (Nat.le_mul_of_pos_right _ hpos) hb;have h2:¬(9223372036854775807<((n:Int)+(m:Int))):=by omega
 have h3:¬(281474976710656<Builtin.nextslicecap (n+m) cap*i.bytes):=by have:=growslice_fits hgrow hb;omega
 refine⟨grownCap w (n+m) cap e,⟨grownCap_ge w (n+m) cap e,by have:=grownCap_le_maxLen w (n+m) cap e (by unfold maxLen;omega);unfold maxLen at this;exact this⟩,?_⟩
 have hw:({ heap:=w.heap,tape:=w.tape,drawn:=w.drawn+1,os:=w.os,output:=w.output }:World)=w.drew:=rfl;simp[Builtin.append_,run_underlying ht,run_underlying hu,sizeOf,typeInfo,zeroValue,hi,hz,Builtin.lenOf,h1,h2,h3,Question.forced,Go.newRow,grownCap,hw,ho,hn]
 congr 2
 apply Array.ext';simp
end
end Go.Ev
