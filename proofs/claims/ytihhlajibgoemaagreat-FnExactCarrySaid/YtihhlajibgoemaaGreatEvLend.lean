/- Lending; what is owned to the bottom. -/
import Derived.Test.YtihhlajibgoemaaGreatEvSpec
namespace Go.Ev
open Go.RowKit
set_option linter.unusedVariables false
set_option linter.unusedSimpArgs false
theorem Ze9:∀ds:List D,(lendRow ds).length=ds.length
 |[]=>rfl
 |d::ds=>by simp[lendRow,Ze9 ds]
theorem Zc9:∀es:List (List D),(lendRows es).length=es.length
 |[]=>rfl
 |e::es=>by simp[lendRows,Zc9 es]
section
variable {w : World} {S Sc : FP}
mutual
theorem Znf(hS:∀b,S b→Sc b):∀{d:D} {v:Value} {F:FP},repD w S d v F→(∀b,F b→Sc b)→repD w Sc d.lend v (λ_=>False)
 |.int k n,v,F,h,_=>⟨h.1,λ_ h=>h⟩
 |.bool x,v,F,h,_=>⟨h.1,λ_ h=>h⟩
 |.str s,v,F,h,_=>⟨h.1,λ_ h=>h⟩
 |.dead,v,F,h,_=>⟨h.1,λ_ h=>h⟩
 |.sl own sz es,v,F,h,hF=>by
  obtain⟨A,cap,rfl,hc,h⟩:=h;refine⟨A,cap,by rw[Zc9],by rw[Zc9];exact hc,?_⟩
  rcases h with⟨h1,h2,h3,_⟩|⟨B,off,F',rfl,hr,h⟩
  ·exact .inl ⟨.inr rfl,by rw[h2];rfl,h3,λ_ h=>h⟩
  ·refine .inr ⟨B,off,λ_=>False,rfl,?_,.inr ⟨rfl,λ_ h=>h,λ_ h=>h,?_⟩⟩
   ·refine Zhm hS hr (λb hb=>?_);rcases h with⟨_,_,h3,_⟩|⟨_,_,h3,_⟩
    ·exact hF b ((h3 b).2 (.inr hb))
    ·exact absurd hb (h3 b)
   ·rcases h with⟨_,_,h3,_⟩|⟨_,_,_,h4⟩
    ·exact .inr (hF B ((h3 B).2 (.inl rfl)))
    ·rcases h4 with h4|h4
     ·exact .inl (by rw[h4];rfl)
     ·exact .inr (hS B h4)
theorem Zfp(hS:∀b,S b→Sc b):∀{ds:List D} {B off:Nat} {F:FP},repRow w S ds B off F→(∀b,F b→Sc b)→repRow w Sc (lendRow ds) B off (λ_=>False)
 |[],_,_,_,_,_=>λ_ h=>h
 |d::ds,B,off,F,h,hF=>by
  obtain⟨v,F1,F2,h1,h2,h3,h4,h5⟩:=h;exact⟨v,λ_=>False,λ_=>False,h1,Znf hS h2 (λb hb=>hF b ((h4 b).2 (.inl hb))),Zfp hS h3 (λb hb=>hF b ((h4 b).2 (.inr hb))),λb=>by simp,λ_ h=>h.elim⟩
theorem Zhm(hS:∀b,S b→Sc b):∀{es:List (List D)} {B off sz:Nat} {F:FP},repRows w S es B off sz F→(∀b,F b→Sc b)→repRows w Sc (lendRows es) B off sz (λ_=>False)
 |[],_,_,_,_,_,_=>λ_ h=>h
 |e::es,B,off,sz,F,h,hF=>by
  obtain⟨F1,F2,h1,h2,h3,h4,h5⟩:=h;exact⟨λ_=>False,λ_=>False,by rw[Ze9];exact h1,Zfp hS h2 (λb hb=>hF b ((h4 b).2 (.inl hb))),Zhm hS h3 (λb hb=>hF b ((h4 b).2 (.inr hb))),λb=>by simp,λ_ h=>h.elim⟩
end
mutual
theorem Zm2:∀{d:D} {v:Value} {F:FP},repD w Sc d v F→d.deep=true→repD w S d v F
 |.int k n,v,F,h,_=>h
 |.bool x,v,F,h,_=>h
 |.str s,v,F,h,_=>h
 |.dead,v,F,h,_=>h
 |.sl own sz es,v,F,h,hd=>by
  simp only[D.deep,Bool.and_eq_true]at hd;obtain⟨A,cap,rfl,hc,h⟩:=h;refine⟨A,cap,rfl,hc,?_⟩;rcases h with h|⟨B,off,F',rfl,hr,h⟩
  ·exact .inl h
  ·rcases h with h|⟨ho,_⟩
   ·exact .inr ⟨B,off,F',rfl,Zhg hr hd.2,.inl h⟩
   ·rw[hd.1]at ho;cases ho
theorem Zd1:∀{ds:List D} {B off:Nat} {F:FP},repRow w Sc ds B off F→deepRow ds=true→repRow w S ds B off F
 |[],_,_,_,h,_=>h
 |d::ds,B,off,F,h,hd=>by
  simp only[deepRow,Bool.and_eq_true]at hd;obtain⟨v,F1,F2,h1,h2,h3,h4,h5⟩:=h;exact⟨v,F1,F2,h1,Zm2 h2 hd.1,Zd1 h3 hd.2,h4,h5⟩
theorem Zhg:∀{es:List (List D)} {B off sz:Nat} {F:FP},repRows w Sc es B off sz F→deepRows es=true→repRows w S es B off sz F
 |[],_,_,_,_,h,_=>h
 |e::es,B,off,sz,F,h,hd=>by
  simp only[deepRows,Bool.and_eq_true]at hd;obtain⟨F1,F2,h1,h2,h3,h4,h5⟩:=h;exact⟨F1,F2,h1,Zd1 h2 hd.1,Zhg h3 hd.2,h4,h5⟩
end
theorem Zfj:∀{ds:List D} {vs:List Value} {F:FP},datRep w Sc ds vs F→deepRow ds=true→datRep w S ds vs F
 |[],[],_,h,_=>h
 |d::ds,v::vs,F,⟨F1,F2,h1,h2,h3,h4⟩,hd=>by
  simp only[deepRow,Bool.and_eq_true]at hd;exact⟨F1,F2,Zm2 h1 hd.1,Zfj h2 hd.2,h3,h4⟩
 |[],_::_,_,h,_=>h.elim
 |_::_,[],_,h,_=>h.elim
theorem Zil{P:Program}:∀{ts:List TypeId} {rows:List (List D)} {vs:List Value} {F:FP},outRep P w Sc ts rows vs F→deepRows rows=true→outRep P w S ts rows vs F
 |[],[],[],_,h,_=>h
 |t::ts,row::rows,v::vs,F,⟨F1,F2,h1,h2,h3,h4⟩,hd=>by
  simp only[deepRows,Bool.and_eq_true]at hd;refine⟨F1,F2,?_,Zil h2 hd.2,h3,h4⟩;unfold outOne at h1⊢;split at h1
  ·rename_i hp;rw[if_pos hp];obtain⟨B,off,F',k1,k2,k3⟩:=h1;exact⟨B,off,F',k1,Zd1 k2 hd.1,k3⟩
  ·rename_i hp;rw[if_neg hp];exact⟨h1.1,Zfj h1.2 hd.1⟩
 |[],[],_::_,_,h,_=>h.elim
 |[],_::_,_,_,h,_=>h.elim
 |_::_,[],_,_,h,_=>h.elim
 |_::_,_::_,[],_,h,_=>h.elim
theorem Zi7{M:Mem}{L:Lay}{rs:Look}{c:C}{v:Value}{d:D}(hm:MemRep w S (Zao M rs) L)(hc:cRep w S (Zao M rs) L c v)(hS:∀b,S b→Sc b)(hR:∀r∈c.roots,(Zao M rs r).live=true→∀b,L.fp r b→Sc b)
  (he:lendCell rs c=some d) (hg:goodC rs c=true):repD w Sc d v (λ_=>False)∧v.oneCell'=true:=by
 cases c with
 |d x=>
  simp only[lendCell,Option.some.injEq]at he;subst he;refine⟨?_,Zgm hc.2⟩;exact Zbp (λb hb=>⟨hS b hb,rfl⟩) hc.2 (λb hb=>hb.elim)
 |nils n=>
  simp only[lendCell,Option.some.injEq]at he;subst he;rw[show v=_ from hc];exact⟨⟨none,0,rfl,Nat.le_refl _,.inl ⟨.inl rfl,rfl,rfl,λ_ h=>h⟩⟩,rfl⟩
 |view r ga gh q n sub=>
  simp only[lendCell]at he;split at he
  ·rename_i es hes;simp only[Option.some.injEq]at he;subst he;simp only[rowsOf]at hes;split at hes
   ·rename_i hcond;simp only[Bool.and_eq_true]at hcond;simp only[Option.some.injEq]at hes;have hl:=Zar hcond.1;have hov:Zao M rs r=rs.get r:=Za8 hl;obtain⟨es1,A,cap,G,k1,k2,k3,k4,k5⟩:=Zes hm hc (by rw[hov];exact hcond.1) (by rw[hov];exact hg)
    rw[hov]at k5;rw[k5]at hes;obtain⟨G',h1,h2⟩:=Zkq k2 k4;rw[hes]at h1;exact⟨Znf hS h1 (λb hb=>hR r (by simp[C.roots]) (by rw[hov];exact hl) b (k3 b (h2 b hb))),Zgm h1⟩
   ·cases hes
  ·cases he
 |_=>cases he
theorem Zek{M:Mem}{L:Lay}{rs:Look}(hm:MemRep w S (Zao M rs) L)(hS:∀b,S b→Sc b):∀{cs:List C} {vs:List Value} {ds:List D},cellsRep w S (Zao M rs) L cs vs→(∀r∈cs.flatMap C.roots,(Zao M rs r).live=true→∀b,L.fp r b→Sc b)→
  lendCells rs cs=some (true,ds)→datRep w Sc ds vs (λ_=>False)∧∀v∈vs,v.oneCell'=true
 |[],[],ds,_,_,he=>by
  simp only[lendCells,Option.some.injEq,Prod.mk.injEq,true_and]at he;subst he;exact⟨λ_ h=>h,by simp⟩
 |c::cs,v::vs,ds,hc,hR,he=>by
  simp only[lendCells]at he;split at he
  ·rename_i d h1;split at he
   ·rename_i b ds1 h2;simp only[Option.some.injEq,Prod.mk.injEq,Bool.and_eq_true]at he;obtain⟨⟨hg,rfl⟩,rfl⟩:=he;obtain⟨a1,a2⟩:=Zi7 hm hc.1 hS (λr hr=>hR r (by rw[List.flatMap_cons];exact List.mem_append_left _ hr)) h1 hg
    obtain⟨b1,b2⟩:=Zek hm hS hc.2 (λr hr=>hR r (by rw[List.flatMap_cons];exact List.mem_append_right _ hr)) h2
    exact⟨⟨λ_=>False,λ_=>False,a1,b1,λb=>by simp,λ_ h=>h.elim⟩,λx hx=>by
     rcases List.mem_cons.1 hx with rfl|hx
     ·exact a2
     ·exact b2 x hx⟩
   ·cases he
  ·cases he
 |[],_::_,_,h,_,_=>h.elim
 |_::_,[],_,h,_,_=>h.elim
end
end Go.Ev
