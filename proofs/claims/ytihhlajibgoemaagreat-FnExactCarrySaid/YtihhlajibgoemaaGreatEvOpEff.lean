/- Every operation that is no call of a loaded function. -/
import Derived.Test.YtihhlajibgoemaaGreatEvArgs
namespace Go.Ev
open Go.RowKit
set_option linter.unusedVariables false
set_option linter.unusedSimpArgs false
theorem Zta{w:World}{S:FP}{B:Nat}:∀(n off:Nat),(∀k,k<n→∃u:Value,w.cell? ⟨B,off+k,none⟩=some u∧u.oneCell'=true)→repRow w S (List.replicate n .dead) B off (λ_=>False)
 |0,_,_=>λ_ h=>h
 |n+1,off,h=>by
  obtain⟨u,h1,h2⟩:=h 0 (by omega)
  exact⟨u,λ_=>False,λ_=>False,h1,⟨h2,λ_ h=>h⟩,Zta n (off+1) (λk hk=>by
   obtain⟨u,h1,h2⟩:=h (k+1) (by omega)
   exact⟨u,by rw[show off+1+k=off+(k+1) by omega];exact h1,h2⟩),λb=>by simp,λb hb=>hb.elim⟩
theorem Zh0{w:World}{S:FP}{M:Mem}{L:Lay}:∀{cs:List C} {vs:List Value},cellsRep w S M L cs vs→cs.all C.solid=true→∀(k:Nat) (u:Value),vs[k]?=some u→u.oneCell'=true
 |[],[],_,_,k,u,hk=>by simp at hk
 |c::cs,v::vs,h,ha,k,u,hk=>by
  rw[List.all_cons,Bool.and_eq_true]at ha;cases k with
  |zero=>simp only[List.getElem?_cons_zero,Option.some.injEq]at hk;subst hk;exact Zev h.1 ha.1
  |succ k=>exact Zh0 h.2 ha.2 k u (by simpa using hk)
 |[],_::_,h,_,_,_,_=>h.elim
 |_::_,[],h,_,_,_,_=>h.elim
theorem Zmn{fz:Bool}{P:Program}{w:World}{S:FP}{M:Mem}{L:Lay}{ρ:Operand→Value}{R:List Nat}{nx:Nat}{rs:Look}{o:Oper}{vs:List TV}{e:Eff}(hm:MemRep w S M L)(hover:Zao M rs=M)(hkeys:∀r∈vs.flatMap TV.roots,r∈R)(hfresh:e.new≠[]→(M nx).born=false)
  (hv:opsRep w S M L vs ((operandsOf o.op).map ρ)) (he:opEff P fz nx o vs rs=some e) (hok:e.ok=true):OpDoes P w S M L ρ o R nx e:=by
 have keep:∀{x:Operand} {v:TV},o.op=.move x∨o.op=.assign x→vs=[v]→e=⟨true,fixTV P o.type v,rs,[]⟩→OpDoes P w S M L ρ o R nx e:=by
  intro x v ho hvs hE;subst hE hvs;obtain⟨u,hu,h1⟩:=Zax hv;have hux:u=ρ x:=by
   rcases ho with h|h<;>rw[h]at hu<;>simpa[operandsOf,Op.operands]using hu.symm
  subst hux;refine Za6 hm hover (.inl rfl) rfl ⟨ρ x,?_,Ztd h1⟩;rcases ho with h|h<;>unfold execOp<;>rw[h]<;>rfl
 unfold opEff at he;split at he
 ·rename_i x v ho;simp only[Option.some.injEq]at he;exact keep (.inl ho) rfl he.symm
 ·rename_i x v ho;simp only[Option.some.injEq]at he;exact keep (.inr ho) rfl he.symm
 ·rename_i t x v ho;cases fz with
  |false=>
   simp only[]at he;rw[←ho]at he;exact Zii hm hover hkeys hfresh hv he hok
  |true=>
   simp only[boxCp]at he;split at he
   ·rename_i a cs;split at he
    ·rename_i hl;simp only[Option.some.injEq]at he;subst he;obtain⟨hl1,hl2⟩:=hl;obtain⟨u,hu,h1⟩:=Zax hv;have hux:u=ρ x:=by rw[ho]at hu;simpa[operandsOf,Op.operands]using hu.symm
     subst hux;have hcs:=Zgs h1 (λc hc=>List.all_eq_true.1 hl2 c hc);have hlen:=Zbn hcs;have hN:∀r,r=nx→(M r).born=false:=λr hr=>by rw[hr];exact hfresh (List.cons_ne_nil _ _)
     have hmv:Moves w S M (Zao M rs) L L R (λ_=>False):=by rw[hover];exact Moves.refl hm R
     have hT:=Ze1 (w0:=w) (box:=true) (fz:=true) (sz:=cs.length) (cap:=1) (es:=[List.replicate cs.length .dead]) (cs:=(ρ x).cells) (t:=t) hm hmv (λ_ h=>h) (hfresh (List.cons_ne_nil _ _)) rfl (Below.refl 0 w) (by simp) (by omega) (by simp at hlen ⊢;omega) (λ{w'} g1 g2=>by
      refine⟨λ_=>False,λ_=>False,by simp,Zta _ _ (λk hk=>?_),λ_ h=>h,λb=>by simp,λ_ h=>h.elim⟩
      have hk':k<(ρ x).cells.toList.length:=by rw[←hlen];exact hk
      refine⟨(ρ x).cells.toList[k],?_,Zh0 hcs hl2 k _ (List.getElem?_eq_getElem hk')⟩;rw[g2,Nat.zero_add,←Array.getElem?_toList];exact List.getElem?_eq_getElem hk')
     have hrun:(execOp ρ o).run P w=.ok (.value (.pointer (some ⟨w.heap.size,0,none⟩))) (w.alloc (.cells (ρ x).cells t)):=by
      unfold execOp;rw[ho];simp[Instr.box,newVar,Go.newRow]
     refine Zew rfl rfl hrun hT ⟨⟨by simp,by simp⟩,⟨_,_,rfl⟩,(ρ x).cells.toList,Zbj (Zb0 (λc v hc=>hT.cRep hm hN hc) hcs),λ_=>⟨_,0,0,1,1,rfl,by simp,λk u hk=>?_⟩⟩
     rw[Nat.zero_add,Zgu,←Array.getElem?_toList];exact hk
    ·cases he
   ·cases he
 ·exact Zii hm hover hkeys hfresh hv he hok
theorem Zu6{mx:TypeId→Bool}{own:Bool}{P:Program}{rs:Look}{o:Op}{vs:List TV}{e:Eff}(he:opRo P mx o vs rs=some (own,e)):e.upd=[]∧e.new=[]∧seen o vs=vs:=by
 unfold opRo at he;split at he
 ·rename_i t a r ga gh q n i j;cases hmx:mx t with
  |false=>rw[hmx]at he;cases he
  |true=>
   rw[hmx]at he;simp only[cond_true]at he;split at he
   ·split at he
    ·split at he
     ·simp only[Option.some.injEq,Prod.mk.injEq]at he;obtain⟨_,rfl⟩:=he;exact⟨rfl,rfl,rfl⟩
     ·cases he
    ·cases he
   ·cases he
 ·cases he
theorem Zp3{mx:TypeId→Bool}{own:Bool}{P:Program}{w:World}{S:FP}{M:Mem}{L:Lay}{ρ:Operand→Value}{R:List Nat}{nx:Nat}{rs:Look}{o:Oper}{vs:List TV}{e:Eff}(hm:MemRep w S M L)(hover:Zao M rs=M)
  (hv:opsRep w S M L vs ((operandsOf o.op).map ρ)) (he:opRo P mx o.op vs rs=some (own,e)) (hok:e.ok=true):(e.upd=[]∧e.new=[])∧seen o.op vs=vs∧OpDoes P w S M L ρ o R nx e:=by
 unfold opRo at he;split at he
 ·rename_i t a r ga gh q n i j ho;cases hmx:mx t with
  |false=>rw[hmx]at he;cases he
  |true=>
   rw[hmx]at he;simp only[cond_true]at he;split at he
   ·rename_i hcond;simp only[Bool.and_eq_true,decide_eq_true_eq]at hcond;obtain⟨hc1,hc2,hagg⟩:=hcond;split at he
    ·rename_i b cs hld;split at he
     ·rename_i hcl;simp only[Option.some.injEq,Prod.mk.injEq]at he;obtain⟨_,rfl⟩:=he;simp only[Bool.and_eq_true]at hok;obtain⟨hpq,rfl⟩:=hok;refine⟨⟨rfl,rfl⟩,by rw[ho];rfl,Za6 (rs:=rs) hm hover (.inr rfl) rfl ?_⟩
      obtain⟨u,hu,h1⟩:=Zax hv;rw[ho]at hu;simp only[operandsOf,Op.operands,List.map_cons,List.map_nil,List.cons.injEq,and_true]at hu;subst hu;have hov:M r=rs.get r:=by
       have:=Za8 (M:=M) (Zar hc1);rw[hover]at this;exact this
      have hin:∃d,P.underlying t=some d:=by
       cases hq:P.underlying t with
       |some d=>exact⟨d,rfl⟩
       |none=>unfold isAggB at hagg;rw[hq]at hagg;cases hagg
      obtain⟨d,hin⟩:=hin;obtain⟨es1,B,off,cap,F',k1,k2,k3,k4,k5,k6,k7⟩:=Zgl hm h1 (by rw[hov];exact hc1) (by rw[hov];exact hpq)
      rw[hov]at k7;rw[k7]at hld;obtain⟨G,R',g1,g2,g3,_⟩:=Zb9 i k2 k3;obtain⟨us,l1,l2,hc,hr⟩:=Zem (S:=S) (M:=M) (L:=L) g2 (litLeaves P t) j hld;obtain⟨v,r1,r2⟩:=Zeb (P:=P) (t:=t) (B:=B) (off:=off+i*n+j) hin (by omega) hc hr (λh=>by rw[hagg]at h;cases h)
      refine⟨v,?_,by rw[hagg]at r2;exact r2⟩
      unfold execOp;rw[ho];simp only[Sem.run_bind,k6,Instr.loadAt,Instr.sureAddr,Sem.run_pure,Result.andThen_ok,r1]
     ·cases he
    ·cases he
   ·cases he
 ·cases he
end Go.Ev
