/- Every operation that is no call of a loaded function does what the evaluator says. -/
import Derived.Test.YtihhlajibgoemaaGreatEvMemOps
namespace Go.Ev
open Go.RowKit
set_option linter.unusedVariables false
set_option linter.unusedSimpArgs false
def addNew(M:Mem)(nx:Nat)(new:List Root):Mem:=λr=>if nx≤r∧r<nx+new.length then new.getD (r-nx) deadRoot else M r
def newOf(nx n:Nat):Nat→Prop:=λr=>nx≤r∧r<nx+n
theorem Zet(M:Mem)(nx:Nat):addNew M nx []=M:=by
 funext r
 unfold addNew;rw[if_neg (by simp)]
theorem Zbu(M:Mem)(nx:Nat)(x:Root):addNew M nx [x]=λk=>if k=nx then x else M k:=by
 funext r
 unfold addNew;by_cases h:r=nx
 ·subst h;simp
 ·rw[if_neg (by simp;omega),if_neg h]
theorem Zjm(nx:Nat):newOf nx 0=λ_=>False:=by
 funext r;unfold newOf;simp
theorem Ztx(nx:Nat):newOf nx 1=λk=>k=nx:=by
 funext r;unfold newOf;exact propext ⟨λh=>by omega,λh=>by omega⟩
theorem Z2t(M:Mem):Zao M []=M:=rfl
def OpDoes(P:Program)(w:World)(S:FP)(M:Mem)(L:Lay)(ρ:Operand→Value)(o:Oper)(R:List Nat)(nx:Nat)(e:Eff):Prop:=
 ∃n v w' L',(execOp ρ o).run P w=.ok n w'∧(n=.value v∨(n=.skip∧v=undef))∧tvRep w' S (addNew (Zao M e.upd) nx e.new) L' e.val v∧
  Turns w w' S S M (addNew (Zao M e.upd) nx e.new) L L' R (newOf nx e.new.length)
section
variable {P : Program} {w : World} {S : FP} {M : Mem} {L : Lay} {ρ : Operand → Value} {R : List Nat} {nx : Nat} {rs : Look}
theorem Za6{o:Oper}{e:Eff}(hm:MemRep w S M L)(hover:Zao M rs=M)(hu:e.upd=rs∨e.upd=[])(hn:e.new=[])(h:∃v,(execOp ρ o).run P w=.ok (.value v) w∧tvRep w S M L e.val v):OpDoes P w S M L ρ o R nx e:=by
 obtain⟨v,h1,h2⟩:=h;have he:addNew (Zao M e.upd) nx e.new=M:=by
  rw[hn,Zet];rcases hu with hu|hu<;>rw[hu]
  ·exact hover
  ·rfl
 refine⟨.value v,v,w,L,h1,.inl rfl,?_,?_⟩
 ·rw[he];exact h2
 ·rw[he,hn];have:=Turns.refl hm R;rw[List.length_nil,Zjm];exact this
theorem Zew{o:Oper}{e:Eff}{x:Root}{rs1:Look}{w':World}{L':Lay}{v:Value}(hu:e.upd=rs1)(hn:e.new=[x])(hrun:(execOp ρ o).run P w=.ok (.value v) w')
  (hT:Turns w w' S S M (λk=>if k=nx then x else Zao M rs1 k) L L' R (λk=>k=nx)) (hv:tvRep w' S (λk=>if k=nx then x else Zao M rs1 k) L' e.val v):OpDoes P w S M L ρ o R nx e:=by
 refine⟨.value v,v,w',L',hrun,.inl rfl,?_,?_⟩
 ·rw[hu,hn,Zbu];exact hv
 ·rw[hu,hn,Zbu,List.length_singleton,Ztx];exact hT
theorem Znk{w':World}{S':FP}{M':Mem}{nx sz cap B:Nat}{es:List (List D)}{L':Lay}(hM:M' nx={ box:=false,sz:=sz,es:=es })(hL:L'.hd nx=.slice (some ⟨B,0,none⟩) es.length cap):
  tvRep w' S' M' L' (.v false [.view nx 0 0 [] sz none]) (.slice (some ⟨B,0,none⟩) es.length cap):=by
 refine⟨by rw[hM];exact⟨rfl,Nat.le_refl _⟩,⟨_,_,_,rfl⟩,λ_ _=>⟨es,_,_,_,?_,rfl⟩⟩
 rw[hM,hL];exact .nil _ _
theorem Zx2{w':World}{S':FP}{M':Mem}{nx sz cap B:Nat}{row:List D}{L':Lay}(hM:M' nx={ box:=true,sz:=sz,es:=[row] })(hL:L'.hd nx=.slice (some ⟨B,0,none⟩) 1 cap):
  tvRep w' S' M' L' (.v false [.ptr nx 0 0 [] sz 0 0]) (.pointer (some ⟨B,0,none⟩)):=by
 refine⟨by rw[hM];exact⟨rfl,Nat.le_refl _⟩,⟨_,_,rfl⟩,λ_ _=>⟨[row],B,0,1,cap,?_,by simp,by simp⟩⟩
 rw[hM,hL];exact .nil _ _
theorem Z0f{o:Oper}{row:List D}{zv:Value}{t:TypeId}{rs1:Look}{L1:Lay}{G:FP}(hm:MemRep w S M L)(mv:Moves w S M (Zao M rs1) L L1 R G)(hfresh:(M nx).born=false)
  (hd:datRep w S row zv.cells.toList G) (hrun:(execOp ρ o).run P w=.ok (.value (.pointer (some ⟨w.heap.size,0,none⟩))) (w.alloc (.cells zv.cells t))):
  OpDoes P w S M L ρ o R nx ⟨true,.v false [.ptr nx 0 0 [] row.length 0 0],rs1,[{ box:=true,sz:=row.length,es:=[row] }]⟩:=by
 have hl:zv.cells.size=row.length:=by have:=Za4 hd;simpa using this.symm
 have hT:=Ze1 (w0:=w) (box:=true) (sz:=row.length) (cap:=1) (es:=[row]) (cs:=zv.cells) (t:=t) hm mv (λ_ h=>h) hfresh rfl (Below.refl 0 w) (by simp) (by omega) (by omega) (λ{w'} h1 h2=>by
  refine⟨G,λ_=>False,rfl,Zc4 (λb hb=>⟨hb,h1 b (hm.lent b hb)⟩) hd (λb hb=>h1 b (by obtain⟨k,_,k1,k2⟩:=mv.out b hb;exact(hm.own k k1 b k2).1)) (λk v hk=>?_),λ_ h=>h,λb=>by simp,λ_ _ h=>h⟩
  rw[h2,Nat.zero_add,←Array.getElem?_toList];exact hk)
 exact Zew rfl rfl hrun hT (Zx2 (row:=row) (cap:=1) (by simp) (by simp))
theorem Zfb{M:Mem}{ls:List Leaf}{sz:Nat}:∀{xs:List TV} {us:List Value} {L:Lay} {rs rs':Look} {es:List (List D)},MemRep w S (Zao M rs) L→opsRep w S (Zao M rs) L xs us→moveRows ls xs rs=some (true,es,rs')→(es.all λr=>r.length==sz)=true→
  ∃G L',rowsDat w S sz es (us.map λu=>u.cells.toList) G∧Moves w S (Zao M rs) (Zao M rs') L L' (xs.flatMap TV.roots) G∧rs'.keys=rs.keys
 |[],[],L,rs,rs',es,hm,_,he,_=>by
  simp only[moveRows,Option.some.injEq,Prod.mk.injEq]at he;obtain⟨_,rfl,rfl⟩:=he;exact⟨λ_=>False,L,λ_ h=>h,Moves.refl hm _,rfl⟩
 |x::xs,u::us,L,rs,rs',es,hm,hv,he,hall=>by
  obtain⟨hx,hv⟩:=hv;simp only[moveRows]at he;split at he
  ·rename_i b d rs1 h1;split at he
   ·rename_i b' es1 rs2 h2;simp only[Option.some.injEq,Prod.mk.injEq,Bool.and_eq_true]at he;obtain⟨⟨rfl,rfl⟩,rfl,rfl⟩:=he;rw[List.all_cons,Bool.and_eq_true]at hall;obtain⟨G1,L1,r1,m1,k1⟩:=Zb4 hm (Zkb hx h1) h1;have hv':opsRep w S (Zao M rs1) L1 xs us:=by
     have:∀{xs:List TV} {us:List Value},opsRep w S (Zao M rs) L xs us→opsRep w S (Zao M rs1) L1 xs us:=by
      intro xs;induction xs with
      |nil=>intro us h;cases us<;>exact h
      |cons x xs ih=>
       intro us h;cases us with
       |nil=>exact h
       |cons u us=>exact⟨Zcg (λc v hc=>Zbw (λb hb=>⟨hb,rfl⟩) m1.keeps hc) (Zg2 m1.keeps) h.1,ih h.2⟩
     exact this hv
    obtain⟨G2,L2,r2,m2,k2⟩:=Zfb m1.rep hv' h2 hall.2;have hroots:∀r∈(fixNils ls x.cells).flatMap C.roots,r∈(x::xs).flatMap TV.roots:=by
     intro r hr;rw[List.flatMap_cons];refine List.mem_append_left _ ?_;have key:∀{ls:List Leaf} {cs:List C},(fixNils ls cs).flatMap C.roots=cs.flatMap C.roots:=by
      intro ls;induction ls with
      |nil=>intro cs;cases cs<;>rfl
      |cons l ls ih=>
       intro cs;cases cs with
       |nil=>cases l<;>rfl
       |cons c cs=>cases l<;>cases c<;>simp[fixNils,ih,C.roots]
     rw[key]at hr;cases x with
     |v a cs=>exact hr
     |tup vs=>simp[TV.cells,C.roots]at hr
     |cp r cs=>simp[TV.cells,C.roots]at hr
    obtain⟨m,hdis⟩:=Moves.trans m1 m2 (R:=(x::xs).flatMap TV.roots) hroots (λr hr=>by rw[List.flatMap_cons];exact List.mem_append_right _ hr)
    exact⟨_,L2,⟨G1,G2,by simpa using hall.1,r1,r2,λb=>Iff.rfl,hdis⟩,m,k2.trans k1⟩
   ·cases he
  ·cases he
 |[],_::_,L,rs,rs',es,hm,h,he,_=>h.elim
 |_::_,[],L,rs,rs',es,hm,h,he,_=>h.elim
theorem Zc0:∀{ls:List Leaf} {cs:List C},(fixNils ls cs).flatMap C.roots=cs.flatMap C.roots:=by
 intro ls;induction ls with
 |nil=>intro cs;cases cs<;>rfl
 |cons l ls ih=>
  intro cs;cases cs with
  |nil=>cases l<;>rfl
  |cons c cs=>cases l<;>cases c<;>simp[fixNils,ih,C.roots]
theorem Znx(x:TV){r:Nat}(h:r∈x.cells.flatMap C.roots):r∈x.roots:=by
 cases x with
 |v a cs=>exact h
 |tup vs=>simp[TV.cells,C.roots]at h
 |cp k cs=>simp[TV.cells,C.roots]at h
theorem Moves.more{w:World}{S:FP}{M M':Mem}{L L':Lay}{R R':List Nat}{G:FP}(h:Moves w S M M' L L' R G)(hR:∀r∈R,r∈R'):Moves w S M M' L L' R' G:=
 ⟨h.rep,h.hd,h.live,h.fp,h.keeps,λb hb=>by obtain⟨r,h1,h2⟩:=h.out b hb;exact⟨r,hR r h1,h2⟩,h.apart,λr hr=>h.same r (λhx=>hr (hR r hx)),h.box,h.keep,λr hr=>h.fpsame r (λhx=>hr (hR r hx)),h.pins⟩
end
end Go.Ev
