/- The operations, all of them. -/
import Derived.Test.YtihhlajibgoemaaGreatEvEff
namespace Go.Ev
open Go.RowKit
set_option linter.unusedVariables false
set_option linter.unusedSimpArgs false
section
variable {P : Program} {w : World} {S : FP} {M : Mem} {L : Lay} {ρ : Operand → Value} {R : List Nat} {nx : Nat} {rs : Look}
theorem Zde{o:Oper}{c:Call}{b:Builtin}(ho:o.op=.call c)(hc:c.callee=.builtin b):
  ∃k:Array Bool,(execOp ρ o).run P w=(builtin b c.argTypes o.type k (c.args.map ρ)).run P w:=by
 unfold execOp;rw[ho];simp only[resolve,hc,Sem.run_bind,Sem.run_pure,Result.andThen_ok,invoke];exact⟨_,rfl⟩
theorem Zsy{c:Call}{us:List Value}(h:c.args.toList.map ρ=us):c.args.map ρ=us.toArray:=by
 apply Array.ext';simpa using h
theorem Zjc:∀{es:List (List D)} {B off:Nat} {F:FP},repRows w S es B off 1 F→allBytes es=true→∃ns:List Int,ns.length=es.length∧(∀(k:Nat) (v:Value),(ns.map (Value.int .u8))[k]?=some v→w.cell? ⟨B,off+k,none⟩=some v)∧
  ∀s:ByteArray,ns.foldl (λr n=>r.push (UInt8.ofNat n.toNat)) s=⟨s.data++(es.map λr=>(r.getD 0 .dead).num.toNat.toUInt8).toArray⟩
 |[],B,off,F,_,_=>⟨[],rfl,by simp,λs=>by simp⟩
 |e::es,B,off,F,h,ha=>by
  obtain⟨F1,F2,h1,h2,h3,_⟩:=h;unfold allBytes at ha;rw[List.all_cons,Bool.and_eq_true]at ha
  match e,h1,h2,ha with
  |[d],h1,h2,ha=>
   have hd:∃n,d=.int .u8 n:=by
    have:=ha.1;simp only[fits,Bool.and_true]at this;exact Zei this
   obtain⟨n,rfl⟩:=hd;obtain⟨v,G1,G2,k1,k2,k3,_⟩:=h2;have hv:=k2.1;subst hv;obtain⟨ns,l1,l2,l3⟩:=Zjc h3 ha.2;refine⟨n::ns,by simp[l1],λk v hk=>?_,λs=>?_⟩
   ·cases k with
    |zero=>simp at hk;subst hk;exact k1
    |succ k=>
     have:=l2 k v (by simpa using hk)
     rw[show off+(k+1)=off+1+k by omega]
     exact this
   ·rw[List.foldl_cons,l3]
    congr 1
    apply Array.ext';simp[D.num,ByteArray.push]
theorem Znu{es:List (List D)}{A:Option Addr}{cap sz:Nat}{sub:Option (Nat×Nat)}{v:Value}{G:FP}(h:repD w S (.sl true sz es) (.slice A es.length cap) G)(hs:subHead A es.length cap sz sub v):
  ∃A' cap',v=.slice A' (subRows es sub).length cap'∧(subRows es sub).length≤cap'∧
   ((A'=none∧subRows es sub=[]∧cap'=0)∨∃B off' F',A'=some ⟨B,off',none⟩∧repRows w S (subRows es sub) B off' sz F'∧(∀b,F' b→G b)∧G B∧¬F' B∧ownSl w B off' cap' sz):=by
 obtain⟨G',h1,h2⟩:=Zkq h hs;obtain⟨A',cap',rfl,hcap,h1⟩:=h1;refine⟨A',cap',rfl,hcap,?_⟩;rcases h1 with⟨h3,h4,h5,_⟩|⟨B,off,F',h3,h4,h5⟩
 ·exact .inl ⟨h3.resolve_right (by simp),h4,h5⟩
 ·rcases h5 with⟨_,h6,h7,h8⟩|⟨h5,_⟩
  ·exact .inr ⟨B,off,F',h3,h4,λb hb=>h2 b ((h7 b).2 (.inr hb)),h2 B ((h7 B).2 (.inl rfl)),h6,h8⟩
  ·cases h5
theorem Zit{c:C}{v:Value}{es:List (List D)}(hm:MemRep w S (Zao M rs) L)(hc:cRep w S (Zao M rs) L c v)(he:rowsOf rs c=some es)(hg:goodC rs c=true):
  ∃A cap,v=.slice A es.length cap∧es.length≤cap∧((es=[]∧cap=0)∨∃B off F',A=some ⟨B,off,none⟩∧repRows w S es B off (szOf c) F'∧(∀b,F' b→∃r,r∈c.roots∧(Zao M rs r).live=true∧L.fp r b)):=by
 cases c with
 |d x=>
  cases x with
  |sl o n es'=>
   cases o with
   |true=>cases he
   |false=>
    simp only[rowsOf,Option.some.injEq]at he;subst he;obtain⟨_,A,cap,rfl,hcap,h⟩:=hc;refine⟨A,cap,rfl,hcap,?_⟩;rcases h with⟨h1,h2,h3,_⟩|⟨B,off,F',h1,h2,h3⟩
    ·exact .inl ⟨h2,h3⟩
    ·rcases h3 with⟨h3,_⟩|⟨_,_,h4,_⟩
     ·cases h3
     ·exact .inr ⟨B,off,F',h1,h2,λb hb=>absurd hb (h4 b)⟩
  |_=>cases he
 |nils n=>
  simp only[rowsOf,Option.some.injEq]at he;subst he;exact⟨none,0,hc,Nat.le_refl _,.inl ⟨rfl,rfl⟩⟩
 |view r ga gh q n sub=>
  simp only[rowsOf]at he;split at he
  ·rename_i hcond;simp only[Bool.and_eq_true]at hcond;simp only[Option.some.injEq]at he;have hl:=Zar hcond.1;have hov:Zao M rs r=rs.get r:=Za8 hl;obtain⟨es1,A,cap,G,k1,k2,k3,k4,k5⟩:=Zes hm hc (by rw[hov];exact hcond.1) (by rw[hov];exact hg)
   rw[hov]at k5;rw[k5]at he;subst he;obtain⟨A',cap',h1,h2,h3⟩:=Znu k2 k4;refine⟨A',cap',h1,h2,?_⟩;rcases h3 with h3|⟨B,off',F',h4,h5,h6,_⟩
   ·exact .inl h3.2
   ·exact .inr ⟨B,off',F',h4,h5,λb hb=>⟨r,by simp[C.roots],by rw[hov];exact hl,k3 b (h6 b hb)⟩⟩
  ·cases he
 |_=>cases he
theorem Z2n{a b:Bool}(h:(a&&b)=true):a=true∧b=true:=by simpa using h
theorem Zeu{lo hi n:Int}(h:boundC lo hi n=true):0≤lo∧lo≤hi∧hi≤n:=by
 unfold boundC at h;simpa using h
theorem Ztq{z:Array Value}{n k j:Nat}{v:Value}(h:k*z.size+z.size≤n)(hj:z.toList[j]?=some v):(madeCells z n)[k*z.size+j]?=some v:=by
 have hjl:j<z.size:=by simpa using(List.getElem?_eq_some_iff.1 hj).1
 have hlt:k*z.size+j<n:=by omega
 have hmod:(k*z.size+j) % z.size=j:=by rw[Nat.add_comm,Nat.add_mul_mod_self_right,Nat.mod_eq_of_lt hjl]
 have hz:z[j]?=some v:=by rw[←Array.getElem?_toList];exact hj
 rw[Array.getElem?_eq_getElem (by rw[size_madeCells];exact hlt)]
 unfold madeCells;rw[Array.getElem_map,Array.getElem_range,hmod]
 congr 1
 rw[getElem!_pos z j hjl];rw[Array.getElem?_eq_getElem hjl]at hz;exact Option.some.inj hz
theorem Ztr{o:Oper}{t e:TypeId}{row:List D}{k1 k2:IntKind}{n m:Int}(hm:MemRep w S M L)(hover:Zao M rs=M)(hfresh:(M nx).born=false)(ht:P.underlying t=some (.slice e))(hz:zeroRow P e=some row)(hl:row.length=P.cellsOf e)(hpos:0<P.bytesOf e)
  (h0:0≤n) (h1:n≤m) (h2:m.toNat*P.bytesOf e≤140737488355328)
  (hrun:∀w' v,(Instr.makeSlice t (.int k1 n) (.int k2 m)).run P w=.ok v w'→(execOp ρ o).run P w=.ok (.value v) w') {b:Bool}:
  OpDoes P w S M L ρ o R nx ⟨b,.v false [.view nx 0 0 [] row.length none],rs,[{ box:=false,sz:=row.length,es:=List.replicate n.toNat row }]⟩:=by
 obtain⟨i,zv,hi,hzv,hzc⟩:=Zcu hz;obtain⟨_,F,hd,hF⟩:=Zbt (w:=w) (S:=S) (M:=M) (L:=L) hzc;have hF':F=λ_=>False:=funext λb=>propext ⟨λh=>hF b h,λh=>h.elim⟩;subst hF';have hzl:zv.cells.size=row.length:=by have:=Za4 hd;rw[this];simp
 have hby:P.bytesOf e=i.bytes:=by simp[Program.bytesOf,hi]
 have hsz:P.cellsOf e=i.size:=by simp[Program.cellsOf,hi]
 rw[hby]at h2 hpos;have hm3:m.toNat≤140737488355328:=Nat.le_trans (Nat.le_mul_of_pos_right _ hpos) h2;have hb2:(i.bytes:Int)*m≤281474976710656:=by
  have e1:((i.bytes*m.toNat:Nat):Int)=(i.bytes:Int)*m:=by rw[Int.natCast_mul,Int.toNat_of_nonneg (by omega)]
  rw[Nat.mul_comm]at h2;omega
 have hr:=run_make (P:=P) w t e i zv ht hi hzv k1 k2 n m h0 h1 hb2 (by omega)
 have hnm:n.toNat≤m.toNat:=by omega
 have hle:m.toNat*row.length≤(madeCells zv.cells (m.toNat*i.size)).size:=by rw[size_madeCells,hl,hsz];exact Nat.le_refl _
 have hT:=Ze1 (w0:=w) (box:=false) (sz:=row.length) (cap:=m.toNat) (es:=List.replicate n.toNat row) (cs:=madeCells zv.cells (m.toNat*i.size)) (t:=e) (nx:=nx) (M1:=M) (L1:=L) (R1:=R) (R:=R) (G:=λ_=>False)
  hm (Moves.refl hm R) (λ_ h=>h) hfresh rfl (Below.refl 0 w) (by rw[List.length_replicate];exact hnm) (by omega) hle (λ{w'} g1 g2=>Zgo (λk hk=>by
   rw[List.length_replicate]at hk;have hg:(List.replicate n.toNat row).getD k []=row:=by rw[List.getD_eq_getElem?_getD,List.getElem?_replicate,if_pos hk];rfl
   rw[hg];refine⟨rfl,Zc4 (λb hb=>⟨hb,g1 b (hm.lent b hb)⟩) hd (λb hb=>hb.elim) (λj v hj=>?_)⟩;have hmul:k*zv.cells.size+zv.cells.size≤m.toNat*i.size:=by
    have:=Nat.mul_le_mul_right zv.cells.size (show k+1≤m.toNat by omega)
    rw[Nat.add_mul,Nat.one_mul]at this;rw[hzl,hl,hsz]at this⊢;exact this
   rw[g2,Nat.zero_add,←hzl];exact Ztq hmul hj))
 refine Zew (x:={ box:=false,sz:=row.length,es:=List.replicate n.toNat row }) (rs1:=rs) rfl rfl (hrun _ _ hr) (by rw[hover];exact hT) ?_
 have:=Znk (w':=w.alloc (.cells (madeCells zv.cells (m.toNat*i.size)) e)) (S':=S) (M':=λk=>if k=nx then { box:=false,sz:=row.length,es:=List.replicate n.toNat row }else Zao M rs k) (nx:=nx) (sz:=row.length) (cap:=m.toNat) (B:=w.heap.size) (es:=List.replicate n.toNat row)
  (L':=⟨λk=>if k=nx then .slice (some ⟨w.heap.size,0,none⟩) (List.replicate n.toNat row).length m.toNat else L.hd k,λk=>if k=nx then(λb=>b=w.heap.size∨False)else L.fp k⟩) (by simp) (by simp)
 simpa only[List.length_replicate]using this
theorem Zm6{size:Nat}:∀(us:List Value) (k:Nat) (cs:Array Value),(∀u∈us,u.cells.size=size)→(k+us.length)*size≤cs.size→
  ∃out,Instr.fill (λi=>some (i*size,size)) cs ((List.range' k us.length).zip us)=some out∧out.toList=cs.toList.take (k*size)++(us.map λu=>u.cells.toList).flatten++cs.toList.drop ((k+us.length)*size)
 |[],k,cs,_,_=>⟨cs,rfl,by simp⟩
 |u::us,k,cs,h,hle=>by
  have hu:=h u (by simp)
  have e1:(k+(u::us).length)*size=k*size+size+us.length*size:=by rw[List.length_cons,Nat.add_mul,Nat.add_mul];omega
  have hle2:k*size+u.cells.size≤cs.size:=by omega
  rw[List.length_cons,List.range'_succ,List.zip_cons_cons];simp only[Instr.fill,hu,ne_eq,not_true,decide_false,Bool.false_or,decide_eq_true_eq];rw[if_neg (by omega)]
  have e2:(Array.foldl (λ(cs:Array Value) (x:Value×Nat)=>match x with|(c,j)=>cs.setIfInBounds (k*size+j) c) cs u.cells.zipIdx).toList=cs.toList.take (k*size)++u.cells.toList++cs.toList.drop (k*size+u.cells.toList.length):=by
   have:(Array.foldl (λ(cs:Array Value) (x:Value×Nat)=>cs.setIfInBounds (k*size+x.2) x.1) cs u.cells.zipIdx).toList=cs.toList.take (k*size)++u.cells.toList++cs.toList.drop (k*size+u.cells.toList.length):=by
    rw[←Array.foldl_toList,Array.toList_zipIdx];have:=Zh5 u.cells.toList (k*size) 0 cs (by simpa using hle2)
    simpa using this
   exact this
  generalize hcs':Array.foldl (λ(cs:Array Value) (x:Value×Nat)=>match x with|(c,j)=>cs.setIfInBounds (k*size+j) c) cs u.cells.zipIdx=cs' at e2
  have hul:u.cells.toList.length=size:=by simpa using hu
  have hsz:cs'.size=cs.size:=by
   have:=congrArg List.length e2;simp only[Array.length_toList,List.length_append,List.length_take,List.length_drop]at this;omega
  obtain⟨out,h1,h2⟩:=Zm6 us (k+1) cs' (λx hx=>h x (by simp[hx])) (by rw[hsz];rw[Nat.add_assoc,Nat.add_comm 1];exact hle)
  refine⟨out,h1,?_⟩;rw[h2,e2,hul];have l1:(cs.toList.take (k*size)).length=k*size:=by rw[List.length_take];simp;omega
  have l2:(cs.toList.take (k*size)++u.cells.toList).length=(k+1)*size:=by rw[List.length_append,l1,hul,Nat.add_mul];omega
  rw[List.take_append_of_le_length (by omega),List.take_of_length_le (by omega),List.drop_append,List.drop_of_length_le (by rw[l2];exact Nat.mul_le_mul_right _ (by omega))]
  simp only[List.map_cons,List.flatten_cons,List.nil_append,List.append_assoc,List.drop_drop,l2]
  congr 4
  have e3:(k+1+us.length)*size=k*size+size+us.length*size:=by rw[Nat.add_mul,Nat.add_mul];omega
  have e4:(k+1)*size=k*size+size:=by rw[Nat.add_mul];omega
  have e5:(k+(us.length+1))*size=k*size+size+us.length*size:=by rw[Nat.add_mul,Nat.add_mul];omega
  rw[e5,e3,e4];omega
theorem Zh4{size:Nat}:∀{us:List Value},(∀u∈us,u.cells.size=size)→((us.map λu=>u.cells.toList).flatten).length=us.length*size
 |[],_=>by simp
 |u::us,h=>by
  rw[List.map_cons,List.flatten_cons,List.length_append,Zh4 (λx hx=>h x (by simp[hx])),List.length_cons,Nat.add_mul,Array.length_toList,h u (by simp)]
  omega
theorem Zp7{o:Oper}{t e:TypeId}{len:Nat}{parts:Array (Nat×Operand)}{vs:List TV}{es:List (List D)}{rs1:Look}(hm:MemRep w S M L)(hover:Zao M rs=M)(hfresh:(M nx).born=false)(hkeys:∀r∈vs.flatMap TV.roots,r∈R)
  (ht:P.underlying t=some (.slice e)) (hc:parts.toList.map (·.1)=List.range len) (hl:vs.length=len) (hcap:len*P.cellsOf e≤16777216∧len≤16777216) (hzr:(zeroRow P e).isSome=true) (hv:opsRep w S (Zao M rs) L vs ((parts.toList.map (·.2)).map ρ))
  (hmv:moveRows (litLeaves P e) vs rs=some (true,es,rs1)) (hall:(es.all λr=>r.length==P.cellsOf e)=true)
  (hrun:∀w' v,(Instr.buildSlice t len (parts.map λ(i,x)=>(i,ρ x))).run P w=.ok v w'→(execOp ρ o).run P w=.ok (.value v) w'):
  OpDoes P w S M L ρ o R nx ⟨true,.v false [.view nx 0 0 [] (P.cellsOf e) none],rs1,[{ box:=false,sz:=P.cellsOf e,es:=es }]⟩:=by
 have hm':MemRep w S (Zao M rs) L:=by rw[hover];exact hm
 obtain⟨row,hz⟩:=Option.isSome_iff_exists.1 hzr;obtain⟨i,zv,hi,hzv,hzc⟩:=Zcu hz;have hsz:P.cellsOf e=i.size:=by simp[Program.cellsOf,hi]
 obtain⟨G,L1,hd,mv,_⟩:=Zfb hm' hv hmv hall;rw[hover]at mv;have hul:((parts.toList.map (·.2)).map ρ).length=len:=by rw[←Zd6 hv];exact hl
 generalize hus:(parts.toList.map (·.2)).map ρ=us at hd hul;have hsizes:∀{es:List (List D)} {us:List Value} {G:FP},rowsDat w S (P.cellsOf e) es (us.map λu=>u.cells.toList) G→es.length=us.length∧∀u∈us,u.cells.size=P.cellsOf e:=by
  intro es;induction es with
  |nil=>intro us G h;cases us with|nil=>exact⟨rfl,by simp⟩|cons u us=>exact h.elim
  |cons x es ih=>
   intro us G h;cases us with
   |nil=>exact h.elim
   |cons u us=>
    obtain⟨F1,F2,h0,h1,h2,_⟩:=h;obtain⟨k1,k2⟩:=ih h2;refine⟨by simp[k1],λy hy=>?_⟩
    rcases List.mem_cons.1 hy with rfl|hy
    ·have:=Za4 h1;rw[h0]at this;simpa using this.symm
    ·exact k2 y hy
 obtain⟨hel,hsize⟩:=hsizes hd;let z0:Array Value:=if len*i.size=0 then #[]else zv.cells;let cs0:Array Value:=(Array.range (len*i.size)).map (z0[· % z0.size]!);have hcs0:cs0.size=len*i.size:=by simp[cs0]
 obtain⟨out,hf1,hf2⟩:=Zm6 (size:=i.size) us 0 cs0 (by rw[←hsz];exact hsize) (by rw[hcs0,hul];simp)
 have hparts:(parts.map λ(i,x)=>(i,ρ x)).toList=(List.range' 0 us.length).zip us:=by
  rw[hul,←List.range_eq_range',←hc,←hus];simp[List.zip_map',List.map_map]
 have hfl:out.toList=(us.map λu=>u.cells.toList).flatten:=by
  rw[hf2,Nat.zero_mul,List.take_zero,List.nil_append,Nat.zero_add,hul,←hcs0];simp
 have hr:(Instr.buildSlice t len (parts.map λ(i,x)=>(i,ρ x))).run P w=.ok (.slice (some ⟨w.heap.size,0,none⟩) len len) (w.alloc (.cells out e)):=by
  have hns:¬(16777216<len*i.size):=by rw[←hsz];omega
  rw[←hparts]at hf1;by_cases h0:len*i.size=0
  ·have hz0:z0=#[]:=if_pos h0;simp only[cs0,hz0,h0]at hf1;simp[Instr.buildSlice,run_underlying ht,sizeOf,typeInfo,hi,hns,h0];simp at hf1;simp[hf1,Go.newRow]
  ·have hz0:z0=zv.cells:=if_neg h0;simp only[cs0,hz0]at hf1;simp[Instr.buildSlice,run_underlying ht,sizeOf,typeInfo,zeroValue,hi,hzv,hns,h0];simp at hf1;simp[hf1,Go.newRow]
 have hT:=Ze1 (w0:=w) (box:=false) (sz:=P.cellsOf e) (cap:=len) (es:=es) (cs:=out) (t:=e) (nx:=nx) (R:=R)
  hm mv hkeys hfresh rfl (Below.refl 0 w) (by rw[hel,hul];exact Nat.le_refl _) (by omega) (by
   have:out.size=len*i.size:=by
    have h1:=congrArg List.length hf2;simp only[Array.length_toList,List.length_append,List.length_take,List.length_drop]at h1;have h2:((us.map λu=>u.cells.toList).flatten).length=len*i.size:=by
     rw[←hul];exact Zh4 (by rw[←hsz];exact hsize)
    rw[hul,Nat.zero_add]at h1;omega
   rw[this,hsz];exact Nat.le_refl _) (λ{w'} g1 g2=>Zdk (λb hb=>⟨hb,g1 b (hm.lent b hb)⟩) hd (λb hb=>g1 b (by obtain⟨k,_,k1,k2⟩:=mv.out b hb;exact(hm.own k k1 b k2).1)) (λk v hk=>by
    rw[g2,Nat.zero_add,←Array.getElem?_toList,hfl];exact hk))
 refine Zew (x:={ box:=false,sz:=P.cellsOf e,es:=es }) (rs1:=rs1) rfl rfl (hrun _ _ hr) hT ?_;have hl2:es.length=len:=by rw[hel,hul]
 have:=Znk (w':=w.alloc (.cells out e)) (S':=S) (M':=λk=>if k=nx then { box:=false,sz:=P.cellsOf e,es:=es }else Zao M rs1 k) (nx:=nx) (sz:=P.cellsOf e) (cap:=len) (B:=w.heap.size) (es:=es)
  (L':=⟨λk=>if k=nx then .slice (some ⟨w.heap.size,0,none⟩) es.length len else L1.hd k,λk=>if k=nx then(λb=>b=w.heap.size∨G b)else L1.fp k⟩) (by simp) (by simp)
 simpa only[hl2]using this
theorem Zkv{t:TypeId}{s:ByteArray}{lo hi:Option Value}{l h:Int}(ht:P.underlying t=some .string)(hlo:lo=none∧l=0∨∃k,lo=some (.int k l))(hhi:hi=none∧h=(s.size:Int)∨∃k,hi=some (.int k h))
  (h0:0≤l) (h1:l≤h) (h2:h≤(s.size:Int)):(Instr.sliceAt t (.string s) lo hi none).run P w=.ok (.string (s.extract l.toNat h.toNat)) w:=by
 have e1:(h.toNat:Int)=h:=Int.toNat_of_nonneg (by omega)
 have e2:0≤h:=by omega
 rcases hlo with⟨rfl,rfl⟩|⟨k,rfl⟩<;>rcases hhi with⟨rfl,rfl⟩|⟨k',rfl⟩<;>
  simp[Instr.sliceAt,Instr.slice,run_underlying ht,Instr.sliceBounds,run_sliceBound,e1,e2,h0,h1,h2]
theorem Zl2{t e:TypeId}{A:Option Addr}{len cap:Nat}{lo hi:Option Value}{l h:Int}(ht:P.underlying t=some (.slice e))(he:(P.info? e).isSome=true)(hlo:lo=none∧l=0∨∃k,lo=some (.int k l))(hhi:hi=none∧h=(len:Int)∨∃k,hi=some (.int k h))
  (h0:0≤l) (h1:l≤h) (h2:h≤(len:Int)) (h3:len≤cap):(Instr.sliceAt t (.slice A len cap) lo hi none).run P w=.ok (.slice (if cap=l.toNat then A else A.map (·.add (l.toNat*P.cellsOf e))) (h.toNat-l.toNat) (cap-l.toNat)) w:=by
 have e1:(h.toNat:Int)=h:=Int.toNat_of_nonneg (by omega)
 have e2:0≤h:=by omega
 have e3:h≤(cap:Int):=by omega
 rcases hlo with⟨rfl,rfl⟩|⟨k,rfl⟩<;>rcases hhi with⟨rfl,rfl⟩|⟨k',rfl⟩<;>
  simp[Instr.sliceAt,Instr.slice,run_underlying ht,Instr.sliceBounds,run_sliceBound,Zib he,e1,e2,e3,h0,h1,h2]
theorem Zp4{es:List (List D)}{A:Option Addr}{cap sz a b:Nat}(h:repD w S (.sl false sz es) (.slice A es.length cap) (λ_=>False))(h1:a≤b)(h2:b≤es.length):
  repD w S (.sl false sz ((es.drop a).take (b-a))) (.slice (if cap=a then A else A.map (·.add (a*sz))) (b-a) (cap-a)) (λ_=>False):=by
 obtain⟨A',cap',he,hcap,h⟩:=h;injection he with e1 e2 e3;subst e1 e3;have hl:((es.drop a).take (b-a)).length=b-a:=by rw[List.length_take,List.length_drop];omega
 rcases h with⟨_,rfl,rfl,hF⟩|⟨B,off,F',rfl,hr,hown⟩
 ·simp at h2;subst h2;simp at h1;subst h1;exact⟨A,0,by simp,by simp,.inl ⟨.inr rfl,by simp,rfl,λ_ h=>h⟩⟩
 ·rcases hown with⟨ho,_⟩|⟨_,_,hF',hS⟩
  ·cases ho
  ·obtain⟨G,hG,hsub⟩:=Zjx a (b-a) hr (by omega)
   have hlen:(if cap=a then(some ⟨B,off,none⟩:Option Addr)else(some (⟨B,off,none⟩:Addr)).map (·.add (a*sz)))=some ⟨B,(if cap=a then off else off+a*sz),none⟩:=by
    split<;>simp[Zbv]
   rw[hlen];refine⟨_,cap-a,by rw[hl],by rw[hl];omega,.inr ⟨B,_,λ_=>False,rfl,?_,.inr ⟨rfl,λ_ h=>h,λ_ h=>h,?_⟩⟩⟩
   ·by_cases hc:cap=a
    ·rw[if_pos hc,show b-a=0 by omega]
     exact λ_ h=>h
    ·rw[if_neg hc];exact Zjw hG (λb=>⟨λh=>hF' b (hsub b h),λh=>h.elim⟩)
   ·rcases hS with rfl|hS
    ·exact .inl (by simp)
    ·exact .inr hS
theorem Zx9{A:Option Addr}{len cap sz a b:Nat}{sub:Option (Nat×Nat)}{A':Option Addr}{n c:Nat}(hAc:A=none→cap=0)(hlc:len≤cap)(h:subHead A len cap sz sub (.slice A' n c))(h1:a≤b)(h2:b≤n)(hB:A=none∨∃B off,A=some ⟨B,off,none⟩):
  subHead A len cap sz (some (subOff sub+a,b-a)) (.slice (if c=a then A' else A'.map (·.add (a*sz))) (b-a) (c-a)):=by
 have key:∀{B off o m off' c:Nat},A=some ⟨B,off,none⟩→o+m≤len→b≤m→m≤c→(m=0∨off'=off+o*sz)→off≤off'→(off'+c*sz≤off+cap*sz∧c≤cap)→
   subHead A len cap sz (some (o+a,b-a)) (.slice (if c=a then(some ⟨B,off',none⟩:Option Addr)else(some (⟨B,off',none⟩:Addr)).map (·.add (a*sz))) (b-a) (c-a)):=by
  intro B off o m off' c hA hle hbm hmc hoff hlo hhi;refine⟨by omega,.inr ⟨B,off,if c=a then off' else off'+a*sz,c-a,hA,?_,by omega,?_,?_,?_,by omega⟩⟩
  ·by_cases hc:c=a
   ·simp[hc]
   ·simp[hc,Zbv]
  ·by_cases hc:c=a
   ·left;omega
   ·rw[if_neg hc];rcases hoff with hz|hoff
    ·left;omega
    ·right;rw[hoff,Nat.add_mul];omega
  ·by_cases hc:c=a
   ·rw[if_pos hc];exact hlo
   ·rw[if_neg hc];omega
  ·by_cases hc:c=a
   ·rw[if_pos hc,hc,Nat.sub_self,Nat.zero_mul];omega
   ·rw[if_neg hc];have:a*sz+(c-a)*sz=c*sz:=by rw[←Nat.add_mul];congr 1;omega
    omega
 have nokey:A=none→n=0→A'=none→c=0→subHead A len cap sz (some (subOff sub+a,b-a)) (.slice (if c=a then A' else A'.map (·.add (a*sz))) (b-a) (c-a)):=by
  intro hA hn hA' hc;subst hA' hc;have ha:a=0:=by omega
  have hb:b=0:=by omega
  subst ha hb;refine⟨?_,.inl ⟨hA,rfl,by simp⟩⟩
  have hcap:=hAc hA;cases sub with
  |none=>simp[subOff]
  |some on=>obtain⟨o,m⟩:=on;simp only[subOff];have:=h.1;omega
 cases sub with
 |none=>
  injection(show Value.slice A' n c=.slice A len cap from h)with e1 e2 e3;subst e1 e2 e3;rcases hB with hA|⟨B,off,hA⟩
  ·exact nokey hA (by have:=hAc hA;omega) hA (hAc hA)
  ·subst hA;exact key (o:=0) (m:=n) (off':=off) rfl (by omega) h2 hlc (.inr (by omega)) (Nat.le_refl _) ⟨Nat.le_refl _,Nat.le_refl _⟩
 |some on=>
  obtain⟨o,m⟩:=on;obtain⟨hle,h⟩:=h;rcases h with⟨hA,hm0,hv⟩|⟨B,off,off',cap',hA,hv,hmc,hoff,hlo,hhi⟩
  ·injection hv with e1 e2 e3;exact nokey hA e2 e1 e3
  ·injection hv with e1 e2 e3;subst e1 e2 e3;exact key (o:=o) (m:=n) hA hle h2 hmc hoff hlo hhi
theorem Zkl{e:TypeId}{c:C}{v:Value}{xs:List (List D)}{rs1:Look}(hm:MemRep w S (Zao M rs) L)(hc:cRep w S (Zao M rs) L c v)(hs:szFits (P.cellsOf e) c=true)(h:newPart P e rs c=some (true,xs,rs1)):
  ∃A cap vss F G L1,v=.slice A xs.length cap∧(xs=[]∨∃B off,A=some ⟨B,off,none⟩∧∀(k:Nat) (u:Value),vss.flatten[k]?=some u→w.cell? ⟨B,off+k,none⟩=some u)∧rowsDat w S (P.cellsOf e) xs vss F∧vss.flatten.length=xs.length*P.cellsOf e∧
   (∀b,F b→G b)∧Moves w S (Zao M rs) (Zao M rs1) L L1 c.roots G∧rs1.keys=rs.keys:=by
 have copy:∀{xs:List (List D)},rowsOf rs c=some xs→goodC rs c=true→(∀{B off:Nat} {F:FP},repRows w S xs B off (szOf c) F→(∀b,F b→∃r,r∈c.roots∧(Zao M rs r).live=true∧L.fp r b)→∀b,¬F b)→
   ∃A cap vss F G L1,v=.slice A xs.length cap∧(xs=[]∨∃B off,A=some ⟨B,off,none⟩∧∀(k:Nat) (u:Value),vss.flatten[k]?=some u→w.cell? ⟨B,off+k,none⟩=some u)∧rowsDat w S (P.cellsOf e) xs vss F∧vss.flatten.length=xs.length*P.cellsOf e∧
   (∀b,F b→G b)∧Moves w S (Zao M rs) (Zao M rs) L L1 c.roots G∧rs.keys=rs.keys:=by
  intro xs hr hg hF;obtain⟨A,cap,hv,hcap,hA⟩:=Zit hm hc hr hg;rcases hA with⟨rfl,rfl⟩|⟨B,off,F',rfl,hrows,hF'⟩
  ·exact⟨A,0,[],λ_=>False,λ_=>False,L,hv,.inl rfl,λ_ h=>h,by simp,λ_ h=>h,Moves.refl hm _,rfl⟩
  ·have hsz:szOf c=P.cellsOf e∨xs=[]:=by
    cases c with
    |nils n=>simp only[rowsOf,Option.some.injEq]at hr;exact .inr hr.symm
    |_=>left;simpa[szFits]using hs
   have hno:=hF hrows hF';rcases hsz with hsz|hx
   ·rw[hsz]at hrows;obtain⟨vss,k1,k2,k3⟩:=Zgr hrows;exact⟨_,cap,vss,F',λ_=>False,L,hv,.inr ⟨B,off,rfl,k2⟩,k1,k3,λb hb=>absurd hb (hno b),Moves.refl hm _,rfl⟩
   ·subst hx;exact⟨_,cap,[],λ_=>False,λ_=>False,L,hv,.inr ⟨B,off,rfl,by simp⟩,λ_ h=>h,by simp,λ_ h=>h,Moves.refl hm _,rfl⟩
 cases c with
 |view r ga gh q n sub=>
  simp only[newPart]at h;split at h
  ·split at h
   ·rename_i ys hr;simp only[Option.some.injEq,Prod.mk.injEq,Bool.and_eq_true]at h;obtain⟨⟨hg,hn⟩,rfl,rfl⟩:=h;exact copy hr hg (λ{B off F} hrows _ b hb=>by
     obtain⟨vss,k1,_,_⟩:=Zgr hrows;exact Zgq k1 hn b hb)
   ·cases h
  ·split at h
   ·rename_i b d rs2 hmv;simp only[Option.some.injEq,Prod.mk.injEq]at h;obtain⟨rfl,rfl,rfl⟩:=h;obtain⟨G,L1,hd,mv,hk⟩:=Ze2 hm hc hmv;obtain⟨es,rfl⟩:∃es,d=.sl true n es:=by
     simp only[C.move]at hmv;split at hmv
     ·split at hmv
      ·split at hmv
       ·cases hmv
       ·simp only[Option.some.injEq,Prod.mk.injEq]at hmv;exact⟨_,hmv.2.1.symm⟩
      ·simp only[Option.some.injEq,Prod.mk.injEq]at hmv;exact⟨_,hmv.2.1.symm⟩
     ·cases hmv
    have hn:n=P.cellsOf e:=by simpa[szFits,szOf]using hs
    subst hn;obtain⟨A,cap,rfl,hcap,hA⟩:=hd;rcases hA with⟨_,rfl,rfl,_⟩|⟨B,off,F',rfl,hrows,hown⟩
    ·exact⟨A,0,[],λ_=>False,G,L1,rfl,.inl rfl,λ_ h=>h,by simp[D.rows],λ_ h=>h.elim,mv,hk⟩
    ·rcases hown with⟨_,hnB,hGF,_⟩|⟨ho,_⟩
     ·obtain⟨vss,k1,k2,k3⟩:=Zgr hrows;exact⟨_,cap,vss,F',G,L1,rfl,.inr ⟨B,off,rfl,k2⟩,k1,k3,λb hb=>(hGF b).2 (.inr hb),mv,hk⟩
     ·cases ho
   ·cases h
 |d x=>
  simp only[newPart]at h;split at h
  ·rename_i ys hr;simp only[Option.some.injEq,Prod.mk.injEq,true_and]at h;obtain⟨rfl,rfl⟩:=h;exact copy hr rfl (λ{B off F} _ hF b hb=>by obtain⟨r,hr,_⟩:=hF b hb;simp[C.roots]at hr)
  ·cases h
 |nils n=>
  simp only[newPart]at h;split at h
  ·rename_i ys hr;simp only[Option.some.injEq,Prod.mk.injEq,true_and]at h;obtain⟨rfl,rfl⟩:=h;exact copy hr rfl (λ{B off F} _ hF b hb=>by obtain⟨r,hr,_⟩:=hF b hb;simp[C.roots]at hr)
  ·cases h
 |_=>simp[newPart,rowsOf]at h
theorem Zkm{e:TypeId}{c:C}{v:Value}{bs:List (List D)}{rs1:Look}(hm:MemRep w S (Zao M rs) L)(hc:cRep w S (Zao M rs) L c v)(hs:szFits (P.cellsOf e) c=true)(h:oldPart rs c=some (true,bs,rs1)):
  ∃A cap G L1,v=.slice A bs.length cap∧bs.length≤cap∧Moves w S (Zao M rs) (Zao M rs1) L L1 c.roots G∧rs1.keys=rs.keys∧
   ((A=none∧bs=[]∧cap=0)∨∃B off F',A=some ⟨B,off,none⟩∧repRows w S bs B off (P.cellsOf e) F'∧¬F' B∧(∀b,G b↔b=B∨F' b)∧ownSl w B off cap (P.cellsOf e)):=by
 cases c with
 |nils n=>
  simp only[oldPart,Option.some.injEq,Prod.mk.injEq,true_and]at h;obtain⟨rfl,rfl⟩:=h;exact⟨none,0,λ_=>False,L,hc,Nat.le_refl _,Moves.refl hm _,rfl,.inl ⟨rfl,rfl,rfl⟩⟩
 |view r ga gh q n sub=>
  simp only[oldPart]at h;split at h
  ·rename_i b d rs2 hmv;simp only[Option.some.injEq,Prod.mk.injEq]at h;obtain⟨rfl,rfl,rfl⟩:=h;obtain⟨G,L1,hd,mv,hk⟩:=Ze2 hm hc hmv;obtain⟨es,rfl⟩:∃es,d=.sl true n es:=by
    simp only[C.move]at hmv;split at hmv
    ·split at hmv
     ·split at hmv
      ·cases hmv
      ·simp only[Option.some.injEq,Prod.mk.injEq]at hmv;exact⟨_,hmv.2.1.symm⟩
     ·simp only[Option.some.injEq,Prod.mk.injEq]at hmv;exact⟨_,hmv.2.1.symm⟩
    ·cases hmv
   have hn:n=P.cellsOf e:=by simpa[szFits,szOf]using hs
   subst hn;obtain⟨A,cap,rfl,hcap,hA⟩:=hd;refine⟨A,cap,G,L1,rfl,hcap,mv,hk,?_⟩;rcases hA with⟨h1,h2,h3,_⟩|⟨B,off,F',h1,h2,h3⟩
   ·exact .inl ⟨h1.resolve_right (by simp),h2,h3⟩
   ·rcases h3 with⟨_,h4,h5,h6⟩|⟨ho,_⟩
    ·exact .inr ⟨B,off,F',h1,h2,h4,h5,h6⟩
    ·cases ho
  ·cases h
 |_=>simp[oldPart]at h
theorem Zmd{o:Oper}{t u e e':TypeId}{ty:TypeId}{s x:C}{vs vx:Value}{xs bs:List (List D)}{rs1 rs2:Look}(hm:MemRep w S M L)(hover:Zao M rs=M)(hkeys:∀r,r∈s.roots∨r∈x.roots→r∈R)(hfresh:(M nx).born=false)
  (ht:P.underlying t=some (.slice e)) (hu:P.underlying u=some (.slice e')) (hz:zeroOk P e=true) (hpos:0<P.bytesOf e) (hfx:szFits (P.cellsOf e) x=true) (hfs:szFits (P.cellsOf e) s=true)
  (hs:cRep w S M L s vs) (hx:cRep w S M L x vx) (hnew:newPart P e rs x=some (true,xs,rs1)) (hold:oldPart rs1 s=some (true,bs,rs2)) (hb:(bs.length+xs.length)*P.bytesOf e≤140737488355328)
  (hrun:∀v w',(Builtin.append_ #[t,u] ty #[vs,vx]).run P w=.ok v w'→(execOp ρ o).run P w=.ok (.value v) w') {b:Bool}:
  OpDoes P w S M L ρ o R nx ⟨b,.v false [.view nx 0 0 [] (P.cellsOf e) none],rs2,[{ box:=false,sz:=P.cellsOf e,es:=bs++xs }]⟩:=by
 obtain⟨row,hz,hrl⟩:∃row,zeroRow P e=some row∧row.length=P.cellsOf e:=by
  unfold zeroOk at hz;split at hz
  ·rename_i row h;exact⟨row,h,by simpa using hz⟩
  ·cases hz
 obtain⟨i,zv,hi,hzv,hzc⟩:=Zcu hz;have hsz:P.cellsOf e=i.size:=by simp[Program.cellsOf,hi]
 have hby:P.bytesOf e=i.bytes:=by simp[Program.bytesOf,hi]
 rw[hby]at hpos hb;obtain⟨A',c',vss,Fx,Gx,L1,rfl,hA',hdx,hlx,hFx,mvx,hk1⟩:=Zkl (by rw[hover];exact hm) (by rw[hover];exact hx) hfx hnew
 rw[hover]at mvx;obtain⟨A,cap,Gs,L2,rfl,hcap,mvs,hk2,hA⟩:=Zkm mvx.rep (Zbw (λb hb=>⟨hb,rfl⟩) mvx.keeps hs) hfs hold;obtain⟨mv,hdis⟩:=Moves.trans mvx mvs (R:=R) (λr hr=>hkeys r (.inr hr)) (λr hr=>hkeys r (.inl hr));have hxone:=Zis hdx;have hfirstx:∀w0:World,w0.heap=w.heap→(Builtin.firstCells i.size xs.length (.slice A' xs.length c')).run P w0=.ok vss.flatten.toArray w0:=λw0 h0=>
  Zl1 (by rw[hlx,hsz]) (by
   rcases hA' with h|⟨B',off',h,hc⟩
   ·exact .inl (by rw[h];rfl)
   ·refine .inr ⟨B',off',h,λk v hk=>?_⟩;have:=hc k v hk;unfold World.cell? at this⊢;rw[h0];exact this)
 have hGx:∀b,Gx b→b<w.heap.size:=λb hb=>by obtain⟨r,_,h1,h2⟩:=mvx.out b hb;exact(hm.own r h1 b h2).1
 have fin:∀{w':World} {v:Value} {hd:Value} {F:FP} {C:Nat} {B off:Nat},(Builtin.append_ #[t,u] ty #[.slice A bs.length cap,.slice A' xs.length c']).run P w=.ok v w'→v=.slice (some ⟨B,off,none⟩) (bs++xs).length C→
   Turns w w' S S M (λk=>if k=nx then { box:=false,sz:=P.cellsOf e,es:=bs++xs }else Zao M rs2 k) L ⟨λk=>if k=nx then v else L2.hd k,λk=>if k=nx then F else L2.fp k⟩ R (λk=>k=nx)→
   OpDoes P w S M L ρ o R nx ⟨b,.v false [.view nx 0 0 [] (P.cellsOf e) none],rs2,[{ box:=false,sz:=P.cellsOf e,es:=bs++xs }]⟩:=by
  intro w' v hd F C B off h1 h2 hT;refine Zew (x:={ box:=false,sz:=P.cellsOf e,es:=bs++xs }) (rs1:=rs2) rfl rfl (hrun _ _ h1) hT ?_;refine⟨by simp,⟨_,_,_,h2⟩,λ_ _=>⟨bs++xs,some ⟨B,off,none⟩,_,C,?_,h2⟩⟩
  simp only[if_true];rw[h2];exact .nil _ _
 by_cases hroom:bs.length+xs.length≤cap
 ·rcases hA with⟨rfl,rfl,rfl⟩|⟨B,off,F',rfl,hrows,hnB,hGs,⟨cs,bt,hblk,hsize⟩,hcm⟩
  ·-- nothing is appended to nothing
   have hx0:xs=[]:=List.eq_nil_of_length_eq_zero (by simpa using hroom)
   subst hx0;have hr:=Ziu (P:=P) (w:=w) (ty:=ty) (c:=c') ht hu hi (hfirstx w rfl) rfl;have hT:=Zgi (nx:=nx) (x:={ box:=false,sz:=P.cellsOf e,es:=[]++[] }) (hd:=.slice none 0 0) (F:=λ_=>False) (R:=R) hm mv (λ_ h=>h) (Below.refl 0 w) (λb _ _=>rfl) ⟨none,0,rfl,Nat.le_refl _,.inl ⟨.inl rfl,rfl,rfl,λ_ h=>h⟩⟩ rfl rfl (λb hb=>hb.elim) hfresh;refine Zew (x:={ box:=false,sz:=P.cellsOf e,es:=[]++[] }) (rs1:=rs2) rfl rfl (hrun _ _ hr) hT ?_;refine⟨by simp,⟨_,_,_,rfl⟩,λ_ _=>⟨[],none,0,0,?_,rfl⟩⟩
   simp only[if_true];exact .nil _ _
  ·-- there is room
   have hmul:(bs.length+xs.length)*i.size≤cap*i.size:=Nat.mul_le_mul_right _ hroom;rw[Nat.add_mul]at hmul;have hle:off+bs.length*i.size+vss.flatten.length≤cs.size:=by rw[hlx,hsz];rw[hsz]at hsize;omega
   have hr:=Zkt (P:=P) (w:=w) (ty:=ty) ht hu hi (hfirstx w rfl) hxone hroom hblk hle;obtain⟨hc1,hc2,hc3,cs',hc4,hc5,hc6⟩:=Ziy (o:=off+bs.length*i.size) (vs:=vss.flatten) hblk hle;generalize hw':w.setRow B (cs.toList.take (off+bs.length*i.size)++vss.flatten++cs.toList.drop (off+bs.length*i.size+vss.flatten.length)).toArray=w' at hr hc1 hc2 hc3 hc4;have hbelow:Below 0 w w':=by rw[←hw'];exact⟨rfl,rfl,rfl,by simp,λk hk=>absurd hk (Nat.not_lt_zero k)⟩
   have hGsB:Gs B:=(hGs B).2 (.inl rfl);have hSB:¬S B:=by obtain⟨r,_,h1,h2⟩:=mvs.out B hGsB;exact(mvx.rep.own r h1 B h2).2
   have hS:∀b,S b→S b∧w'.heap[b]?=w.heap[b]?:=λb hb=>⟨hb,hc3 b (λhe=>by subst he;exact hSB hb)⟩
   have hFxB:∀b,Fx b→b≠B:=λb hb he=>by subst he;exact hdis _ (hFx _ hb) hGsB
   have hold':repRows w' S bs B off (P.cellsOf e) F':=Zd9 hS hrows (λb hb=>hc3 b (λhe=>by subst he;exact hnB hb)) (λk hk=>hc2 _ (λh=>by rw[hsz]at hk;omega))
   have hnew':repRows w' S xs B (off+bs.length*P.cellsOf e) (P.cellsOf e) Fx:=Zdk hS hdx (λb hb=>hc3 b (hFxB b hb)) (λk v hk=>by rw[hsz];exact hc1 k v hk)
   have hall:repRows w' S (bs++xs) B off (P.cellsOf e) (λb=>F' b∨Fx b):=Zcc.2 ⟨F',Fx,hold',hnew',λb=>Iff.rfl,λb hb hb'=>hdis b (hFx b hb') ((hGs b).2 (.inr hb))⟩;have hT:=Zgi (nx:=nx) (x:={ box:=false,sz:=P.cellsOf e,es:=bs++xs }) (hd:=.slice (some ⟨B,off,none⟩) (bs.length+xs.length) cap) (F:=λb=>b=B∨(F' b∨Fx b)) (R:=R) hm mv (λ_ h=>h) hbelow
    (λb _ hg=>hc3 b (λhe=>by subst he;exact hg (.inr hGsB)))
    ⟨some ⟨B,off,none⟩,cap,by simp,by simpa using hroom,.inr ⟨B,off,_,rfl,hall,.inl ⟨rfl,(λh=>by rcases h with h|h;exact hnB h;exact hFxB B h rfl),λb=>Iff.rfl,⟨cs',bt,hc4,by rw[hc5];exact hsize⟩,hcm⟩⟩⟩ rfl rfl
    (λb hb=>by
     rcases hb with rfl|hb|hb
     ·exact .inl (.inr hGsB)
     ·exact .inl (.inr ((hGs b).2 (.inr hb)))
     ·exact .inl (.inl (hFx b hb))) hfresh
   exact fin (hd:=.nilFunc) (C:=cap) (B:=B) (off:=off) hr (by simp) hT
 ·-- there is none
  have holds:∃olds:List Value,(∀w0:World,w0.heap=w.heap→(Builtin.firstCells i.size bs.length (.slice A bs.length cap)).run P w0=.ok olds.toArray w0)∧olds.length=bs.length*i.size∧∃vb Fb,olds=vb.flatten∧rowsDat w S (P.cellsOf e) bs vb Fb∧∀b,Fb b→Gs b:=by
   rcases hA with⟨rfl,rfl,rfl⟩|⟨B,off,F',rfl,hrows,hnB,hGs,_⟩
   ·exact⟨[],λw0 _=>rfl,by simp,[],λ_=>False,rfl,λ_ h=>h,λ_ h=>h.elim⟩
   ·obtain⟨vb,k1,k2,k3⟩:=Zgr hrows;refine⟨vb.flatten,λw0 h0=>Zl1 (by rw[k3,hsz]) (.inr ⟨B,off,rfl,λk v hk=>?_⟩),by rw[k3,hsz],vb,F',rfl,k1,λb hb=>(hGs b).2 (.inr hb)⟩
    have:=k2 k v hk;unfold World.cell? at this⊢;rw[h0];exact this
  obtain⟨olds,hfo,hlo,vb,Fb,rfl,hdb,hFb⟩:=holds;obtain⟨C,⟨hC,hC63⟩,hr⟩:=Zja (P:=P) (w:=w) (ty:=ty) ht hu hi hzv (hfo w.drew rfl) (hfirstx w.drew rfl) (by omega) hpos hb
  have hzl:zv.cells.size=i.size:=by
   obtain⟨_,F,hd,_⟩:=Zbt (w:=w) (S:=S) (M:=M) (L:=L) hzc;have:=Za4 hd;rw[hrl,hsz]at this;simpa using this.symm
  have hdall:=Zfc hdb hdx (λb hb hb'=>hdis b (hFx b hb') (hFb b hb));have hGall:∀b,(Gx b∨Gs b)→b<w.heap.size:=λb hb=>by
   obtain⟨r,_,h1,h2⟩:=mv.out b hb;exact(hm.own r h1 b h2).1
  have hcells:∀(k:Nat) (v:Value),(vb++vss).flatten[k]?=some v→(vb.flatten.toArray++vss.flatten.toArray++Builtin.zeroCells zv.cells (C-(bs.length+xs.length)))[k]?=some v:=by
   intro k v hk;rw[List.flatten_append]at hk;rw[←Array.getElem?_toList];simp only[Array.toList_append,List.append_assoc];rw[←List.append_assoc,List.getElem?_append_left]
   ·exact hk
   ·exact(List.getElem?_eq_some_iff.1 hk).1
  have hT:=Zgi (w':=w.drew.alloc (.cells (vb.flatten.toArray++vss.flatten.toArray++Builtin.zeroCells zv.cells (C-(bs.length+xs.length))) e)) (nx:=nx) (x:={ box:=false,sz:=P.cellsOf e,es:=bs++xs })
   (hd:=.slice (some ⟨w.heap.size,0,none⟩) (bs.length+xs.length) C) (F:=λb=>b=w.heap.size∨(Fb b∨Fx b)) (R:=R) hm mv (λ_ h=>h)
   ((Below.drew (Below.refl 0 w)).trans (Zfe _ _)) (λb hb _=>Zee (w:=w.drew) _ hb) ?_ rfl rfl ?_ hfresh
  ·exact fin (hd:=.nilFunc) (C:=C) (B:=w.heap.size) (off:=0) hr (by simp) hT
  ·have hS:∀b,S b→S b∧(w.drew.alloc (.cells (vb.flatten.toArray++vss.flatten.toArray++Builtin.zeroCells zv.cells (C-(bs.length+xs.length))) e)).heap[b]?=w.heap[b]?:=λb hb=>⟨hb,Zee (w:=w.drew) _ (hm.lent b hb)⟩;have hrows:=Zdk (B:=w.heap.size) (off:=0) hS hdall (λb hb=>Zee (w:=w.drew) _ (hGall b (by rcases hb with hb|hb;exact .inr (hFb b hb);exact .inl (hFx b hb)))) (λk v hk=>by
    rw[Nat.zero_add];exact(Zgu (w:=w.drew) k).trans (hcells k v hk))
   refine⟨some ⟨w.heap.size,0,none⟩,C,by simp,by simpa using hC,.inr ⟨w.heap.size,0,_,rfl,hrows,.inl ⟨rfl,λhb=>?_,λb=>Iff.rfl,⟨_,e,heap_alloc_new w.drew _,?_⟩,hC63⟩⟩⟩
   ·rcases hb with hb|hb
    ·exact Nat.lt_irrefl _ (hGall _ (.inr (hFb _ hb)))
    ·exact Nat.lt_irrefl _ (hGall _ (.inl (hFx _ hb)))
   ·have h1:(Builtin.zeroCells zv.cells (C-(bs.length+xs.length))).size=(C-(bs.length+xs.length))*i.size:=by simp[Builtin.zeroCells,hzl]
    simp only[Array.size_append,List.size_toArray,h1,hlo,hlx,hsz];have:C*i.size=bs.length*i.size+xs.length*i.size+(C-(bs.length+xs.length))*i.size:=by rw[←Nat.add_mul,←Nat.add_mul];congr 1;omega
    omega
  ·rintro b (rfl|hb|hb)
   ·exact .inr ⟨Nat.le_refl _,by rw[Zgv];show w.heap.size<w.heap.size+1;omega⟩
   ·exact .inl (.inr (hFb b hb))
   ·exact .inl (.inl (hFx b hb))
theorem Zii{o:Oper}{vs:List TV}{e:Eff}(hm:MemRep w S M L)(hover:Zao M rs=M)(hkeys:∀r∈vs.flatMap TV.roots,r∈R)(hfresh:e.new≠[]→(M nx).born=false)
  (hv:opsRep w S M L vs ((operandsOf o.op).map ρ)) (he:opMem P nx o.op vs rs=some e) (hok:e.ok=true):OpDoes P w S M L ρ o R nx e:=by
 have hm':MemRep w S (Zao M rs) L:=by rw[hover];exact hm
 have hv':opsRep w S (Zao M rs) L vs ((operandsOf o.op).map ρ):=by rw[hover];exact hv
 have pure:∀{e':Eff},opPure P o.op vs rs=some e'→e'.ok=true→OpDoes P w S M L ρ o R nx e':=by
  intro e' he' hok';obtain⟨h1,h2,h3⟩:=Zls hm' hv' he' hok';rw[hover]at h1;exact Za6 hm hover (.inr h2) h3 h1
 obtain⟨dst,op,type,pos,after,guard⟩:=o;simp only at hv hv' he pure;unfold opMem at he;split at he
 ·rename_i t;split at he
  ·rename_i row hz;split at he
   ·rename_i hl;simp only[Option.some.injEq]at he;subst he;obtain⟨i,zv,hi,hzv,hzc⟩:=Zcu hz;obtain⟨_,F,hd,hF⟩:=Zbt (w:=w) (S:=S) (M:=M) (L:=L) hzc;have hF':F=λ_=>False:=funext λb=>propext ⟨λh=>hF b h,λh=>h.elim⟩;subst hF';refine Z0f (zv:=zv) (t:=t) hm (by rw[hover];exact Moves.refl hm R) (hfresh (List.cons_ne_nil _ _)) hd ?_
    simp[execOp,Instr.alloc,zeroValue,typeInfo,hi,hzv,newVar,Go.newRow]
   ·cases he
  ·cases he
 ·rename_i t a v;split at he
  ·rename_i b row rs1 hmv;split at he
   ·rename_i hl;simp only[Option.some.injEq]at he;subst he;simp only at hok;subst hok;obtain⟨u,hu,h1⟩:=Zax hv';simp only[operandsOf,Op.operands,List.map_cons,List.map_nil,List.cons.injEq,and_true]at hu;subst hu;obtain⟨G,L1,hd,mv,hk⟩:=Zb4 hm' (Zkb h1 hmv) hmv;rw[hover]at mv;refine Z0f (zv:=ρ a) (t:=t) hm (mv.more (λr hr=>hkeys r (by rw[Zc0]at hr;simpa using Znx v hr))) (hfresh (List.cons_ne_nil _ _)) hd ?_
    simp[execOp,Instr.box,newVar,Go.newRow]
   ·cases he
  ·cases he
 ·rename_i t a b r ga gh q n i j v;split at he
  ·rename_i b1 ds rs1 hmv;simp only at he;split at he
   ·rename_i hcond;simp only[Option.some.injEq]at he;subst he;simp only[Bool.and_eq_true]at hok;obtain⟨rfl,hp⟩:=hok;simp only[Bool.and_eq_true,decide_eq_true_eq]at hcond;obtain⟨hc1,hc2,hc3,hin,hc5⟩:=hcond;obtain⟨u,x,hu,h1,h2⟩:=Za2 hv';simp only[operandsOf,Op.operands,List.map_cons,List.map_nil,List.cons.injEq,and_true]at hu;obtain⟨rfl,rfl⟩:=hu;have hcells:=Zkb h2 hmv;obtain⟨G,L1,hd,mv,hk⟩:=Zb4 hm' hcells hmv;rw[hover]at mv;have hlive:=Zar hc1;have hov:Zao M rs1 r=rs1.get r:=Za8 hlive;have h1':cRep w S (Zao M rs1) L1 (.ptr r ga gh q n i j) (ρ a):=by
     have h1x:cRep w S M L (.ptr r ga gh q n i j) (ρ a):=by rw[hover]at h1;exact h1
     exact Zbw (λb hb=>⟨hb,rfl⟩) mv.keeps h1x
    obtain⟨es,B,off,cap,F',k1,k2,k3,k4,k5,k6,k7⟩:=Zgl mv.rep h1' (by rw[hov];exact hc1) (by rw[hov];exact hp)
    obtain⟨w',L',hrun,hT⟩:=Zmu (P:=P) (R:=R) hm mv hd (Zif hcells hmv) (by rw[hov];exact hlive) k1 k3 hc3 (hkeys r (by simp[TV.roots,C.roots]))
     (λk hk=>hkeys k (by rw[Zc0]at hk;simp only[List.flatMap_cons,List.mem_append];exact .inr (.inl (Znx v hk)))) (by rw[hov];exact Zg7 hc1) (by rw[hov];exact hc5)
    have hM:addNew (Zao M (rs1.put r { ((rs1.get r).wrote q j ds [])with es:=modAt (λrows=>rows.set i (newRow rows i j n ds)) (rs1.get r).es q })) nx []=
      (λk=>if k=r then { ((Zao M rs1 r).wrote q j ds [])with es:=modAt (λrows=>rows.set i (newRow rows i j n ds)) (Zao M rs1 r).es q }else Zao M rs1 k):=by
     rw[Zet]
     funext k
     rw[Ze5 hlive,hov]
    refine⟨.skip,undef,w',L',?_,.inr ⟨rfl,rfl⟩,trivial,?_⟩
    ·have hlen:(ρ b).cells.size=P.cellsOf t:=by
      have:=Za4 hd;rw[←hc2,this];simp
     simp only[execOp,Sem.run_bind,k6,Instr.storeAt,Instr.sureAddr,Sem.run_pure,Result.andThen_ok,storeVar,Zib hin,hlen,ne_eq,not_true,if_false];simp[hrun]
    ·simp only[hM,List.length_nil,Zjm];exact hT
   ·cases he
  ·cases he
 ·rename_i t a b k1 n k2 m;split at he
  ·rename_i e ht;split at he
   ·rename_i row hz;split at he
    ·rename_i hl;simp only[Option.some.injEq]at he;subst he;simp only[Bool.and_eq_true,decide_eq_true_eq]at hok;obtain⟨h0,h1,h2⟩:=hok;obtain⟨u,x,hu,r1,r2⟩:=Za2 hv';simp only[operandsOf,Op.operands,List.map_cons,List.map_nil,List.cons.injEq,and_true]at hu;obtain⟨rfl,rfl⟩:=hu;refine Ztr (k1:=k1) (k2:=k2) hm hover (hfresh (List.cons_ne_nil _ _)) ht hz hl.1 hl.2 h0 h1 h2 (λw' v hrun=>?_);simp only[execOp,Zdy r1,Zdy r2,Sem.run_bind,hrun,Result.andThen_ok];rfl
    ·cases he
   ·cases he
  ·cases he
 ·rename_i t len parts;split at he
  ·rename_i e ht;split at he
   ·rename_i hc;split at he
    ·rename_i b es rs1 hmv;split at he
     ·rename_i hall;simp only[Option.some.injEq]at he;subst he;simp only at hok;subst hok;have hv2:opsRep w S (Zao M rs) L vs ((parts.toList.map (·.2)).map ρ):=by simpa[operandsOf,Op.operands]using hv'
      refine Zp7 hm hover (hfresh (List.cons_ne_nil _ _)) hkeys ht hc.1 hc.2.1 hc.2.2.1 hc.2.2.2 hv2 hmv hall (λw' v hrun=>?_);simp only[execOp,Sem.run_bind,hrun,Result.andThen_ok];rfl
     ·cases he
    ·cases he
   ·cases he
  ·cases he
 ·rename_i t a lo hi str vs2;split at he
  ·rename_i ht;have key:∀{l h:Int} {lv hv2:Option Value} {x:Value},x=.string str→(lv=none∧l=0∨∃k,lv=some (.int k l))→(hv2=none∧h=(str.size:Int)∨∃k,hv2=some (.int k h))→lo.map ρ=lv→hi.map ρ=hv2→ρ a=x→boundC l h (str.size:Int)=true→
     ∃v,(execOp ρ ⟨dst,.slice t a lo hi none,type,pos,after,guard⟩).run P w=.ok (.value v) w∧tvRep w S M L (.v false [.d (.str (str.extract l.toNat h.toNat))]) v:=by
    intro l h lv hv2 x hx h1 h2 e1 e2 e3 hb;obtain⟨b0,b1,b2⟩:=Zeu hb;refine⟨_,?_,Zt6 _⟩;simp only[execOp,Sem.run_bind,e1,e2,e3,hx];rw[show(none:Option Operand).map ρ=none from rfl,Zkv ht h1 h2 b0 b1 b2];rfl
   have hfull:str.extract 0 str.size=str:=by simp
   split at he
   ·simp only[Option.some.injEq]at he;subst he;obtain⟨u,hu,h1⟩:=Zax hv;simp only[operandsOf,Op.operands,Option.toArray_none,List.append_nil,Array.append_empty,List.map_cons,List.map_nil,List.cons.injEq,and_true]at hu;subst hu;have:=key (l:=0) (h:=(str.size:Int)) (Zfd h1) (.inl ⟨rfl,rfl⟩) (.inl ⟨rfl,rfl⟩) rfl rfl rfl (by simp[boundC])
    simp only[Int.toNat_zero,Int.toNat_natCast,hfull]at this;exact Za6 hm hover (.inl rfl) rfl this
   ·rename_i x a1;obtain⟨l,hl,rfl⟩:=Option.map_eq_some_iff.1 he;obtain⟨u,v,hu,h1,h2⟩:=Za2 hv;simp[operandsOf,Op.operands]at hu;obtain⟨rfl,rfl⟩:=hu;obtain⟨k,hk⟩:=Zej h2 hl;have:=key (l:=l) (h:=(str.size:Int)) (Zfd h1) (.inr ⟨k,rfl⟩) (.inl ⟨rfl,rfl⟩) (by rw[←hk];rfl) rfl rfl hok
    simp only[Int.toNat_natCast]at this;exact Za6 hm hover (.inl rfl) rfl this
   ·rename_i x a1;obtain⟨h,hl,rfl⟩:=Option.map_eq_some_iff.1 he;obtain⟨u,v,hu,h1,h2⟩:=Za2 hv;simp[operandsOf,Op.operands]at hu;obtain⟨rfl,rfl⟩:=hu;obtain⟨k,hk⟩:=Zej h2 hl;have:=key (l:=0) (h:=h) (Zfd h1) (.inl ⟨rfl,rfl⟩) (.inr ⟨k,rfl⟩) rfl (by rw[←hk];rfl) rfl hok
    simp only[Int.toNat_zero]at this;exact Za6 hm hover (.inl rfl) rfl this
   ·rename_i x y a1 b1;split at he
    ·rename_i l h hl hh;simp only[Option.some.injEq]at he;subst he;obtain⟨u,v,z,hu,h1,h2,h3⟩:=Zeo hv;simp[operandsOf,Op.operands]at hu;obtain⟨rfl,rfl,rfl⟩:=hu;obtain⟨k,hk⟩:=Zej h2 hl;obtain⟨k',hk'⟩:=Zej h3 hh;exact Za6 hm hover (.inl rfl) rfl (key (l:=l) (h:=h) (Zfd h1) (.inr ⟨k,rfl⟩) (.inr ⟨k',rfl⟩) (by rw[←hk];rfl) (by rw[←hk'];rfl) rfl hok)
    ·cases he
   ·cases he
  ·cases he
 ·rename_i t a lo hi c vs2 hnstr;split at he
  ·rename_i e es ht hes;split at he
   ·rename_i hsz;simp only[Bool.and_eq_true]at hsz;split at he
    ·rename_i l h hbs;have hops:∃lv hv2,lo.map ρ=lv∧hi.map ρ=hv2∧(lv=none∧l=0∨∃k,lv=some (.int k l))∧(hv2=none∧h=(es.length:Int)∨∃k,hv2=some (.int k h))∧tvRep w S M L (.v false [c]) (ρ a):=by
      split at hbs
      ·rename_i x a1;obtain⟨l',hl,hx⟩:=Option.map_eq_some_iff.1 hbs;simp only[Prod.mk.injEq]at hx;obtain⟨rfl,rfl⟩:=hx;obtain⟨u,v,hu,h1,h2⟩:=Za2 hv;simp[operandsOf,Op.operands]at hu;obtain⟨rfl,rfl⟩:=hu;obtain⟨k,hk⟩:=Zej h2 hl;exact⟨_,_,rfl,rfl,.inr ⟨k,by rw[←hk];rfl⟩,.inl ⟨rfl,rfl⟩,h1⟩
      ·rename_i x a1;obtain⟨l',hl,hx⟩:=Option.map_eq_some_iff.1 hbs;simp only[Prod.mk.injEq]at hx;obtain⟨rfl,rfl⟩:=hx;obtain⟨u,v,hu,h1,h2⟩:=Za2 hv;simp[operandsOf,Op.operands]at hu;obtain⟨rfl,rfl⟩:=hu;obtain⟨k,hk⟩:=Zej h2 hl;exact⟨_,_,rfl,rfl,.inl ⟨rfl,rfl⟩,.inr ⟨k,by rw[←hk];rfl⟩,h1⟩
      ·rename_i x y a1 b1;split at hbs
       ·rename_i l' h' hl hh;simp only[Option.some.injEq,Prod.mk.injEq]at hbs;obtain⟨rfl,rfl⟩:=hbs;obtain⟨u,v,z,hu,h1,h2,h3⟩:=Zeo hv;simp[operandsOf,Op.operands]at hu;obtain⟨rfl,rfl,rfl⟩:=hu;obtain⟨k,hk⟩:=Zej h2 hl;obtain⟨k',hk'⟩:=Zej h3 hh;exact⟨_,_,rfl,rfl,.inr ⟨k,by rw[←hk];rfl⟩,.inr ⟨k',by rw[←hk'];rfl⟩,h1⟩
       ·cases hbs
      ·cases hbs
     obtain⟨lv,hv2,e1,e2,o1,o2,h1⟩:=hops;have hrun:∀{A:Option Addr} {cap:Nat},ρ a=.slice A es.length cap→es.length≤cap→boundC l h (es.length:Int)=true→(execOp ρ ⟨dst,.slice t a lo hi none,type,pos,after,guard⟩).run P w=
       .ok (.value (.slice (if cap=l.toNat then A else A.map (·.add (l.toNat*P.cellsOf e))) (h.toNat-l.toNat) (cap-l.toNat))) w:=by
      intro A cap hx hcap hb;obtain⟨b0,b1,b2⟩:=Zeu hb;simp only[execOp,Sem.run_bind,e1,e2,hx];rw[show(none:Option Operand).map ρ=none from rfl,Zl2 ht hsz.1 o1 o2 b0 b1 b2 hcap];rfl
     split at he
     ·rename_i r ga gh q n sub;simp only[Option.some.injEq]at he;subst he;simp only[Bool.and_eq_true]at hok;obtain⟨hg,hb⟩:=hok;have hn:n=P.cellsOf e:=by simpa[szFits,szOf]using hsz.2
      simp only[rowsOf]at hes;split at hes
      ·rename_i hcond;simp only[Bool.and_eq_true]at hcond;simp only[Option.some.injEq]at hes;have hl:=Zar hcond.1;have hov:Zao M rs r=rs.get r:=Za8 hl;rw[hover]at hov;obtain⟨es1,A,cap,G,k1,k2,k3,k4,k5⟩:=Zes hm h1 (by rw[hov];exact hcond.1) (by rw[hov];exact hg)
       rw[hov]at k5;rw[k5]at hes;obtain⟨A',cap',hval,hcap',hA'⟩:=Znu k2 k4;rw[hes]at hval hcap';obtain⟨b0,b1,b2⟩:=Zeu hb;refine Za6 hm hover (.inl rfl) rfl ⟨_,hrun hval hcap' hb,h1.1,⟨_,_,_,rfl⟩,λ_ _=>⟨es1,A,_,cap,k1,?_⟩⟩;rw[hval]at k4;obtain⟨A2,cap2,he2,hcap2,k2⟩:=k2;injection he2 with g1 g2 g3;subst g1 g3;have hAc:A=none∧cap=0∨∃B off,A=some ⟨B,off,none⟩:=by
        rcases k2 with⟨g1,_,g3,_⟩|⟨B,off,F',g1,_⟩
        ·exact .inl ⟨g1.resolve_right (by simp),g3⟩
        ·exact .inr ⟨B,off,g1⟩
       have:=Zx9 (a:=l.toNat) (b:=h.toNat) (λhA=>by rcases hAc with hx|⟨B,off,hx⟩;exact hx.2;rw[hA]at hx;cases hx) hcap2 k4 (by omega) (by omega) (hAc.imp (λh=>h.1) id)
       rw[←hn];have e3:(h-l).toNat=h.toNat-l.toNat:=by omega
       rw[e3];exact this
      ·cases hes
     ·rename_i n es';simp only[Option.some.injEq]at he;subst he;simp only[rowsOf,Option.some.injEq]at hes;subst hes;have hn:n=P.cellsOf e:=by simpa[szFits,szOf]using hsz.2
      obtain⟨b0,b1,b2⟩:=Zeu hok;obtain⟨hhere,hrep⟩:=h1;have hrep':=hrep;obtain⟨A,cap,hval,hcap,_⟩:=hrep';rw[hval]at hrep;refine Za6 hm hover (.inl rfl) rfl ⟨_,hrun hval hcap hok,rfl,?_⟩;have:=Zp4 (a:=l.toNat) (b:=h.toNat) hrep (by omega) (by omega)
      rw[←hn];have e3:(h-l).toNat=h.toNat-l.toNat:=by omega
      rw[e3];exact this
     ·cases he
    ·cases he
   ·cases he
  ·cases he
 ·rename_i src d a c;split at he
  ·rename_i e es hs hd hes;split at he
   ·rename_i hsz;split at he
    ·rename_i he8;simp only[Option.some.injEq]at he;subst he;simp only[Bool.and_eq_true]at hok;obtain⟨hg,hb⟩:=hok;obtain⟨u,hu,h1⟩:=Zax hv';simp only[operandsOf,Op.operands,List.map_cons,List.map_nil,List.cons.injEq,and_true]at hu;subst hu;obtain⟨A,cap,hval,hcap,hA⟩:=Zit hm' h1 hes hg;refine Za6 hm hover (.inl rfl) rfl ⟨_,?_,Zt6 _⟩;simp only[execOp,Sem.run_bind,hval];rw[run_convert_bytes_string w src d e A _ _ hs he8 hd];rcases hA with⟨rfl,rfl⟩|⟨B,off,F',rfl,hr,_⟩
     ·cases A with
      |none=>rfl
      |some a=>
       rw[List.length_nil,run_bytesToString w a 0 0 [] (run_loadCells_list (P:=P) w a [] (λj v hj=>by simp at hj))]
       rfl
     ·rw[hsz]at hr;obtain⟨ns,l1,l2,l3⟩:=Zjc hr hb;have hload:=run_loadCells_list (P:=P) w ⟨B,off,none⟩ (ns.map (Value.int .u8)) (λj v hj=>by rw[Zbv];exact l2 j v hj)
      rw[List.length_map,l1]at hload;rw[run_bytesToString w ⟨B,off,none⟩ es.length cap ns hload,l3];simp[strOf]
    ·cases he
   ·cases he
  ·exact pure he hok
 ·rename_i c;have hargs:∀us,(operandsOf (.call c)).map ρ=us→c.args.map ρ=us.toArray:=λus h=>Zsy h;split at he
  ·rename_i t str hc ht;split at he
   ·rename_i htt;simp only[Option.some.injEq]at he;subst he;obtain⟨u,hu,h1⟩:=Zax hv;obtain⟨k,hrun⟩:=Zde (P:=P) (w:=w) (ρ:=ρ) (o:=⟨dst,.call c,type,pos,after,guard⟩) rfl hc;have hat:c.argTypes=#[t]:=by apply Array.ext';simpa using ht
    refine Za6 hm hover (.inl rfl) rfl ⟨_,?_,Zfs _ _⟩;rw[hrun,hargs _ hu,hat,Zfd h1];simp[builtin,Builtin.len_,run_underlying htt,goInt]
   ·cases he
  ·rename_i t x hns hc ht;split at he
   ·rename_i e es htt hes;simp only[Option.some.injEq]at he;subst he;obtain⟨u,hu,h1⟩:=Zax hv';obtain⟨k,hrun⟩:=Zde (P:=P) (w:=w) (ρ:=ρ) (o:=⟨dst,.call c,type,pos,after,guard⟩) rfl hc;have hat:c.argTypes=#[t]:=by apply Array.ext';simpa using ht
    obtain⟨A,cap,hval,hcap,_⟩:=Zit hm' h1 hes hok;refine Za6 hm hover (.inl rfl) rfl ⟨_,?_,Zfs _ _⟩;rw[hrun,hargs _ hu,hat,hval];simp[builtin,Builtin.len_,run_underlying htt,goInt]
   ·cases he
  ·rename_i k1 x k2 y hc;simp only[Option.some.injEq]at he;subst he;obtain⟨u,v,hu,h1,h2⟩:=Za2 hv;obtain⟨k,hrun⟩:=Zde (P:=P) (w:=w) (ρ:=ρ) (o:=⟨dst,.call c,type,pos,after,guard⟩) rfl hc;refine Za6 hm hover (.inl rfl) rfl ⟨_,?_,Zfs _ _⟩;rw[hrun,hargs _ hu,Zdy h1,Zdy h2];simp[builtin,Builtin.min_,Builtin.min2]
  ·rename_i k1 x k2 y hc;simp only[Option.some.injEq]at he;subst he;obtain⟨u,v,hu,h1,h2⟩:=Za2 hv;obtain⟨k,hrun⟩:=Zde (P:=P) (w:=w) (ρ:=ρ) (o:=⟨dst,.call c,type,pos,after,guard⟩) rfl hc;refine Za6 hm hover (.inl rfl) rfl ⟨_,?_,Zfs _ _⟩;rw[hrun,hargs _ hu,Zdy h1,Zdy h2];simp[builtin,Builtin.max_,Builtin.max2]
  ·rename_i t u s x hc ht;split at he
   ·rename_i e e' h1 h2;split at he
    ·rename_i hcond;simp only[Bool.and_eq_true,decide_eq_true_eq]at hcond;split at he
     ·rename_i b1 xs rs1 hnew;split at he
      ·rename_i b2 bs rs2 hold;simp only[Option.some.injEq]at he;subst he;simp only[Bool.and_eq_true,decide_eq_true_eq]at hok;obtain⟨⟨rfl,rfl⟩,hb⟩:=hok;obtain⟨ua,ub,hu,ha,hx⟩:=Za2 hv;obtain⟨k,hrun⟩:=Zde (P:=P) (w:=w) (ρ:=ρ) (o:=⟨dst,.call c,type,pos,after,guard⟩) rfl hc;have hat:c.argTypes=#[t,u]:=by apply Array.ext';simpa using ht
       refine Zmd (ty:=type) hm hover (λr hr=>hkeys r (by simp[TV.roots];exact hr)) (hfresh (List.cons_ne_nil _ _)) h1 h2 hcond.1 hcond.2.1 hcond.2.2.1 hcond.2.2.2 ha hx hnew hold hb (λv w' hr=>?_)
       rw[hrun,hargs _ hu,hat];simp[builtin,hr]
      ·cases he
     ·cases he
    ·cases he
   ·cases he
  ·cases he
 ·exact pure he hok
end
end Go.Ev
