/- Which roots an operation turns: told without a machine. -/
import Derived.Test.YtihhlajibgoemaaGreatEvCall
namespace Go.Ev
open Go.RowKit
set_option linter.unusedVariables false
set_option linter.unusedSimpArgs false
theorem Zmp{M:Mem}{rs:Look}{r k:Nat}{x:Root}(h:k≠r):Zao M (rs.put r x) k=Zao M rs k:=by
 unfold Zao;rw[Zkd];cases hf:rs.find? (λy=>y.1==k)with
 |some y=>simp[h]
 |none=>rfl
def Others(rs rs':Look)(R:List Nat):Prop:=rs'.keys=rs.keys∧∀(M:Mem) r,r∉R→Zao M rs' r=Zao M rs r
theorem Others.refl(rs:Look)(R:List Nat):Others rs rs R:=⟨rfl,λ_ _ _=>rfl⟩
theorem Others.trans{rs rs1 rs2:Look}{R R1 R2:List Nat}(a:Others rs rs1 R1)(b:Others rs1 rs2 R2)(h1:∀r∈R1,r∈R)(h2:∀r∈R2,r∈R):Others rs rs2 R:=
 ⟨b.1.trans a.1,λM r hr=>(b.2 M r (λh=>hr (h2 r h))).trans (a.2 M r (λh=>hr (h1 r h)))⟩
theorem Others.put(rs:Look)(r:Nat)(x:Root):Others rs (rs.put r x) [r]:=⟨Zd8 _ _ _,λM k hk=>Zmp (λh=>hk (by simp[h]))⟩
theorem Others.more{rs rs':Look}{R R':List Nat}(a:Others rs rs' R)(h:∀r∈R,r∈R'):Others rs rs' R':=⟨a.1,λM r hr=>a.2 M r (λhx=>hr (h r hx))⟩
theorem Others.keys{rs rs':Look}{R:List Nat}(a:Others rs rs' R){M:Mem}{r:Nat}(hr:r∉rs.keys):Zao M rs' r=M r:=Ze4 (by rw[a.1];exact hr)
theorem Zd4{rs:Look}{c:C}{b:Bool}{d:D}{rs':Look}(h:c.move rs=some (b,d,rs')):Others rs rs' c.roots:=by
 cases c with
 |d x=>simp only[C.move,Option.some.injEq,Prod.mk.injEq]at h;obtain⟨_,_,rfl⟩:=h;exact .refl _ _
 |nils n=>simp only[C.move,Option.some.injEq,Prod.mk.injEq]at h;obtain⟨_,_,rfl⟩:=h;exact .refl _ _
 |view r ga gh q n sub=>
  simp only[C.move]at h;split at h
  ·split at h
   ·split at h
    ·cases h
    ·simp only[Option.some.injEq,Prod.mk.injEq]at h;obtain⟨_,_,rfl⟩:=h;exact .put _ _ _
   ·simp only[Option.some.injEq,Prod.mk.injEq]at h;obtain⟨_,_,rfl⟩:=h;exact .put _ _ _
  ·cases h
 |_=>cases h
theorem Zca:∀{cs:List C} {rs:Look} {x:Bool×List D×Look},moveAll cs rs=some x→Others rs x.2.2 (cs.flatMap C.roots)
 |[],rs,x,h=>by simp only[moveAll,Option.some.injEq]at h;subst h;exact .refl _ _
 |c::cs,rs,x,h=>by
  simp only[moveAll]at h;split at h
  ·rename_i b d rs1 h1;split at h
   ·rename_i b' ds rs2 h2;simp only[Option.some.injEq]at h;subst h;have o2:=Zca h2;refine(Zd4 h1).trans o2 (λr hr=>?_) (λr hr=>?_)
    ·rw[List.flatMap_cons];exact List.mem_append_left _ hr
    ·rw[List.flatMap_cons];exact List.mem_append_right _ hr
   ·cases h
  ·cases h
theorem Zge{ls:List Leaf}:∀{vs:List TV} {rs:Look} {x:Bool×List (List D)×Look},moveRows ls vs rs=some x→x.2.2.keys=rs.keys
 |[],rs,x,h=>by simp only[moveRows,Option.some.injEq]at h;subst h;rfl
 |v::vs,rs,x,h=>by
  simp only[moveRows]at h;split at h
  ·rename_i b d rs1 h1;split at h
   ·rename_i b' ds rs2 h2;simp only[Option.some.injEq]at h;subst h;exact(Zge h2).trans (Zca h1).1
   ·cases h
  ·cases h
theorem Zlo{P:Program}{e:TypeId}{rs:Look}{c:C}{x:Bool×List (List D)×Look}(h:newPart P e rs c=some x):x.2.2.keys=rs.keys:=by
 unfold newPart at h;split at h
 ·split at h
  ·split at h
   ·simp only[Option.some.injEq]at h;subst h;rfl
   ·cases h
  ·split at h
   ·rename_i h1;simp only[Option.some.injEq]at h;subst h;exact(Zd4 h1).1
   ·cases h
 ·split at h
  ·simp only[Option.some.injEq]at h;subst h;rfl
  ·cases h
theorem Zlp{rs:Look}{c:C}{x:Bool×List (List D)×Look}(h:oldPart rs c=some x):x.2.2.keys=rs.keys:=by
 unfold oldPart at h;split at h
 ·simp only[Option.some.injEq]at h;subst h;rfl
 ·split at h
  ·rename_i h1;simp only[Option.some.injEq]at h;subst h;exact(Zd4 h1).1
  ·cases h
 ·cases h
def isWriter:Op→Bool
 |.store ..=>true
 |.box ..=>true
 |.buildSlice ..=>true
 |.call c=>match c.callee with |.builtin .append=>true|_=>false
 |_=>false
theorem Zjo{P:Program}{o:Op}{vs:List TV}{rs:Look}{e:Eff}(he:opPure P o vs rs=some e):e.upd=[]:=by
 have key:∀{b:Bool} {v:TV},pureEff b v=some e→e.upd=[]:=by
  intro b v h;simp only[pureEff,Option.some.injEq]at h;subst h;rfl
 have key2:∀{x:Option (Bool×C)},(x.map λr=>(⟨r.1,.v false [r.2],[],[]⟩:Eff))=some e→e.upd=[]:=by
  intro x h;cases x with
  |none=>cases h
  |some y=>simp only[Option.map_some,Option.some.injEq]at h;subst h;rfl
 unfold opPure at he;split at he<;>(try simp only at he)<;>(repeat' split at he)<;>first|exact key he|exact key2 he|cases he
theorem Zlr{P:Program}{nx:Nat}{o:Op}{vs:List TV}{rs:Look}{e:Eff}(he:opMem P nx o vs rs=some e):(e.upd=[]∨e.upd.keys=rs.keys)∧(isWriter o=false→e.upd=rs∨e.upd=[]):=by
 have pure:∀{o:Op} {vs:List TV},opPure P o vs rs=some e→(e.upd=[]∨e.upd.keys=rs.keys)∧(isWriter o=false→e.upd=rs∨e.upd=[]):=λh=>⟨.inl (Zjo h),λ_=>.inr (Zjo h)⟩;have same:∀{b:Bool} {v:TV} {new:List Root} {w:Bool},some (⟨b,v,rs,new⟩:Eff)=some e→(e.upd=[]∨e.upd.keys=rs.keys)∧(w=false→e.upd=rs∨e.upd=[]):=by
  intro b v new w h;simp only[Option.some.injEq]at h;subst h;exact⟨.inr rfl,λ_=>.inl rfl⟩
 have wr:∀{b:Bool} {v:TV} {new:List Root} {rs':Look},some (⟨b,v,rs',new⟩:Eff)=some e→rs'.keys=rs.keys→(e.upd=[]∨e.upd.keys=rs.keys)∧(true=false→e.upd=rs∨e.upd=[]):=by
  intro b v new rs' h hk;simp only[Option.some.injEq]at h;subst h;exact⟨.inr hk,λh=>by cases h⟩
 unfold opMem at he;split at he
 ·-- alloc
  split at he
  ·split at he
   ·exact same he
   ·cases he
  ·cases he
 ·-- box
  split at he
  ·rename_i h1;split at he
   ·exact wr he (Zca h1).1
   ·cases he
  ·cases he
 ·-- store
  split at he
  ·rename_i h1;simp only at he;split at he
   ·exact wr he ((Zd8 _ _ _).trans (Zca h1).1)
   ·cases he
  ·cases he
 ·-- makeSlice
  split at he
  ·split at he
   ·split at he
    ·exact same he
    ·cases he
   ·cases he
  ·cases he
 ·-- buildSlice
  split at he
  ·split at he
   ·split at he
    ·rename_i h1;split at he
     ·exact wr he (Zge h1)
     ·cases he
    ·cases he
   ·cases he
  ·cases he
 ·-- slice of a string
  split at he
  ·split at he
   ·exact same he
   ·rename_i a;cases h1:ixOf a with
    |none=>rw[h1]at he;cases he
    |some y=>rw[h1]at he;exact same he
   ·rename_i a;cases h1:ixOf a with
    |none=>rw[h1]at he;cases he
    |some y=>rw[h1]at he;exact same he
   ·split at he
    ·exact same he
    ·cases he
   ·cases he
  ·cases he
 ·-- slice
  split at he
  ·split at he
   ·split at he
    ·split at he
     ·exact same he
     ·exact same he
     ·cases he
    ·cases he
   ·cases he
  ·cases he
 ·-- convert
  split at he
  ·split at he
   ·split at he
    ·exact same he
    ·cases he
   ·cases he
  ·exact pure he
 ·-- call
  rename_i cc;split at he
  ·split at he
   ·exact same he
   ·cases he
  ·split at he
   ·exact same he
   ·cases he
  ·exact same he
  ·exact same he
  ·rename_i hcal _;have hwr:isWriter (.call cc)=true:=by unfold isWriter;simp only;rw[hcal]
   rw[hwr];split at he
   ·split at he
    ·split at he
     ·rename_i h1;split at he
      ·rename_i h2;exact wr he ((Zlp h2).trans (Zlo h1))
      ·cases he
     ·cases he
    ·cases he
   ·cases he
  ·cases he
 ·exact pure he
theorem Zlq{fz:Bool}{P:Program}{nx:Nat}{o:Oper}{vs:List TV}{rs:Look}{e:Eff}(he:opEff P fz nx o vs rs=some e):(e.upd=[]∨e.upd.keys=rs.keys)∧(isWriter o.op=false→e.upd=rs∨e.upd=[]):=by
 unfold opEff at he;split at he
 ·simp only[Option.some.injEq]at he;subst he;exact⟨.inr rfl,λ_=>.inl rfl⟩
 ·simp only[Option.some.injEq]at he;subst he;exact⟨.inr rfl,λ_=>.inl rfl⟩
 ·rename_i t x v ho;cases fz with
  |false=>
   simp only[]at he;have:=Zlr he;rw[ho];exact this
  |true=>
   simp only[boxCp]at he;split at he
   ·split at he
    ·simp only[Option.some.injEq]at he;subst he;exact⟨.inr rfl,λ_=>.inl rfl⟩
    ·cases he
   ·cases he
 ·exact Zlr he
theorem Zj9{P:Program}{rs:Look}{t:TypeId}{m:Mode}{v:TV}{x:Bool×Row×Look}(h:argRow P rs t m v=some x):Others rs x.2.2 (if m.excl then v.roots else[]):=by
 unfold argRow at h;split at h
 ·split at h
  ·split at h
   ·simp only[Option.some.injEq]at h;subst h;exact .refl _ _
   ·cases h
  ·cases h
 ·split at h
  ·have:=Zca h;rw[Zc0]at this;exact this
  ·cases h
 ·simp only[Option.some.injEq]at h;subst h;exact .refl _ _
 ·simp only at h;split at h
  ·simp only[Option.some.injEq]at h;subst h;exact .refl _ _
  ·cases h
 ·simp only at h;split at h
  ·simp only[Option.some.injEq]at h;subst h;exact .refl _ _
  ·cases h
 ·cases h
theorem Ze6{P:Program}:∀{mts:List (Mode×TypeId)} {tvs:List TV} {rs:Look} {x:Bool×List Row×Look},argRows P mts tvs rs=some x→Others rs x.2.2 (exRoots (plainModes mts tvs))
 |[],[],rs,x,h=>by simp only[argRows,Option.some.injEq]at h;subst h;exact .refl _ _
 |(m,t)::ms,v::vs,rs,x,h=>by
  simp only[argRows]at h;split at h
  ·rename_i h1;split at h
   ·rename_i h2;simp only[Option.some.injEq]at h;subst h;have o1:=Zj9 h1;have o2:=Ze6 h2;refine Others.trans o1 o2 (λr hr=>?_) (λr hr=>?_)
    ·show r∈exRoots ((m,v)::plainModes ms vs);unfold exRoots;rw[List.flatMap_cons];exact List.mem_append_left _ hr
    ·show r∈exRoots ((m,v)::plainModes ms vs);unfold exRoots at hr ⊢;rw[List.flatMap_cons];exact List.mem_append_right _ hr
   ·cases h
  ·cases h
 |[],_::_,_,_,h=>by cases h
 |_::_,[],_,_,h=>by cases h
theorem Zec:∀{cs:List C} {ds:List D} {rs:Look} {x:Bool×Look},reseatCells cs ds rs=some x→Others rs x.2 (cs.flatMap C.roots)
 |[],[],rs,x,h=>by simp only[reseatCells,Option.some.injEq]at h;subst h;exact .refl _ _
 |c::cs,d::ds,rs,x,h=>by
  have up:∀{rs1:Look} {r:Nat} {y:Root},r∈c.roots→Others rs rs1 (cs.flatMap C.roots)→Others rs (rs1.put r y) ((c::cs).flatMap C.roots):=λhr o=>
   Others.trans o (Others.put _ _ _) (λr hr=>by rw[List.flatMap_cons];exact List.mem_append_right _ hr) (λk hk=>by
    rw[List.flatMap_cons];refine List.mem_append_left _ ?_;rcases List.mem_singleton.1 hk with rfl;exact hr)
  have skip:reseatCells cs ds rs=some x→Others rs x.2 ((c::cs).flatMap C.roots):=λh=>(Zec h).more (λr hr=>by rw[List.flatMap_cons];exact List.mem_append_right _ hr)
  cases c with
  |d _=>exact skip h
  |nils _=>exact skip h
  |view r ga gh q n sub=>
   match q,d,h with
   |[],.sl o m es,h=>
    simp only[reseatCells]at h;split at h
    ·rename_i h1;simp only[Option.some.injEq]at h;subst h;exact up (by simp[C.roots]) (Zec h1)
    ·cases h
   |(i,j)::_,.sl o m es,h=>
    simp only[reseatCells]at h;split at h
    ·rename_i h1;simp only[Option.some.injEq]at h;subst h;exact up (by simp[C.roots]) (Zec h1)
    ·cases h
  |_=>cases h
 |[],_::_,_,_,h=>by simp[reseatCells]at h
 |c::_,[],_,_,h=>by cases c<;>simp[reseatCells]at h
theorem Zxu{ms:List (Mode×TypeId)}{tvs:List TV}{r:Nat}(h:r∈giveRoots ms tvs):r∈exRoots (plainModes ms tvs):=by
 unfold giveRoots at h;obtain⟨y,hy,hyr⟩:=List.mem_flatMap.1 h;unfold exRoots;refine List.mem_flatMap.2 ⟨_,Zgt hy,?_⟩;split at hyr
 ·rename_i hg;simp[hg,Mode.excl,hyr]
 ·cases hyr
theorem Zb7{P:Program}:∀{mts:List (Mode×TypeId)} {tvs:List TV} {outs:List Row} {rs:Look} {x:Bool×Look},backAll P mts tvs outs rs=some x→Others rs x.2 (exRoots (plainModes mts tvs))
 |[],[],outs,rs,x,h=>by simp only[backAll,Option.some.injEq]at h;subst h;exact .refl _ _
 |(.inout o p,t)::ms,v::vs,outs,rs,x,h=>by
  unfold backAll at h;split at h
  ·rename_i h1 h2;cases h1
  ·rename_i h1 h2;injection h1 with h1 h3;injection h2 with h2 h4;subst h2 h3 h4;simp only at h;split at h
   ·rename_i h5;simp only[Option.some.injEq]at h;subst h;have o2:=Zb7 h5;refine Others.trans (Others.put _ _ _) o2 (λr hr=>?_) (λr hr=>?_)
    ·show r∈exRoots ((_,_)::plainModes ms vs);unfold exRoots;rw[List.flatMap_cons];refine List.mem_append_left _ ?_;simpa[Mode.excl,TV.roots,C.roots]using hr
    ·show r∈exRoots ((_,_)::plainModes ms vs);unfold exRoots at hr ⊢;rw[List.flatMap_cons];exact List.mem_append_right _ hr
   ·cases h
  ·cases h
  ·rename_i hx h1 h2;injection h1 with h1 _;exact(hx _ _ _ h1.symm).elim
  ·cases h
 |(.lend,t)::ms,v::vs,outs,rs,x,h=>by
  have h':backAll P ms vs outs rs=some x:=h;refine(Zb7 h').more (λr hr=>?_);show r∈exRoots ((_,_)::plainModes ms vs);unfold exRoots at hr ⊢;rw[List.flatMap_cons];exact List.mem_append_right _ hr
 |(.give,t)::ms,v::vs,outs,rs,x,h=>by
  have h':backAll P ms vs outs rs=some x:=h;refine(Zb7 h').more (λr hr=>?_);show r∈exRoots ((_,_)::plainModes ms vs);unfold exRoots at hr ⊢;rw[List.flatMap_cons];exact List.mem_append_right _ hr
 |(.ro,t)::ms,v::vs,outs,rs,x,h=>by
  have h':backAll P ms vs outs rs=some x:=h;refine(Zb7 h').more (λr hr=>?_);show r∈exRoots ((_,_)::plainModes ms vs);unfold exRoots at hr ⊢;rw[List.flatMap_cons];exact List.mem_append_right _ hr
 |[],_::_,_,_,_,h=>by cases h
 |(m,_)::_,[],_,_,_,h=>by cases m<;>cases h
end Go.Ev
