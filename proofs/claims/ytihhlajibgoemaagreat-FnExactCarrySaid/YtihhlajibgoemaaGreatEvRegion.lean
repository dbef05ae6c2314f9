/- Regions: one operation after the other. -/
import Derived.Test.YtihhlajibgoemaaGreatEvTouch
import Derived.Test.YtihhlajibgoemaaGreatEvCode
namespace Go.Ev
open Go.RowKit
set_option linter.unusedVariables false
set_option linter.unusedSimpArgs false
theorem Zf7(st:St)(vs:List TV):(st.look vs).keys=(vs.flatMap TV.roots).eraseDups:=by
 unfold St.look Look.keys;rw[List.map_map];exact List.map_id _
theorem Zf8(st:St)(vs:List TV):Zao (memOf st) (st.look vs)=memOf st:=by
 funext r
 unfold Zao St.look;cases hf:((vs.flatMap TV.roots).eraseDups.map λr=>(r,st.mem.getD r deadRoot)).find? (λx=>x.1==r)with
 |none=>rfl
 |some x=>
  have h1:=List.mem_of_find?_eq_some hf;have h2:=List.find?_some hf;obtain⟨k,_,rfl⟩:=List.mem_map.1 h1;have:k=r:=by simpa using h2
  subst this;rfl
def OpActs(P:Program)(o:Oper)(nx:Nat)(vs:List TV)(rs:Look)(R:List Nat)(e:Eff):Prop:=
 ∀(w:World) (S:FP) (M:Mem) (L:Lay) (a:Act) (next:Act→World→Prop) (Q:Exit→Act→World→Prop),MemRep w S M L→Zao M rs=M→(∀r,newOf nx e.new.length r→(M r).born=false)→opsRep w S M L vs ((operandsOf o.op).map a.eval)→
  (∀v w' L',tvRep w' S (addNew (Zao M e.upd) nx e.new) L' e.val v→Turns w w' S S M (addNew (Zao M e.upd) nx e.new) L L' R (newOf nx e.new.length)→next (a.put o.dst v) w')→o.wp P a w next Q
theorem Zs4{o:Oper}{f:FuncId}(h:calleeOf o=some f):∃args ats,o.op=.call { callee:=.value (.func f),args:=args,argTypes:=ats }:=by
 unfold calleeOf at h;split at h
 ·rename_i f' args ats ho;injection h with h;subst h;exact⟨_,_,ho⟩
 ·cases h
theorem Zms{P:Program}{o:Oper}{f:FuncId}{fn:Func}{args:Array Operand}{ats:Array TypeId}{a:Act}{w:World}(hop:o.op=.call { callee:=.value (.func f),args,argTypes:=ats })
  (hf : P.funcs[f]? = some fn) (hname : (fn.name == "runtime.NumGoroutine") = false) (hb : fn.body.isNone = false) : (execOp a.eval o).run P w = .ok (.enter f (args.map a.eval)) w := by
 have h1 : ¬ fn.name = "runtime.NumGoroutine" := by simpa using hname
 have h2:¬fn.body=none:=by cases hx:fn.body<;>simp_all
 unfold execOp;simp[hop,resolve,Deferred.ofValue,invoke,callFunc,hf,h1,h2,Act.eval]
theorem Zhn(H:Hints)(f:FuncId)(n:Nat):(H.modes f n).length=n:=by
 unfold Hints.modes;rw[List.length_take,List.length_append,List.length_replicate];omega
theorem Zvc(o:Op)(vs:List TV):∀r∈(seen o vs).flatMap TV.roots,r∈vs.flatMap TV.roots:=by
 intro r;unfold seen;split
 ·intro h;cases h
 ·exact λh=>h
theorem Zhh{P:Program}{fz:Bool}{nx:Nat}{o:Oper}{vs:List TV}{rs:Look}(h:seen o.op vs≠vs):opEff P fz nx o vs rs=opEff P fz nx o vs []:=by
 unfold seen at h;split at h
 ·rename_i hop;unfold opEff;rw[hop];rcases vs with _|⟨v,_|⟨u,vs⟩⟩
  ·rfl
  ·cases v<;>rfl
  ·simp[opMem,opPure]
 ·exact absurd rfl h
theorem Zur(P:Program)(c:Call)(vs:List TV):∀v∈appW P c vs,v∈vs:=by
 intro v;unfold appW;split
 ·split
  ·split
   ·exact λh=>List.mem_of_mem_take h
   ·exact λh=>h
  ·exact λh=>h
 ·exact λh=>h
theorem Zfu(P:Program)(o:Op)(ms:List Mode)(vs:List TV):(touchOf P o ms vs).reads=(seen o vs).flatMap TV.roots:=by
 unfold touchOf;simp only;split<;>(try rfl)
 split<;>rfl
def appendOf:Op→Option Call
 |.call c=>match c.callee with |.builtin .append=>some c|_=>none
 |_=>none
theorem Zj8{o:Op}{c:Call}(h:appendOf o=some c):o=.call c∧c.callee=.builtin .append:=by
 unfold appendOf at h;split at h
 ·split at h
  ·rename_i hc;simp only[Option.some.injEq]at h;subst h;exact⟨rfl,hc⟩
  ·cases h
 ·cases h
theorem Zl8{P:Program}{o:Op}(ms:List Mode)(vs:List TV)(h:isWriter o=true)(hn:appendOf o=none):(touchOf P o ms vs).writes=vs.flatMap TV.roots:=by
 have hs:seen o vs=vs:=by
  unfold isWriter at h;unfold seen;split
  ·cases h
  ·rfl
 unfold isWriter at h;unfold appendOf at hn;unfold touchOf;rw[hs];simp only;split<;>(try rfl)
 ·rename_i c;simp only at h hn;split at h
  ·rename_i hc;rw[hc]at hn;cases hn
  ·cases h
 ·simp only at h;cases h
theorem Zl7{P:Program}{c:Call}(ms:List Mode)(vs:List TV)(hc:c.callee=.builtin .append):(touchOf P (.call c) ms vs).writes=(appW P c vs).flatMap TV.roots:=by
 unfold touchOf;simp only;rw[hc]
theorem Zi4(P:Program)(o:Op)(ms:List Mode)(vs:List TV):∀r∈(touchOf P o ms vs).writes,r∈vs.flatMap TV.roots:=by
 intro r;unfold touchOf;simp only;split<;>(try exact Zvc _ _ r)
 ·split
  ·intro h;obtain⟨v,hv,hr⟩:=List.mem_flatMap.1 h;exact List.mem_flatMap.2 ⟨v,Zur _ _ _ v hv,hr⟩
  ·intro h;cases h
  ·intro h;obtain⟨x,hx,hr⟩:=List.mem_flatMap.1 h;split at hr
   ·exact List.mem_flatMap.2 ⟨x.2,(List.of_mem_zip hx).2,hr⟩
   ·cases hr
 ·intro h;cases h
theorem Zi9{rs:Look}{c:C}{x:Bool×List (List D)×Look}(h:oldPart rs c=some x):Others rs x.2.2 c.roots:=by
 unfold oldPart at h;split at h
 ·simp only[Option.some.injEq]at h;subst h;exact .refl _ _
 ·split at h
  ·rename_i h1;simp only[Option.some.injEq]at h;subst h;exact Zd4 h1
  ·cases h
 ·cases h
theorem Zln{P:Program}{e:TypeId}{rs:Look}{c:C}{x:Bool×List (List D)×Look}(hf:flatB P e=true)(h:newPart P e rs c=some x):x.2.2=rs:=by
 unfold newPart at h;split at h
 ·rw[if_pos hf]at h;split at h
  ·simp only[Option.some.injEq]at h;subst h;rfl
  ·cases h
 ·split at h
  ·simp only[Option.some.injEq]at h;subst h;rfl
  ·cases h
theorem Zkx{P:Program}{nx:Nat}{c:Call}{vs:List TV}{rs:Look}{e:Eff}(hc:c.callee=.builtin .append)(he:opMem P nx (.call c) vs rs=some e):appW P c vs=vs∨Others rs e.upd ((appW P c vs).flatMap TV.roots):=by
 unfold appW;split
 ·rename_i t u ht;split
  ·rename_i el hu;split
   ·rename_i hf;refine .inr ?_;unfold opMem at he;simp only[hc,ht]at he;split at he
    all_goals first
     |(cases he;done)
     |(simp only[Option.some.injEq]at he;subst he;exact Others.refl _ _)
     |(rename_i hl;cases hl;done)
     |skip
    rename_i t1 u1 s x hcc hl;simp only[List.cons.injEq]at hl;obtain⟨rfl,rfl,_⟩:=hl;split at he
    ·rename_i e1 e2 hu1 hu2;rw[hu]at hu1;simp only[Option.some.injEq,TypeDesc.slice.injEq]at hu1;subst hu1;split at he
     ·split at he
      ·rename_i b1 xs rs1 h1;split at he
       ·rename_i b2 bs rs2 h2;simp only[Option.some.injEq]at he;subst he;have e3:rs1=rs:=Zln hf h1;subst e3;exact(Zi9 h2).more (λr hr=>by
         show r∈([TV.v false [s],TV.v false [x]].take 1).flatMap TV.roots;simp only[List.take,List.flatMap_cons,List.flatMap_nil,List.append_nil,TV.roots];exact hr)
       ·cases he
      ·cases he
     ·cases he
    ·cases he
   ·exact .inl rfl
  ·exact .inl rfl
 ·exact .inl rfl
structure Covers(st:St)(sv vs:List TV)(e:Eff)(t:Touch):Prop where
 reads:∀r∈sv.flatMap TV.roots,r∈t.reads
 writes:∀r∈t.writes,r∈vs.flatMap TV.roots∨newOf st.mem.length e.new.length r
 new:∀r,newOf st.mem.length e.new.length r→r∈t.writes
 still:∀M,Zao M (st.look sv)=M→∀r,r∉t.writes→Zao M e.upd r=M r
 keys:e.upd=[]∨e.upd.keys=(st.look vs).keys
section
variable {R : Type} {X : Ctx} {call : CallF}
theorem Zfi{st:St}{sv vs:List TV}{e:Eff}{t:Touch}(h1:t.reads=sv.flatMap TV.roots)(h2:∀r∈t.writes,r∈vs.flatMap TV.roots)(h3:∀M,Zao M (st.look sv)=M→∀r,r∉t.writes→Zao M e.upd r=M r)
  (h4:e.upd=[]∨e.upd.keys=(st.look vs).keys):Covers st sv vs e (t.more st.mem.length e.new.length):=by
 refine⟨λr hr=>by show r∈t.reads;rw[h1];exact hr,λr hr=>?_,λr hr=>?_,λM hM r hr=>h3 M hM r (λh=>hr (List.mem_append_left _ h)),h4⟩
 ·rcases List.mem_append.1 hr with hr|hr
  ·exact .inl (h2 r hr)
  ·rw[List.mem_range'_1]at hr;exact .inr hr
 ·refine List.mem_append_right _ ?_;rw[List.mem_range'_1];exact hr
theorem Zg8(hs:Sound X.P X.H call){o:Oper}{st:St}{log:List Touch}{K:St→List Touch→Option R}{res:R}(h:opRun X call o st log K=some res):
  ∃e t,K (applyEff st o.dst e) (log++[t])=some res∧OpActs X.P o st.mem.length ((operandsOf o.op).map st.operand) (st.look (seen o.op ((operandsOf o.op).map st.operand))) (((operandsOf o.op).map st.operand).flatMap TV.roots) e∧Covers st (seen o.op ((operandsOf o.op).map st.operand)) ((operandsOf o.op).map st.operand) e t:=by
 unfold opRun at h;simp only at h;split at h
 ·rename_i f hcal;split at h
  ·rename_i fn hf;split at h
   ·cases h
   ·rename_i hap;split at h
    ·rename_i b0 rows rs1 hargs;cases b0 with
     |false=>simp only[cond_false]at h;cases h
     |true=>
      simp only[cond_true]at h;cases hc:call f rows with
      |none=>rw[hc]at h;cases h
      |some r=>
       obtain⟨pre,out,back⟩:=r;rw[hc]at h;simp only[Option.bind_some]at h;cases pre with
       |false=>simp only[cond_false]at h;cases h
       |true=>
       simp only[cond_true]at h;split at h
       ·rename_i b rs2 hback;split at h
        case h_2=>cases h
        rename_i b3 rs3 hseat;have hmm:(((X.H.modes f fn.params.size).zip fn.params.toList).map (·.1))=X.H.modes f fn.params.size:=List.map_fst_zip (by rw[Zhn];simp)
        cases hcond:(((resVals X.P (!X.H.resRo f) fn.resultTypes.toList out st.mem.length).1&&(b&&cleanOut ((X.H.modes f fn.params.size).zip ((operandsOf o.op).map st.operand)) out back))&&(b3&&((mutCells (((X.H.modes f fn.params.size).zip fn.params.toList).map (·.1)) (X.H.muts f) ((operandsOf o.op).map st.operand)).all (okMut (st.look ((operandsOf o.op).map st.operand)))&&(mutCells (((X.H.modes f fn.params.size).zip fn.params.toList).map (·.1)) (X.H.muts f) ((operandsOf o.op).map st.operand)).all (nestLive rs2))))with
        |false=>rw[hcond]at h;cases h
        |true=>
         rw[hcond]at h;simp only[cond_true]at h;simp only[Bool.and_eq_true]at hcond;obtain⟨⟨hres,rfl,hclean⟩,rfl,hokm,hnest⟩:=hcond;obtain⟨args,ats,hop⟩:=Zs4 hcal;have hse:∀l,seen o.op l=l:=λl=>by rw[hop];rfl
         simp only[hse];have hml:(X.H.modes f fn.params.size).length=fn.params.toList.length:=by rw[Zhn];simp
         have hpm:plainModes ((X.H.modes f fn.params.size).zip fn.params.toList) ((operandsOf o.op).map st.operand)=(X.H.modes f fn.params.size).zip ((operandsOf o.op).map st.operand):=by
          unfold plainModes;rw[List.map_fst_zip (by omega)]
         have o1:=Ze6 hargs;have o2:=Zb7 hback;have o4:=Zec hseat;have o3:Others (st.look ((operandsOf o.op).map st.operand)) rs3 (exRoots ((X.H.modes f fn.params.size).zip ((operandsOf o.op).map st.operand))):=by
          rw[hpm]at o1 o2;refine Others.trans (Others.trans o1 o2 (λr hr=>hr) (λr hr=>hr)) o4 (λr hr=>hr) (λr hr=>?_);rw[←hpm];exact Zxu (Zgg r hr)
         refine⟨_,_,h,?_,Zfi ((Zfu _ _ _ _).trans (by rw[hse])) (Zi4 _ _ _ _) (λM hM r hr=>?_) (.inr o3.1)⟩
         ·intro w S M L a next Q hm hover hfresh hv hnext
          obtain⟨hn,hb,hcl⟩:=Zpt (P:=X.P) (H:=X.H) (w:=w) (S:=S) (own:=!X.H.resRo f) (nx:=st.mem.length) hs hf rfl hm hover (λr hr=>by rw[Zf7];exact Zcp.2 hr) (λr hr=>by rw[Zf7]at hr;exact Zcp.1 hr) (λr hr=>hr) hfresh hv
           (by rw[hpm];simpa using hap) hargs hc hback hseat hokm hnest hres (by rw[hpm];exact hclean)
          unfold Oper.wp;have hvs:((operandsOf o.op).map a.eval).toArray=args.map a.eval:=by
           rw[hop];apply Array.ext';simp[operandsOf]
          rw[Zms hop hf hn hb,Oper.upon_enter,←hvs];refine hcl.mono (λen w' he=>?_);cases en with
          |returned v=>
           obtain⟨L',h1,h2⟩:=he;exact hnext v w' L' h1 h2
          |_=>exact he.elim
         ·have hr':r∉exRoots ((X.H.modes f fn.params.size).zip ((operandsOf o.op).map st.operand)):=λhin=>hr (by rw[hop];rw[hop]at hin;exact hin)
          show Zao M rs3 r=M r;rw[o3.2 M r hr',hM]
       ·cases h
    ·cases h
  ·cases h
 ·rename_i hcal;have main:(match opEff X.P ((X.H.muts X.fn).any id) st.mem.length o ((operandsOf o.op).map st.operand) (st.look ((operandsOf o.op).map st.operand))with
    |some e=>bif e.ok then K (applyEff st o.dst e) (log++[(touchOf X.P o.op [] ((operandsOf o.op).map st.operand)).more st.mem.length e.new.length])else none
    |none=>none)=some res→
    ∃e t,K (applyEff st o.dst e) (log++[t])=some res∧OpActs X.P o st.mem.length ((operandsOf o.op).map st.operand) (st.look (seen o.op ((operandsOf o.op).map st.operand))) (((operandsOf o.op).map st.operand).flatMap TV.roots) e∧Covers st (seen o.op ((operandsOf o.op).map st.operand)) ((operandsOf o.op).map st.operand) e t:=by
   intro h;split at h
   ·rename_i e he;cases hok:e.ok with
    |false=>rw[hok]at h;cases h
    |true=>
     rw[hok]at h;simp only[cond_true]at h;obtain⟨u1,u2⟩:=Zlq he;refine⟨e,_,h,?_,Zfi (Zfu _ _ _ _) (Zi4 _ _ _ _) (λM hM r hr=>?_) u1⟩
     ·intro w S M L a next Q hm hover hfresh hv hnext
      obtain⟨rs0,hover,he⟩:∃rs0,Zao M rs0=M∧opEff X.P ((X.H.muts X.fn).any id) st.mem.length o ((operandsOf o.op).map st.operand) rs0=some e:=by
       by_cases hse:seen o.op ((operandsOf o.op).map st.operand)=(operandsOf o.op).map st.operand
       ·rw[hse]at hover;exact⟨_,hover,he⟩
       ·exact⟨[],rfl,by rw[←Zhh hse];exact he⟩
      obtain⟨n,v,w',L',h1,h2,h3,h4⟩:=Zmn (P:=X.P) (ρ:=a.eval) (R:=((operandsOf o.op).map st.operand).flatMap TV.roots) hm hover (λr hr=>hr) (λhne=>hfresh _ ⟨Nat.le_refl _,by have:=List.length_pos_iff.2 hne;omega⟩) hv he hok
      unfold Oper.wp;rw[h1];rcases h2 with rfl|⟨rfl,rfl⟩
      ·exact hnext v w' L' h3 h4
      ·exact hnext _ w' L' h3 h4
     ·cases hw:isWriter o.op with
      |true=>
       have all:r∉((operandsOf o.op).map st.operand).flatMap TV.roots→Zao M e.upd r=M r:=by
        intro hr;rcases u1 with u1|u1
        ·rw[u1];rfl
        ·refine Ze4 (λhin=>hr ?_);rw[u1,Zf7]at hin;exact Zcp.1 hin
       cases hap:appendOf o.op with
       |none=>
        rw[Zl8 _ _ hw hap]at hr;exact all hr
       |some c=>
        obtain⟨ho,hc⟩:=Zj8 hap;have hr2:r∉(appW X.P c ((operandsOf o.op).map st.operand)).flatMap TV.roots:=by
         rw[←Zl7 (P:=X.P) [] ((operandsOf o.op).map st.operand) hc,←ho];exact hr
        have he3:opMem X.P st.mem.length (.call c) ((operandsOf o.op).map st.operand) (st.look ((operandsOf o.op).map st.operand))=some e:=by
         have he2:=he;unfold opEff at he2;rw[ho]at he2⊢;exact he2
        rcases Zkx hc he3 with h5|h5
        ·rw[h5]at hr2;exact all hr2
        ·have hM2:Zao M (st.look ((operandsOf o.op).map st.operand))=M:=by
          have hs:seen o.op ((operandsOf o.op).map st.operand)=(operandsOf o.op).map st.operand:=by rw[ho];rfl
          rw[hs]at hM;exact hM
         rw[h5.2 M r hr2,hM2]
      |false=>
       by_cases hse:seen o.op ((operandsOf o.op).map st.operand)=(operandsOf o.op).map st.operand
       ·rw[hse]at hM;rcases u2 hw with u2|u2
        ·rw[u2,hM]
        ·rw[u2];rfl
       ·have he2:=he;rw[Zhh hse]at he2;obtain⟨_,u3⟩:=Zlq he2;rcases u3 hw with u3|u3<;>(rw[u3];rfl)
   ·cases h
  split at h
  ·rename_i own e2 he2;cases own with
   |true=>exact main h
   |false=>
    simp only[cond_false]at h;cases hok:e2.ok with
    |false=>rw[hok]at h;cases h
    |true=>
     rw[hok]at h;simp only[cond_true]at h;obtain⟨hup,hne,hse⟩:=Zu6 he2;refine⟨e2,_,h,?_,Zfi (Zfu _ _ _ _) (Zi4 _ _ _ _) (λM hM r hr=>by rw[hup];rfl) (.inl hup)⟩
     intro w S M L a next Q hm hover hfresh hv hnext
     rw[hse]at hover;obtain⟨_,_,n,v,w',L',h1,h2,h3,h4⟩:=Zp3 (ρ:=a.eval) (R:=((operandsOf o.op).map st.operand).flatMap TV.roots) (nx:=st.mem.length) hm hover hv he2 hok;unfold Oper.wp;rw[h1];rcases h2 with rfl|⟨rfl,rfl⟩
     ·exact hnext v w' L' h3 h4
     ·exact hnext _ w' L' h3 h4
  ·exact main h
theorem Zbc{mem:List Root}:∀{upd:Look},(upd.foldr (λx m=>m.set x.1 x.2) mem).length=mem.length
 |[]=>rfl
 |x::upd=>by rw[List.foldr_cons,List.length_set];exact Zbc
theorem Zh6{mem:List Root}{r:Nat}(h:r<mem.length):∀{upd:Look},(upd.foldr (λx m=>m.set x.1 x.2) mem).getD r deadRoot=Zao (λr=>mem.getD r deadRoot) upd r
 |[]=>rfl
 |x::upd=>by
  rw[List.foldr_cons];unfold Zao;rw[List.find?_cons];by_cases hx:x.1=r
  ·subst hx;simp only[beq_self_eq_true];rw[Zat _ _ _ _ (by rw[Zbc];exact h)]
  ·have:(x.1==r)=false:=by simpa using hx
   rw[this,Zbf _ _ _ (λhe=>hx he.symm)];exact Zh6 h
theorem Ztu{T:List TV}{mem:List Root}{upd:Look}{new:List Root}(h:∀r,mem.length≤r→¬newOf mem.length new.length r→Zao (λr=>mem.getD r deadRoot) upd r=deadRoot):
  memOf ⟨T,upd.foldr (λx m=>m.set x.1 x.2) mem++new⟩=addNew (Zao (λr=>mem.getD r deadRoot) upd) mem.length new:=by
 funext r
 unfold memOf addNew;simp only;by_cases h1:r<mem.length
 ·rw[if_neg (by omega),←Zh6 h1,List.getD_eq_getElem?_getD,List.getD_eq_getElem?_getD,List.getElem?_append_left (by rw[Zbc];exact h1)]
 ·rw[List.getD_eq_getElem?_getD,List.getElem?_append_right (by rw[Zbc];omega),Zbc]
  by_cases h2:mem.length≤r∧r<mem.length+new.length
  ·rw[if_pos h2,List.getD_eq_getElem?_getD]
  ·rw[if_neg h2,h r (by omega) h2,List.getElem?_eq_none (by omega)]
   rfl
theorem Zik{w0:World}{S F0:FP}{n0:Nat}{M0:Mem}{L0:Lay}{st:St}{a:Act}{w:World}{L:Lay}(h:Rel w0 S F0 n0 M0 L0 st a w L)(x:Operand):tvRep w S (memOf st) L (st.operand x) (a.eval x):=by
 cases x with
 |tmp t=>
  show tvRep w S (memOf st) L (st.get t) (a.tmps.getD t undef);by_cases ht:t<st.temps.length
  ·exact h.tmps t ht
  ·unfold St.get;rw[List.getD_eq_getElem?_getD,List.getElem?_eq_none (Nat.le_of_not_lt ht)];trivial
 |const v=>
  show cRep w S (memOf st) L (ofValue 0 v) v;unfold ofValue;split
  ·exact⟨rfl,rfl,λ_ h=>h⟩
  ·exact⟨rfl,rfl,λ_ h=>h⟩
  ·exact⟨rfl,rfl,λ_ h=>h⟩
  ·rfl
  ·trivial
 |_=>trivial
theorem Zhp{w0:World}{S F0:FP}{n0:Nat}{M0:Mem}{L0:Lay}{st:St}{a:Act}{w:World}{L:Lay}(h:Rel w0 S F0 n0 M0 L0 st a w L):∀xs:List Operand,opsRep w S (memOf st) L (xs.map st.operand) (xs.map a.eval)
 |[]=>trivial
 |x::xs=>⟨Zik h x,Zhp h xs⟩
theorem Zbz(st:St){r:Nat}(h:st.mem.length≤r):memOf st r=deadRoot:=by
 unfold memOf;rw[List.getD_eq_getElem?_getD,List.getElem?_eq_none h];rfl
section
variable {w0 : World} {S F0 : FP} {n0 : Nat} {M0 : Mem} {L0 : Lay}
theorem Rel.act{st:St}{a:Act}{w w':World}{L L':Lay}{dst:Option Tmp}{e:Eff}{v:Value}{vs:List TV}{us:List Value}(h:Rel w0 S F0 n0 M0 L0 st a w L)(hv:opsRep w S (memOf st) L vs us)
  (hx:tvRep w' S (addNew (Zao (memOf st) e.upd) st.mem.length e.new) L' e.val v) (t:Turns w w' S S (memOf st) (addNew (Zao (memOf st) e.upd) st.mem.length e.new) L L' (vs.flatMap TV.roots) (newOf st.mem.length e.new.length)):
  Rel w0 S F0 n0 M0 L0 (applyEff st dst e) (a.put dst v) w' L':=by
 have hmem:memOf ⟨st.temps,e.upd.foldr (λx m=>m.set x.1 x.2) st.mem++e.new⟩=addNew (Zao (memOf st) e.upd) st.mem.length e.new:=by
  refine Ztu (λr hr hn=>?_);have hnR:r∉vs.flatMap TV.roots:=λhin=>by
   have:=Zgj hv r hin;rw[Zbz st hr]at this;cases this
  have h1:=(t.same r hnR hn).1;rw[Zbz st hr,Zbq hn]at h1;exact h1
 have h2:Rel w0 S F0 n0 M0 L0 ⟨st.temps,e.upd.foldr (λx m=>m.set x.1 x.2) st.mem++e.new⟩ a w' L':=by
  refine⟨by rw[hmem];exact t.rep,h.size,λk hk=>?_,h.defers,?_,?_⟩
  ·rw[hmem];exact Zcg (λc u hc=>t.cRep h.rep (λr hr=>by rw[Zbz st hr.1];rfl) hc) (t.f (λr hr=>by rw[Zbz st hr.1];rfl)) (h.tmps k hk)
  ·rw[hmem];exact h.since.step t (λr hr=>Nat.le_trans h.long hr.1)
  ·simp only[List.length_append,Zbc];exact Nat.le_trans h.long (Nat.le_add_right _ _)
 have h3:=h2.put dst (x:=e.val) (v:=v) (by rw[hmem];exact hx)
 have h4:applyEff st dst e=(⟨st.temps,e.upd.foldr (λx m=>m.set x.1 x.2) st.mem++e.new⟩:St).put dst e.val:=by cases dst<;>rfl
 rw[h4];exact h3
theorem Zhe(st:St)(dst:Option Tmp)(e:Eff):st.mem.length≤(applyEff st dst e).mem.length:=by
 unfold applyEff;simp only[List.length_append,Zbc];omega
theorem Zmr(st:St)(dst:Option Tmp)(v:TV):(st.put dst v).mem=st.mem:=by cases dst<;>rfl
theorem Zvp{st:St}{t:Tmp}{b:Bool}(h:st.get t=.v false [.d (.bool b)]):t<st.temps.length:=by
 rcases Nat.lt_or_ge t st.temps.length with hlt|hge
 ·exact hlt
 ·unfold St.get at h;rw[List.getD_eq_getElem?_getD,List.getElem?_eq_none hge]at h;cases h
theorem Zmo(hs:Sound X.P X.H call){o:Oper}{st:St}{log:List Touch}{K:St→List Touch→Option R}{res:R}{a:Act}{w:World}{L:Lay}{Q:Exit→Act→World→Prop}{next:Act→World→Prop}(h:opRun X call o st log K=some res)
  (hR:Rel w0 S F0 n0 M0 L0 st a w L) (hn:∀st' log' a' w' L',K st' log'=some res→Rel w0 S F0 n0 M0 L0 st' a' w' L'→st.mem.length≤st'.mem.length→next a' w'):o.wp X.P a w next Q:=by
 obtain⟨e,t,h1,h2,_⟩:=Zg8 hs h;have hv:=Zhp hR (operandsOf o.op);exact h2 w S (memOf st) L a next Q hR.rep (Zf8 st _) (λr hr=>by rw[Zbz st hr.1];rfl) hv (λv w' L' hx ht=>hn _ _ _ _ L' h1 (hR.act hv hx ht) (Zhe _ _ _))
theorem Ztf{st:St}{t:Tmp}(h:st.get t=.gone):t<st.temps.length:=by
 rcases Nat.lt_or_ge t st.temps.length with hlt|hge
 ·exact hlt
 ·unfold St.get at h;rw[List.getD_eq_getElem?_getD,List.getElem?_eq_none hge]at h;cases h
theorem Zmg{st:St}{a:Act}{w:World}{L:Lay}(h:Rel w0 S F0 n0 M0 L0 st a w L){ops:Array Oper}{g:Nat}{t:Tmp}(hdst:(ops.toList[g]?).bind (·.dst)=some t)(hd:st.get t=.gone):yielded ops a.tmps g=none:=by
 have ht:=Ztf hd;have hv:=h.tmps t ht;rw[hd]at hv;have hval:a.tmps.getD t undef=undef:=hv;unfold yielded;have e1:(ops[g]?).bind (·.dst)=some t:=by rw[←hdst];simp
 rw[e1];simp only[Option.bind_some];have hlt:t<a.tmps.size:=by rw[h.size];exact ht
 have:a.tmps[t]?=some undef:=by
  rw[←hval];simp[Array.getD,hlt]
 rw[this];rfl
theorem Zeq(hs:Sound X.P X.H call){ops:Array Oper}{K:St→List Touch→Option R}{res:R}{Q:Exit→Act→World→Prop}:∀(rest:List Oper) (k:Nat) (st:St) (log:List Touch) (a:Act) (w:World) (L:Lay),
  (∀i,rest[i]?=ops[k+i]?)→runOps X call ops.toList rest st log K=some res→Rel w0 S F0 n0 M0 L0 st a w L→
  (∀st' log' a' w' L',K st' log'=some res→Rel w0 S F0 n0 M0 L0 st' a' w' L'→st.mem.length≤st'.mem.length→Q .normal a' w')→wpOps X.P ops Q (List.range' k rest.length) a w
 |[],k,st,log,a,w,L,_,h,hR,hK=>hK st log a w L h hR (Nat.le_refl _)
 |o::rest,k,st,log,a,w,L,hop,h,hR,hK=>by
  have ho:ops[k]?=some o:=by have:=hop 0;simpa using this.symm
  have hrest:∀i,rest[i]?=ops[k+1+i]?:=λi=>by
   have:=hop (i+1);rw[List.getElem?_cons_succ]at this;rw[this,show k+(i+1)=k+1+i by omega]
  rw[List.length_cons,List.range'_succ,wpOps_cons];unfold wpOp;rw[ho];simp only;have step:∀st1:St,opRun X call o st1 log (λst log=>runOps X call ops.toList rest st log K)=some res→Rel w0 S F0 n0 M0 L0 st1 a w L→st1.mem=st.mem→o.wp X.P a w (wpOps X.P ops Q (List.range' (k+1) rest.length)) Q:=by
   intro st1 h1 hR1 hmem;refine Zmo hs h1 hR1 (λst' log' a' w' L' h2 hR2 hl=>?_);exact Zeq hs rest (k+1) st' log' a' w' L' hrest h2 hR2 (λst2 log2 a2 w2 L2 h3 hR3 hl3=>hK st2 log2 a2 w2 L2 h3 hR3 (by rw[hmem]at hl;omega))
  have skip:∀st1:St,runOps X call ops.toList rest (st1.put o.dst .gone) (log++[⟨[],[]⟩]) K=some res→Rel w0 S F0 n0 M0 L0 st1 a w L→st1.mem=st.mem→wpOps X.P ops Q (List.range' (k+1) rest.length) (a.put o.dst undef) w:=by
   intro st1 h1 hR1 hmem;refine Zeq hs rest (k+1) _ _ _ _ L hrest h1 (hR1.put o.dst (x:=.gone) (v:=undef) rfl) (λst2 log2 a2 w2 L2 h3 hR3 hl3=>hK st2 log2 a2 w2 L2 h3 hR3 (by rw[Zmr,hmem]at hl3;exact hl3))
  simp only[runOps]at h;split at h
  ·rename_i hg;have hw:Region.wanted o (yielded ops a.tmps)=true:=by unfold Region.wanted;rw[hg]
   rw[if_pos hw];exact .inl (step st h hR rfl)
  ·rename_i g want hg;split at h
   ·rename_i b hd;cases hdst:(ops.toList[g]?).bind (·.dst)with
    |none=>rw[hdst]at hd;cases hd
    |some t=>
     rw[hdst]at hd h;simp only[Option.map_some,Option.some.injEq]at hd;have ht:=Zvp hd;have hv:=hR.tmps t ht;rw[hd]at hv;have hval:a.tmps.getD t undef=.bool b:=hv.2.1;have hy:yielded ops a.tmps g=some b:=by
      unfold yielded;have e1:(ops[g]?).bind (·.dst)=some t:=by rw[←hdst];simp
      rw[e1];simp only[Option.bind_some];have hlt:t<a.tmps.size:=by rw[hR.size];exact ht
      have:a.tmps[t]?=some (.bool b):=by
       rw[←hval];simp[Array.getD,hlt]
      rw[this]
     have hw:Region.wanted o (yielded ops a.tmps)=(b==want):=by
      unfold Region.wanted;rw[hg];simp only;rw[hy];cases b<;>cases want<;>rfl
     rw[hw];have hRb:Rel w0 S F0 n0 M0 L0 (st.put (some t) (.d (.bool b))) a w L:=hR.same ht hv;cases b with
     |true=>
      cases want with
      |true=>exact .inl (step _ h hRb rfl)
      |false=>exact skip _ h hRb rfl
     |false=>
      cases want with
      |true=>exact skip _ h hRb rfl
      |false=>exact .inl (step _ h hRb rfl)
   ·rename_i hd;cases hdst:(ops.toList[g]?).bind (·.dst)with
    |none=>rw[hdst]at hd;cases hd
    |some t=>
     rw[hdst]at hd;simp only[Option.map_some,Option.some.injEq]at hd;have hw:Region.wanted o (yielded ops a.tmps)=false:=by
      unfold Region.wanted;rw[hg];simp only;rw[Zmg hR hdst hd];rfl
     rw[hw];exact skip st h hR rfl
   ·cases h
end
end
end Go.Ev
