/- Code, given that regions and loops' heads do what the evaluator says. -/
import Derived.Test.YtihhlajibgoemaaGreatEvRet
import Derived.Test.YtihhlajibgoemaaGreatEvLoop
namespace Go.Ev
open Go.RowKit
set_option linter.unusedVariables false
set_option linter.unusedSimpArgs false
def memOf(st:St):Mem:=λr=>st.mem.getD r deadRoot
structure Rel(w0:World)(S F0:FP)(n0:Nat)(M0:Mem)(L0:Lay)(st:St)(a:Act)(w:World)(L:Lay):Prop where
 rep:MemRep w S (memOf st) L
 size:a.tmps.size=st.temps.length
 tmps:∀t,t<st.temps.length→tvRep w S (memOf st) L (st.get t) (a.tmps.getD t undef)
 defers:a.defers=[]
 since:Since w0 S F0 n0 M0 L0 w (memOf st) L
 long:n0≤st.mem.length
def exitOf:Ex→Exit
 |.normal=>.normal
 |.exit id=>.exit id
 |.ret=>.ret
section
variable {R : Type} {X : Ctx} {call : CallF} {w0 : World} {S F0 : FP} {n0 : Nat} {M0 : Mem} {L0 : Lay}
theorem Rel.put{st:St}{a:Act}{w:World}{L:Lay}(h:Rel w0 S F0 n0 M0 L0 st a w L)(dst:Option Tmp){x:TV}{v:Value}(hv:tvRep w S (memOf st) L x v):Rel w0 S F0 n0 M0 L0 (st.put dst x) (a.put dst v) w L:=by
 cases dst with
 |none=>exact h
 |some d=>
  refine⟨h.rep,by simp[Act.put,St.put,h.size],λt ht=>?_,h.defers,h.since,h.long⟩
  have ht':t<st.temps.length:=by simpa[St.put]using ht
  by_cases htd:t=d
  ·subst htd;have e1:(st.put (some t) x).get t=x:=by simp[St.put,St.get,List.getD_eq_getElem?_getD,ht']
   have e2:(a.put (some t) v).tmps.getD t undef=v:=by simp[Act.put,h.size,ht']
   rw[e1,e2];exact hv
  ·have e1:(st.put (some d) x).get t=st.get t:=by simp[St.put,St.get,List.getD_eq_getElem?_getD,List.getElem?_set_ne (Ne.symm htd)]
   have e2:(a.put (some d) v).tmps.getD t undef=a.tmps.getD t undef:=by simp[Act.put,Array.getElem?_setIfInBounds_ne (Ne.symm htd)]
   rw[e1,e2];exact h.tmps t ht'
theorem Rel.same{st:St}{a:Act}{w:World}{L:Lay}(h:Rel w0 S F0 n0 M0 L0 st a w L){t:Tmp}{x:TV}(ht:t<st.temps.length)(hv:tvRep w S (memOf st) L x (a.tmps.getD t undef)):Rel w0 S F0 n0 M0 L0 (st.put (some t) x) a w L:=by
 have:=h.put (some t) hv;have e:a.put (some t) (a.tmps.getD t undef)=a:=by
  cases a with
  |mk tmps defers=>
   simp only[Act.put]
   congr 1
   apply Array.ext';simp only[Array.toList_setIfInBounds];apply List.ext_getElem?;intro i;by_cases hi:t=i
   ·subst hi;by_cases hl:t<tmps.toList.length
    ·rw[List.getElem?_set_self hl];have hl2:t<tmps.size:=by simpa using hl
     simp[Array.getD,hl2]
    ·rw[List.set_eq_of_length_le (Nat.le_of_not_lt hl)]
   ·rw[List.getElem?_set_ne hi]
 rw[e]at this;exact this
theorem Zcv(m:Nat):∀(l:List TV) (t:Nat),(keepTemps m l t).length=l.length
 |[],_=>rfl
 |v::vs,t=>by simp[keepTemps,Zcv m vs]
theorem Zf4(m:Nat):∀(l:List TV) (t k:Nat),(keepTemps m l t).getD k .undef=.undef∨(keepTemps m l t).getD k .undef=l.getD k .undef
 |[],_,_=>.inr rfl
 |v::vs,t,0=>by
  simp only[keepTemps,List.getD_cons_zero];cases has m t
  ·exact .inl rfl
  ·exact .inr rfl
 |v::vs,t,k+1=>by
  simp only[keepTemps,List.getD_cons_succ];exact Zf4 m vs (t+1) k
theorem Rel.keep{st:St}{a:Act}{w:World}{L:Lay}(h:Rel w0 S F0 n0 M0 L0 st a w L)(m:Nat):Rel w0 S F0 n0 M0 L0 (st.keep m) a w L:=by
 refine⟨h.rep,h.size.trans (Zcv m st.temps 0).symm,λt ht=>?_,h.defers,h.since,h.long⟩;have ht':t<st.temps.length:=by rw[←Zcv m st.temps 0];exact ht
 rcases Zf4 m st.temps 0 t with e|e
 ·show tvRep w S (memOf st) L ((keepTemps m st.temps 0).getD t .undef) _;rw[e];exact trivial
 ·show tvRep w S (memOf st) L ((keepTemps m st.temps 0).getD t .undef) _;rw[e];exact h.tmps t ht'
def RegionSound(X:Ctx)(call:CallF)(R:Type)(w0:World)(S F0:FP)(n0:Nat)(M0:Mem)(L0:Lay):Prop:=
 ∀(id:Nat) (ops:Array Oper) (draw:Bool) (st:St) (K:St→Option R) (res:R) (Q:Exit→Act→World→Prop) (a:Act) (w:World) (L:Lay),
  runOps X call ops.toList ops.toList st [] (λst log=>bif !draw||drawOk ops.toList log then K st else none)=some res→Rel w0 S F0 n0 M0 L0 st a w L→
  (∀st' a' w' L',K st'=some res→Rel w0 S F0 n0 M0 L0 st' a' w' L'→st.mem.length≤st'.mem.length→Q .normal a' w')→(Code.region id ops draw).wp X.P Q a w
def HeadSound(w0:World)(S F0:FP)(n0:Nat)(M0:Mem)(L0:Lay):Prop:=
 ∀(m lv wr:Nat) (st:St) (a:Act) (w:World) (L:Lay),Rel w0 S F0 n0 M0 L0 st a w L→n0≤m→m≤st.mem.length→∃L',Rel w0 S F0 n0 M0 L0 (st.head m lv wr) a w L'∧m≤(st.head m lv wr).mem.length
theorem Zpu{R:Type}{X:Ctx}{call:CallF}{w0:World}{S F0:FP}{n0:Nat}{M0:Mem}{L0:Lay}(hreg:RegionSound X call R w0 S F0 n0 M0 L0)(hhead:HeadSound w0 S F0 n0 M0 L0)(n:Nat):
  ∀(c:Code) (L:Lv) (st:St) (K:Ex→St→Option R) (res:R) (Q:Exit→Act→World→Prop) (a:Act) (w:World) (Ly:Lay),runCode X call n c L st K=some res→Rel w0 S F0 n0 M0 L0 st a w Ly→
   (∀e st' a' w' L',K e st'=some res→Rel w0 S F0 n0 M0 L0 st' a' w' L'→st.mem.length≤st'.mem.length→Q (exitOf e) a' w')→c.wp X.P Q a w:=by
 intro c;induction c with
 |skip=>
  intro L st K res Q a w Ly h hR hK;exact wp_skip (hK .normal st a w Ly h hR (Nat.le_refl _))
 |seq x y ihx ihy=>
  intro L st K res Q a w Ly h hR hK;refine wp_seq (ihx _ st _ res _ a w Ly h hR (λe st' a' w' L' he hR' hl=>?_));cases e with
  |normal=>exact ihy _ st' K res Q a' w' L' he hR' (λe st2 a2 w2 L2 he2 hR2 hl2=>hK e st2 a2 w2 L2 he2 hR2 (Nat.le_trans hl hl2))
  |exit id=>exact hK (.exit id) st' a' w' L' he hR' hl
  |ret=>exact hK .ret st' a' w' L' he hR' hl
 |region id ops draw=>
  intro L st K res Q a w Ly h hR hK;exact hreg id ops draw st (K .normal) res Q a w Ly h hR (λst' a' w' L' he hR' hl=>hK .normal st' a' w' L' he hR' hl)
 |block id b ih=>
  intro L st K res Q a w Ly h hR hK;refine wp_block (ih _ st _ res _ a w Ly h hR (λe st' a' w' L' he hR' hl=>?_));cases e with
  |normal=>exact hK .normal st' a' w' L' he hR' hl
  |exit id'=>
   simp only[exitOf,Exit.inBlock];simp only[kBlock]at he;split
   ·rename_i hid;rw[if_pos hid]at he;exact hK .normal st' a' w' L' he hR' hl
   ·rename_i hid;rw[if_neg hid]at he;exact hK (.exit id') st' a' w' L' he hR' hl
  |ret=>exact hK .ret st' a' w' L' he hR' hl
 |exit id=>
  intro L st K res Q a w Ly h hR hK;exact wp_exit (hK (.exit id) _ a w Ly h (hR.keep _) (Nat.le_refl _))
 |ret=>
  intro L st K res Q a w Ly h hR hK;exact wp_ret (hK .ret _ a w Ly h (hR.keep _) (Nat.le_refl _))
 |loop b ih=>
  intro L st K res Q a w Ly h hR hK;simp only[runCode]at h;obtain⟨Lh,hR0,hl0⟩:=hhead st.mem.length (liveIn b { L with norm:=0 }) (writesOf b) st a w Ly hR hR.long (Nat.le_refl _);refine Zud (λk a w=>∃st1 L1,loopRun (runCode X call n b { L with norm:=liveIn b { L with norm:=0 } }) st.mem.length (liveIn b { L with norm:=0 }) (writesOf b) k st1 K=some res∧Rel w0 S F0 n0 M0 L0 st1 a w L1∧st.mem.length≤st1.mem.length) (λk a w hI=>?_) ⟨_,Lh,h,hR0,hl0⟩;obtain⟨st1,L1,h1,hR1,hl1⟩:=hI;cases k with
  |zero=>cases h1
  |succ k=>
   simp only[loopRun]at h1;refine ih _ _ _ res _ a w L1 h1 hR1 (λe st' a' w' L' he hR' hl=>?_);cases e with
   |normal=>
    obtain⟨L2,hR2,hl2⟩:=hhead st.mem.length (liveIn b { L with norm:=0 }) (writesOf b) st' a' w' L' hR' hR.long (Nat.le_trans hl1 hl);exact⟨k,Nat.lt_succ_self k,_,L2,he,hR2,hl2⟩
   |exit id=>exact hK (.exit id) st' a' w' L' he hR' (Nat.le_trans hl1 hl)
   |ret=>exact hK .ret st' a' w' L' he hR' (Nat.le_trans hl1 hl)
 |cond c x y ihx ihy=>
  intro L st K res Q a w Ly h hR hK;have go:∀(b:Bool) {st':St},(if b then runCode X call n x L st' K else runCode X call n y L st' K)=some res→Rel w0 S F0 n0 M0 L0 st' a w Ly→st'.mem=st.mem→a.eval c=.bool b→(Code.cond c x y).wp X.P Q a w:=by
   intro b st' h' hR' hm' hc;refine wp_cond hc ?_;cases b with
   |true=>exact ihx L st' K res Q a w Ly h' hR' (λe s2 a2 w2 L2 he hR2 hl=>hK e s2 a2 w2 L2 he hR2 (by rw[←hm'];exact hl))
   |false=>exact ihy L st' K res Q a w Ly h' hR' (λe s2 a2 w2 L2 he hR2 hl=>hK e s2 a2 w2 L2 he hR2 (by rw[←hm'];exact hl))
  simp only[runCode]at h;split at h
  ·rename_i t;split at h
   ·rename_i b hb;have ht:t<st.temps.length:=by
     rcases Nat.lt_or_ge t st.temps.length with hlt|hge
     ·exact hlt
     ·unfold St.get at hb;rw[List.getD_eq_getElem?_getD,List.getElem?_eq_none hge]at hb;cases hb
    have hv:=hR.tmps t ht;rw[hb]at hv;have hval:=Zdh hv;have hev:a.eval (.tmp t)=.bool b:=by rw[←hval];simp[Act.eval,Array.getD_eq_getD_getElem?]
    cases b with
    |true=>exact go true (st':=st.put (some t) (.d (.bool true))) h (hR.same ht hv) rfl hev
    |false=>exact go false (st':=st.put (some t) (.d (.bool false))) h (hR.same ht hv) rfl hev
   ·rename_i p hb;have ht:t<st.temps.length:=by
     rcases Nat.lt_or_ge t st.temps.length with hlt|hge
     ·exact hlt
     ·unfold St.get at hb;rw[List.getD_eq_getElem?_getD,List.getElem?_eq_none hge]at hb;cases hb
    have hv:=hR.tmps t ht;rw[hb]at hv;obtain⟨b,hval,hbp⟩:=hv;have hev:a.eval (.tmp t)=.bool b:=by rw[←hval];simp[Act.eval,Array.getD_eq_getD_getElem?]
    have hv2:tvRep w S (memOf st) Ly (.d (.bool b)) (a.tmps.getD t undef):=by rw[hval];exact Zea b
    cases b with
    |true=>
     rw[hbp rfl,cond_true]at h;exact go true (st':=st.put (some t) (.d (.bool true))) (Zk0 h).1 (hR.same ht hv2) rfl hev
    |false=>
     refine go false (st':=st.put (some t) (.d (.bool false))) ?_ (hR.same ht hv2) rfl hev;cases p with
     |true=>exact(Zk0 h).2
     |false=>exact h
   ·cases h
  ·rename_i b;cases b with
   |true=>exact go true h hR rfl rfl
   |false=>exact go false h hR rfl rfl
  ·cases h
 |_=>intro L st K res Q a w Ly h hR hK;simp[runCode]at h
end
end Go.Ev
