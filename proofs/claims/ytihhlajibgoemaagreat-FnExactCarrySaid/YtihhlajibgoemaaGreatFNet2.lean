/- Contracts of functions, each by its evaluation. -/
import Derived.Test.YtihhlajibgoemaaGreatEvMd
import Derived.Test.YtihhlajibgoemaaGreatProg
import Derived.KernelRfl
import Derived.Test.YtihhlajibgoemaaGreatFNet
set_option linter.unusedVariables false
set_option linter.unusedSimpArgs false
set_option maxRecDepth 100000
noncomputable section
open List (getD length drop take set append replicate all isEmpty)
open Int (toNat ofNat)
open Go.IntKind (i64 wrap)
open Go.Proofs.Tryz (prog f90 func90)
namespace Go.Ev
open Go.RowKit Go.Md
end Go.Ev
namespace Go.Md
open Go Go.Ev
def prtS(ls:List Link)(i:Int):Int→List Port→Bool
 |_,[]=>true
 |k,p::ps=>onceL i k ls 0==bitI p.Up 1&&prtS ls i (k+1) ps
def brS(ls:List Link):Int→List Bridge→List Bridge→Bool
 |_,_,[]=>true
 |i,u,b::bs=>bridgeOk b&&(!u.any (λo=>o.Id==b.Id)&&(prtS ls i 0 b.Ports&&brS ls (i+1) (u++[b]) bs))
def lnOk(n:Net)(l:Link):Bool:=!(l.A==l.B)&&((isEndB n (endA l)&&upAt n l.A l.P)&&(isEndB n (endB l)&&upAt n l.B l.Q))
def netOkS(n:Net):Bool:=inR (n.Bridges.length:Int) 1 5&&(decide (n.Links.length≤6)&&(brS n.Links 0 [] n.Bridges&&n.Links.all (lnOk n)))
theorem Zb5{a b:TEnd}:sameE a b=true↔a=b:=by
 unfold sameE;simp only[Bool.and_eq_true,beq_iff_eq];obtain⟨a1,a2⟩:=a;obtain⟨b1,b2⟩:=b;simp only[TEnd.mk.injEq]
def cntE(e:TEnd)(l:List TEnd):Nat:=l.countP (sameE e)
theorem Znl(a p:Int):∀(ls:List Link) (k:Int),onceL a p ls k=k+(cntE ⟨a,p⟩ (endsL ls):Int)
 |[],k=>by simp[onceL,endsL,cntE]
 |l::ls,k=>by
  simp only[onceL];rw[Znl a p ls];have hb:∀x y:Int,bitE (x==a&&y==p)=((if sameE ⟨a,p⟩ ⟨x,y⟩then 1 else 0:Nat):Int):=by
   intro x y;unfold sameE bitE;have h1:(x==a)=(a==x):=BEq.comm;have h2:(y==p)=(p==y):=BEq.comm;rw[h1,h2];cases (a==x&&p==y)<;>rfl
  have hc:cntE ⟨a,p⟩ (endsL (l::ls))=(if sameE ⟨a,p⟩ (endA l)then 1 else 0)+((if sameE ⟨a,p⟩ (endB l)then 1 else 0)+cntE ⟨a,p⟩ (endsL ls)):=by
   have:endsL (l::ls)=endA l::endB l::endsL ls:=rfl;rw[this];unfold cntE;rw[List.countP_cons,List.countP_cons];omega
  rw[hc,hb,hb];unfold endA endB;omega
theorem Zm1(e:TEnd)(l:List TEnd):contE l e=decide (0<cntE e l):=by
 unfold contE cntE;rw[Bool.eq_iff_iff,List.any_eq_true,decide_eq_true_eq,List.countP_pos_iff]
def distE:List TEnd→Prop:=List.Pairwise (λa b=>a≠b)
theorem Zut{l:List TEnd}(h:distE l)(e:TEnd):cntE e l≤1:=by
 induction l with
 |nil=>simp[cntE]
 |cons x xs ih=>
  obtain⟨h1,h2⟩:=List.pairwise_cons.1 h;have:=ih h2;unfold cntE at this⊢;rw[List.countP_cons];by_cases hx:sameE e x=true
  ·have he:=Zb5.1 hx;subst he;have:xs.countP (sameE e)=0:=by
    rw[List.countP_eq_zero];intro y hy h3;exact h1 y hy (Zb5.1 h3)
   rw[this];simp[hx]
  ·simp[hx];exact this
theorem Zuu{l:List TEnd}(h:∀e∈l,cntE e l≤1):distE l:=by
 induction l with
 |nil=>exact List.Pairwise.nil
 |cons x xs ih=>
  refine List.pairwise_cons.2 ⟨λy hy hxy=>?_,ih (λe he=>?_)⟩
  ·subst hxy;have:=h x (List.mem_cons_self ..);unfold cntE at this;rw[List.countP_cons]at this;have h2:0<xs.countP (sameE x):=List.countP_pos_iff.2 ⟨x,hy,Zb5.2 rfl⟩;rw[if_pos (Zb5.2 rfl)]at this;omega
  ·have:=h e (List.mem_cons_of_mem _ he);unfold cntE at this⊢;rw[List.countP_cons]at this;omega
theorem Zuc(u:List TEnd)(i:Int):∀(ps:List Port) (k:Int),upP u i k ps=true↔∀j (h:j<ps.length),ps[j].Up=contE u ⟨i,k+(j:Int)⟩
 |[],k=>by simp[upP]
 |p::ps,k=>by
  rw[Zn0,Bool.and_eq_true,Zuc u i ps (k+1),beq_iff_eq];constructor
  ·rintro⟨h1,h2⟩ j hj;cases j with
   |zero=>simpa using h1
   |succ j=>
    have:=h2 j (by simpa using hj)
    rw[show k+1+(j:Int)=k+((j+1:Nat):Int) by omega]at this
    simpa using this
  ·intro h;refine⟨by have:=h 0 (by simp);rw[show k+((0:Nat):Int)=k by omega]at this;exact this,λj hj=>?_⟩
   have:=h (j+1) (by simpa using hj)
   rw[show k+((j+1:Nat):Int)=k+1+(j:Int) by omega]at this
   simpa using this
theorem Zt5(ls:List Link)(i:Int):∀(ps:List Port) (k:Int),prtS ls i k ps=true↔∀j (h:j<ps.length),(cntE ⟨i,k+(j:Int)⟩ (endsL ls):Int)=bitI ps[j].Up 1
 |[],k=>by simp[prtS]
 |p::ps,k=>by
  simp only[prtS];rw[Bool.and_eq_true,Zt5 ls i ps (k+1),beq_iff_eq,Znl];constructor
  ·rintro⟨h1,h2⟩ j hj;cases j with
   |zero=>simpa using h1
   |succ j=>
    have:=h2 j (by simpa using hj)
    rw[show k+1+(j:Int)=k+((j+1:Nat):Int) by omega]at this
    simpa using this
  ·intro h;refine⟨by have:=h 0 (by simp);rw[show k+((0:Nat):Int)=k by omega]at this;rw[Int.zero_add];exact this,λj hj=>?_⟩
   have:=h (j+1) (by simpa using hj)
   rw[show k+((j+1:Nat):Int)=k+1+(j:Int) by omega]at this
   simpa using this
def prtB(ls:List Link):Int→List Bridge→Bool
 |_,[]=>true
 |i,b::bs=>prtS ls i 0 b.Ports&&prtB ls (i+1) bs
theorem Zvo(ls:List Link):∀(bs:List Bridge) (i:Int) (u:List Bridge),brS ls i u bs=(idsB u bs&&prtB ls i bs)
 |[],i,u=>by simp[brS,idsB,prtB]
 |b::bs,i,u=>by
  simp only[brS,prtB];rw[Zke,Zvo ls bs];cases bridgeOk b<;>cases (u.any λo=>o.Id==b.Id)<;>cases prtS ls i 0 b.Ports<;>simp
theorem Zno(ls:List Link):∀(bs:List Bridge) (i:Int),prtB ls i bs=true↔∀a (ha:a<bs.length) j (hj:j<bs[a].Ports.length),(cntE ⟨i+(a:Int),(j:Int)⟩ (endsL ls):Int)=bitI bs[a].Ports[j].Up 1
 |[],i=>by simp[prtB]
 |b::bs,i=>by
  simp only[prtB];rw[Bool.and_eq_true,Zno ls bs (i+1),Zt5];constructor
  ·rintro⟨h1,h2⟩ a ha j hj;cases a with
   |zero=>
    have:=h1 j hj;rw[Int.zero_add]at this;rw[show i+((0:Nat):Int)=i by omega]
    exact this
   |succ a=>
    have:=h2 a (by simpa using ha) j hj
    rw[show i+1+(a:Int)=i+((a+1:Nat):Int) by omega]at this
    exact this
  ·intro h;refine⟨λj hj=>?_,λa ha j hj=>?_⟩
   ·have:=h 0 (by simp) j hj
    rw[show i+((0:Nat):Int)=i by omega]at this
    rw[Int.zero_add];exact this
   ·have:=h (a+1) (by simpa using ha) j hj
    rw[show i+((a+1:Nat):Int)=i+1+(a:Int) by omega]at this
    exact this
theorem Zub(u:List TEnd):∀(bs:List Bridge) (i:Int),upB u i bs=true↔∀a (ha:a<bs.length) j (hj:j<bs[a].Ports.length),bs[a].Ports[j].Up=contE u ⟨i+(a:Int),(j:Int)⟩
 |[],i=>by simp[upB]
 |b::bs,i=>by
  rw[Znz,Bool.and_eq_true,Zub u bs (i+1),Zuc];constructor
  ·rintro⟨h1,h2⟩ a ha j hj;cases a with
   |zero=>
    have:=h1 j hj;rw[Int.zero_add]at this;rw[show i+((0:Nat):Int)=i by omega]
    exact this
   |succ a=>
    have:=h2 a (by simpa using ha) j hj
    rw[show i+1+(a:Int)=i+((a+1:Nat):Int) by omega]at this
    exact this
  ·intro h;refine⟨λj hj=>?_,λa ha j hj=>?_⟩
   ·have:=h 0 (by simp) j hj
    rw[show i+((0:Nat):Int)=i by omega]at this
    rw[Int.zero_add];exact this
   ·have:=h (a+1) (by simpa using ha) j hj
    rw[show i+((a+1:Nat):Int)=i+1+(a:Int) by omega]at this
    exact this
theorem Zdu{n:Net}{e:TEnd}(h:isEndB n e=true):∃(a:Nat) (ha:a<n.Bridges.length) (j:Nat) (_:j<n.Bridges[a].Ports.length),e=⟨(a:Int),(j:Int)⟩:=by
 unfold isEndB at h;rw[Bool.and_eq_true]at h;obtain⟨h1,h2⟩:=h;have b1:=Zih h1;obtain⟨a,ha⟩:=Int.eq_ofNat_of_zero_le b1.1;have ha2:a<n.Bridges.length:=by omega
 rw[ha,Zdc n a ha2]at h2;have b2:=Zih h2;obtain⟨j,hj⟩:=Int.eq_ofNat_of_zero_le b2.1;refine⟨a,ha2,j,by omega,?_⟩
 obtain⟨x,y⟩:=e;simp only at ha hj;rw[ha,hj]
theorem Zvg(n:Net)(a j:Nat)(ha:a<n.Bridges.length)(hj:j<n.Bridges[a].Ports.length):upAt n (a:Int) (j:Int)=n.Bridges[a].Ports[j].Up:=by
 unfold upAt;rw[Zdc n a ha,Int.toNat_natCast];simp[hj]
theorem Zg3(n:Net):∀(ls:List Link) (u:List TEnd),linksL n u ls=true↔(∀l∈ls,l.A≠l.B∧isEndB n (endA l)=true∧isEndB n (endB l)=true)∧(∀e∈endsL ls,contE u e=false)∧distE (endsL ls)
 |[],u=>by simp[linksL,endsL,distE]
 |l::ls,u=>by
  have he:endsL (l::ls)=endA l::endB l::endsL ls:=rfl;have hc:∀e,contE (u++[endA l,endB l]) e=(contE u e||(sameE e (endA l)||sameE e (endB l))):=by
   intro e;unfold contE;simp[List.any_append]
  rw[Zjl,he];simp only[Bool.and_eq_true,Bool.not_eq_true',Zg3 n ls,hc,Bool.or_eq_false_iff,beq_eq_false_iff_ne,ne_eq];constructor
  ·rintro⟨h1,h2,h3,h4,h5,h6,h7,h8⟩;refine⟨λx hx=>?_,λe hx=>?_,?_⟩
   ·rcases List.mem_cons.1 hx with rfl|hx
    ·exact⟨h1,h2,h3⟩
    ·exact h6 x hx
   ·rcases List.mem_cons.1 hx with rfl|hx
    ·exact h4
    ·rcases List.mem_cons.1 hx with rfl|hx
     ·exact h5
     ·exact(h7 e hx).1
   ·refine List.pairwise_cons.2 ⟨λy hy=>?_,List.pairwise_cons.2 ⟨λy hy=>?_,h8⟩⟩
    ·rcases List.mem_cons.1 hy with rfl|hy
     ·intro h;exact h1 (congrArg TEnd.bridge h)
     ·intro h;have:=(h7 y hy).2.1;rw[←h,Zb5.2 rfl]at this;cases this
    ·intro h;have:=(h7 y hy).2.2;rw[←h,Zb5.2 rfl]at this;cases this
  ·rintro⟨h1,h2,h3⟩;obtain⟨p1,p2⟩:=List.pairwise_cons.1 h3;obtain⟨p3,p4⟩:=List.pairwise_cons.1 p2;obtain⟨q1,q2,q3⟩:=h1 l (List.mem_cons_self ..);refine⟨q1,q2,q3,h2 _ (List.mem_cons_self ..),h2 _ (List.mem_cons_of_mem _ (List.mem_cons_self ..)),λx hx=>h1 x (List.mem_cons_of_mem _ hx),λe hx=>⟨h2 e (List.mem_cons_of_mem _ (List.mem_cons_of_mem _ hx)),?_,?_⟩,p4⟩
   ·cases hs:sameE e (endA l)
    ·rfl
    ·exact absurd (Zb5.1 hs).symm (p1 e (List.mem_cons_of_mem _ hx))
   ·cases hs:sameE e (endB l)
    ·rfl
    ·exact absurd (Zb5.1 hs).symm (p3 e hx)
theorem Zkh{e:TEnd}{ls:List Link}:e∈endsL ls↔∃l∈ls,e=endA l∨e=endB l:=by
 unfold endsL;simp[List.mem_flatMap]
theorem Zs1{c:Bool}{k:Nat}(h:(k:Int)=bitI c 1):k≤1∧c=decide (0<k):=by
 unfold bitI at h;cases c
 ·simp only[cond_false]at h;have:k=0:=by omega
  subst this;exact⟨by omega,rfl⟩
 ·simp only[cond_true]at h;have:k=1:=by omega
  subst this;exact⟨by omega,rfl⟩
theorem Zu0(n:Net):(linksL n [] n.Links&&upB (endsL n.Links) 0 n.Bridges)=(prtB n.Links 0 n.Bridges&&n.Links.all (lnOk n)):=by
 rw[Bool.eq_iff_iff,Bool.and_eq_true,Bool.and_eq_true,Zg3,Zub,Zno,List.all_eq_true];constructor
 ·rintro⟨⟨h1,h2,h3⟩,h4⟩;refine⟨λa ha j hj=>?_,λl hl=>?_⟩
  ·have h5:=h4 a ha j hj;have h6:=Zut h3 ⟨0+(a:Int),(j:Int)⟩;rw[Zm1]at h5;rw[h5];generalize cntE ⟨0+(a:Int),(j:Int)⟩ (endsL n.Links)=k at h6⊢;have:k=0∨k=1:=by omega
   rcases this with rfl|rfl<;>rfl
  ·obtain⟨q1,q2,q3⟩:=h1 l hl;have up:∀e:TEnd,isEndB n e=true→e∈endsL n.Links→upAt n e.bridge e.port=true:=by
    intro e he hm;obtain⟨a,ha,j,hj,rfl⟩:=Zdu he;show upAt n (a:Int) (j:Int)=true;rw[Zvg n a j ha hj,h4 a ha j hj,Int.zero_add];unfold contE;exact List.any_eq_true.2 ⟨_,hm,Zb5.2 rfl⟩
   have u1:=up _ q2 (Zkh.2 ⟨l,hl,.inl rfl⟩);have u2:=up _ q3 (Zkh.2 ⟨l,hl,.inr rfl⟩);unfold lnOk;rw[q2,q3];simp only[Bool.and_eq_true,Bool.not_eq_true',beq_eq_false_iff_ne,ne_eq];exact⟨q1,⟨trivial,u1⟩,trivial,u2⟩
 ·rintro⟨h1,h2⟩;have hv:∀l∈n.Links,l.A≠l.B∧isEndB n (endA l)=true∧isEndB n (endB l)=true:=by
   intro l hl;have:=h2 l hl;unfold lnOk at this;simp only[Bool.and_eq_true,Bool.not_eq_true',beq_eq_false_iff_ne,ne_eq]at this;exact⟨this.1,this.2.1.1,this.2.2.1⟩
  refine⟨⟨hv,λe _=>rfl,Zuu (λe he=>?_)⟩,λa ha j hj=>?_⟩
  ·obtain⟨l,hl,hx⟩:=Zkh.1 he;have hi:isEndB n e=true:=by
    rcases hx with rfl|rfl
    ·exact(hv l hl).2.1
    ·exact(hv l hl).2.2
   obtain⟨a,ha,j,hj,rfl⟩:=Zdu hi;have:=h1 a ha j hj;rw[Int.zero_add]at this;exact(Zs1 this).1
  ·rw[Zm1];exact(Zs1 (h1 a ha j hj)).2
theorem Zu2(n:Net):netOk n=netOkS n:=by
 unfold netOk netOkS linksB;rw[Zvo];have:=Zu0 n;rw[Bool.eq_iff_iff]at this⊢;simp only[Bool.and_eq_true]at this⊢;constructor
 ·rintro⟨h1,h2,h3,h4,h5⟩;obtain⟨h6,h7⟩:=this.1 ⟨h3,h4⟩;exact⟨h2,h5,⟨h1,h6⟩,h7⟩
 ·rintro⟨h2,h5,⟨h1,h6⟩,h7⟩;obtain⟨h3,h4⟩:=this.2 ⟨h6,h7⟩;exact⟨h1,h2,h3,h4,h5⟩
end Go.Md
namespace Go.Ev
open Go.Md
def o90(n_:Net):Bool×List Row×List Row:=(Net.small n_,[[.bool (netOk n_)]],[])
def c90:Contract:=(cp zp18 λn_=>c0 (o90 n_)) true
def k90_0:KT:=λn↦kThen (λst↦rC 90 T129 n f90 [1,1,1] 4 [] 4 st (lV f90 [] [])) (lV f90 [] [])
def k90_1:KT:=λn↦kBlock (0) (k90_0 n)
def S90_0(n_:Net)(i0:Int):St:=St.mk (U_::V_ [C.ptr 0 0 0 [] 2 0 0]::U_::I_ i0::u_ 109 []) [Root.mk true 2 [[D.sl false 2 (enS false (Net.Bridges n_)),D.sl false 4 (enS false (Net.Links n_))]] 0 0 true true false [] 0 []]
def B90_0:BT:=λn↦rC 90 T129 n f90 [1,1,0,1,0,0] 10 [(0,2)] 4
def X90_2(n_:Net):St:=St.mk (U_::U_::B_ false::u_ 110 []) [Root.mk true 2 [[D.sl false 2 (enS false (Net.Bridges n_)),D.sl false 4 (enS false (Net.Links n_))]] 0 0 true true false [] 0 []]
def k90_3(f:St→RR)(K:Ex→St→RR):Ex→St→RR:=kThen (λst↦f (St.head 1 10 302231454903657293152316 st)) K
def k90_4(n:Nat)(f:St→RR)(K:Ex→St→RR):Ex→St→RR:=kThen (λst↦rC 90 T129 n f90 [1,1,0,1,0,0,1,1] 10 [(0,2)] 4 st (k90_3 f K)) (k90_3 f K)
def k90_5(n:Nat)(f:St→RR)(K:Ex→St→RR):Ex→St→RR:=kBlock (1) (k90_4 n f K)
def k90_6(n:Nat)(f:St→RR)(K:Ex→St→RR):Ex→St→RR:=kThen (λst↦rC 90 T129 n f90 [1,1,0,1,0,0,1,0,0,1,1] 10 [(1,10),(0,2)] 4 st (k90_5 n f K)) (k90_5 n f K)
def k90_7(n:Nat)(f:St→RR)(K:Ex→St→RR):Ex→St→RR:=kBlock (2) (k90_6 n f K)
def S90_1(n_:Net)(i0:Int)(i0_:Int):St:=St.mk (U_::V_ [C.ptr 0 0 0 [] 2 0 0]::U_::I_ i0::I_ i0_::u_ 108 []) [Root.mk true 2 [[D.sl false 2 (enS false (Net.Bridges n_)),D.sl false 4 (enS false (Net.Links n_))]] 0 0 true true false [] 0 []]
def B90_1:BT:=λn↦rC 90 T129 n f90 [1,1,0,1,0,0,1,0,0,1,0,1,0,0] 26 [(2,10),(1,10),(0,2)] 4
def X90_9(n_:Net)(i0:Int):St:=St.mk (U_::V_ [C.ptr 0 0 0 [] 2 0 0]::U_::I_ i0::u_ 109 []) [Root.mk true 2 [[D.sl false 2 (enS false (Net.Bridges n_)),D.sl false 4 (enS false (Net.Links n_))]] 0 0 true true false [] 0 []]
def y90_2(i0:Int)(n_:Net):=getD (enS false (Net.Bridges n_)) (toNat i0) []
theorem Z2a(n_:Net)(n:Nat)(i0:Int)(i0_:Int)(f_:St→RR)(K_:Ex→St→RR):B90_1 n (S90_1 n_ i0 i0_) (kThen (λst↦f_ (St.head 1 26 2251791223750676 st)) K_)=bif decide (i0_<i0)then bif decide (0≤i0_)&&decide (i0_<ofNat (length (enS false (Net.Bridges n_))))then bif Leaf.fit false (Leaf.int i64) (getD (getD (enS false (Net.Bridges n_)) (toNat i0_) []) 0 D.dead)&&true then bif decide (0≤i0)&&decide (i0<ofNat (length (enS false (Net.Bridges n_))))then bif Leaf.fit false (Leaf.int i64) (getD (y90_2 i0 n_) 0 D.dead)&&true then bif D.num (getD (getD (enS false (Net.Bridges n_)) (toNat i0_) []) 0 D.dead)==D.num (getD (y90_2 i0 n_) 0 D.dead)then K_ Ex.ret (X90_2 n_)else f_ (S90_1 n_ i0 (wrap i64 (i0_+1)))else none else none else none else none else K_ (Ex.exit 2) (X90_9 n_ i0):=by kernel_rfl
theorem Zmb(n_:Net)(n:Nat):k90_1 n Ex.ret (X90_2 n_)=some ([[D.bool false]],[]):=by kernel_rfl
theorem Zz5(n_:Net)(n:Nat)(f:St→RR)(K:Ex→St→RR):k90_7 n f K Ex.ret (X90_2 n_)=K Ex.ret (X90_2 n_):=by kernel_rfl
def k90_11(n:Nat)(f:St→RR)(K:Ex→St→RR):Ex→St→RR:=kBlock (4) (k90_5 n f K)
def S90_2(n_:Net)(i0:Int)(i0__:Int):St:=St.mk (U_::V_ [C.ptr 0 0 0 [] 2 0 0]::U_::I_ i0::U_::I_ i0__::u_ 107 []) [Root.mk true 2 [[D.sl false 2 (enS false (Net.Bridges n_)),D.sl false 4 (enS false (Net.Links n_))]] 0 0 true true false [] 0 []]
def B90_2:BT:=λn↦rC 90 T129 n f90 [1,1,0,1,0,0,1,0,0,1,1,1,0,0] 42 [(4,10),(1,10),(0,2)] 4
def y90_1(n_:Net):=Net.mk (deS Bridge (enS false (Net.Bridges n_))) (deS Link (enS false (Net.Links n_)))
theorem Z2b(n_:Net)(n:Nat)(i0:Int)(i0__:Int)(f_:St→RR)(K_:Ex→St→RR):B90_2 n (S90_2 n_ i0 i0__) (kThen (λst↦f_ (St.head 1 42 302231452651857479991332 st)) K_)=bif decide (0≤i0)&&decide (i0<ofNat (length (enS false (Net.Bridges n_))))then bif Leaf.fit false (Leaf.sl 11 true) (getD (drop 1 (y90_2 i0 n_)) 0 D.dead)&&true then bif decide (i0__<ofNat (length (D.rows (getD (drop 1 (y90_2 i0 n_)) 0 D.dead))))then bif isS Bridge false (enS false (Net.Bridges n_))&&isS Link false (enS false (Net.Links n_))&&Net.small (y90_1 n_)then bif decide (0≤i0)&&decide (i0<ofNat (length (enS false (Net.Bridges n_))))then bif Leaf.fit false (Leaf.sl 11 true) (getD (drop 1 (y90_2 i0 n_)) 0 D.dead)&&true then bif decide (0≤i0__)&&decide (i0__<ofNat (length (D.rows (getD (drop 1 (y90_2 i0 n_)) 0 D.dead))))then bif Leaf.fit false Leaf.bool (getD (getD (D.rows (getD (drop 1 (y90_2 i0 n_)) 0 D.dead)) (toNat i0__) []) 0 D.dead)&&true then bif onceL i0 i0__ (deS Link (enS false (Net.Links n_))) (0) !=bitI (D.flag (getD (getD (D.rows (getD (drop 1 (y90_2 i0 n_)) 0 D.dead)) (toNat i0__) []) 0 D.dead)) (1)then K_ Ex.ret (X90_2 n_)else f_ (S90_2 n_ i0 (wrap i64 (i0__+1)))else none else none else none else none else none else K_ (Ex.exit 4) (X90_9 n_ i0)else none else none:=by kernel_rfl
theorem Zxm(n_:Net)(n:Nat)(f:St→RR)(K:Ex→St→RR):k90_11 n f K Ex.ret (X90_2 n_)=K Ex.ret (X90_2 n_):=by kernel_rfl
theorem Zxn(n_:Net)(n:Nat)(i0:Int)(f:St→RR)(K:Ex→St→RR):k90_11 n f K (Ex.exit 4) (X90_9 n_ i0)=f (S90_0 n_ (wrap i64 (i0+1))):=by kernel_rfl
theorem Zz6(n_:Net)(n:Nat)(i0:Int)(f:St→RR)(K:Ex→St→RR):k90_7 n f K (Ex.exit 2) (X90_9 n_ i0)=loopRun (B90_2 n) 1 42 302231452651857479991332 n (S90_2 n_ i0 (0)) (k90_11 n f K):=by kernel_rfl
def X90_15(n_:Net):St:=St.mk (U_::V_ [C.ptr 0 0 0 [] 2 0 0]::u_ 111 []) [Root.mk true 2 [[D.sl false 2 (enS false (Net.Bridges n_)),D.sl false 4 (enS false (Net.Links n_))]] 0 0 true true false [] 0 []]
theorem Z19(n_:Net)(n:Nat)(i0:Int)(f:St→RR)(K:Ex→St→RR):B90_0 n (S90_0 n_ i0) (kThen (λst↦f (St.head 1 10 302231454903657293152316 st)) K)=bif decide (i0<ofNat (length (enS false (Net.Bridges n_))))then bif decide (0≤i0)&&decide (i0<ofNat (length (enS false (Net.Bridges n_))))then bif Leaf.fit false (Leaf.int i64) (getD (y90_2 i0 n_) 0 D.dead)&&(Leaf.fit false (Leaf.sl 11 true) (getD (y90_2 i0 n_) 1 D.dead)&&true)then bif isS Port false (D.rows (getD (y90_2 i0 n_) 1 D.dead))&&decide (length (deS Port (D.rows (getD (y90_2 i0 n_) 1 D.dead)))≤1048576)then bif !bridgeOk (Bridge.mk (D.num (getD (y90_2 i0 n_) 0 D.dead)) (deS Port (D.rows (getD (y90_2 i0 n_) 1 D.dead))))then K Ex.ret (X90_2 n_)else loopRun (B90_1 n) 1 26 2251791223750676 n (S90_1 n_ i0 (0)) (k90_7 n f K)else none else none else none else K (Ex.exit 0) (X90_15 n_):=by kernel_rfl
def k90_16:KT:=λn↦kThen (λst↦rC 90 T129 n f90 [1,1,1,1] 4 [] 4 st (lV f90 [] [])) (lV f90 [] [])
def k90_17:KT:=λn↦kBlock (6) (k90_16 n)
def S90_3(n_:Net)(i0_:Int):St:=St.mk (U_::V_ [C.ptr 0 0 0 [] 2 0 0]::u_ 4 (I_ i0_::u_ 106 [])) [Root.mk true 2 [[D.sl false 2 (enS false (Net.Bridges n_)),D.sl false 4 (enS false (Net.Links n_))]] 0 0 true true false [] 0 []]
def B90_3:BT:=λn↦rC 90 T129 n f90 [1,1,1,0,1,0,0] 66 [(6,0)] 4
def y90_0(i0_:Int)(n_:Net):=getD (enS false (Net.Links n_)) (toNat i0_) []
def X90_18(n_:Net)(i0_:Int):St:=St.mk (U_::U_::B_ false::u_ 110 []) [Root.mk true 2 [[D.sl false 2 (enS false (Net.Bridges n_)),D.sl false 4 (enS false (Net.Links n_))]] 0 0 true true false [] 0 [],Root.mk true 4 [[D.int i64 (D.num (getD (y90_0 i0_ n_) 0 D.dead)),D.int i64 (D.num (getD (y90_0 i0_ n_) 1 D.dead)),D.int i64 (D.num (getD (y90_0 i0_ n_) 2 D.dead)),D.int i64 (D.num (getD (y90_0 i0_ n_) 3 D.dead))]] 0 0 true true false [] 0 []]
def X90_21(n_:Net):St:=St.mk (u_ 113 []) [Root.mk true 2 [[D.sl false 2 (enS false (Net.Bridges n_)),D.sl false 4 (enS false (Net.Links n_))]] 0 0 true true false [] 0 []]
theorem Z2c(n_:Net)(n:Nat)(i0_:Int)(f:St→RR)(K:Ex→St→RR):B90_3 n (S90_3 n_ i0_) (kThen (λst↦f (St.head 1 66 10384593716767423802157335364763844 st)) K)=bif decide (i0_<ofNat (length (enS false (Net.Links n_))))then bif decide (0≤i0_)&&decide (i0_<ofNat (length (enS false (Net.Links n_))))then bif Leaf.fit false (Leaf.int i64) (getD (y90_0 i0_ n_) 0 D.dead)&&(Leaf.fit false (Leaf.int i64) (getD (y90_0 i0_ n_) 1 D.dead)&&(Leaf.fit false (Leaf.int i64) (getD (y90_0 i0_ n_) 2 D.dead)&&(Leaf.fit false (Leaf.int i64) (getD (y90_0 i0_ n_) 3 D.dead)&&true)))then bif D.num (getD (y90_0 i0_ n_) 0 D.dead)==D.num (getD (y90_0 i0_ n_) 2 D.dead)then K Ex.ret (X90_18 n_ i0_)else bif isS Bridge false (enS false (Net.Bridges n_))&&isS Link false (enS false (Net.Links n_))&&Net.small (y90_1 n_)then bif !(isEndB (y90_1 n_) (TEnd.mk (D.num (getD (y90_0 i0_ n_) 0 D.dead)) (D.num (getD (y90_0 i0_ n_) 1 D.dead)))&&upAt (y90_1 n_) (D.num (getD (y90_0 i0_ n_) 0 D.dead)) (D.num (getD (y90_0 i0_ n_) 1 D.dead)))then K Ex.ret (X90_18 n_ i0_)else bif isS Bridge false (enS false (Net.Bridges n_))&&isS Link false (enS false (Net.Links n_))&&Net.small (y90_1 n_)then bif !(isEndB (y90_1 n_) (TEnd.mk (D.num (getD (y90_0 i0_ n_) 2 D.dead)) (D.num (getD (y90_0 i0_ n_) 3 D.dead)))&&upAt (y90_1 n_) (D.num (getD (y90_0 i0_ n_) 2 D.dead)) (D.num (getD (y90_0 i0_ n_) 3 D.dead)))then K Ex.ret (X90_18 n_ i0_)else f (S90_3 n_ (wrap i64 (i0_+1)))else none else none else none else none else K (Ex.exit 6) (X90_21 n_):=by kernel_rfl
theorem Zmc(n_:Net)(n:Nat)(i0_:Int):k90_17 n Ex.ret (X90_18 n_ i0_)=some ([[D.bool false]],[]):=by kernel_rfl
theorem Zxp(n_:Net)(n:Nat):k90_17 n (Ex.exit 6) (X90_21 n_)=some ([[D.bool true]],[]):=by kernel_rfl
theorem Zxo(n_:Net)(n:Nat):k90_1 n (Ex.exit 0) (X90_15 n_)=loopRun (B90_3 n) 1 66 10384593716767423802157335364763844 n (S90_3 n_ (0)) (k90_17 n):=by kernel_rfl
def e90(n_:Net)(n:Nat):=evFn ⟨prog,Hx,90⟩ T129.call n f90 [zp18.row n_]
theorem r90(n_:Net)(n:Nat):e90 n_ n=bif !inR (ofNat (length (enS false (Net.Bridges n_)))) (1) (5)then some ([[D.bool false]],[])else bif decide (ofNat (length (enS false (Net.Links n_)))>6)then some ([[D.bool false]],[])else loopRun (B90_0 n) 1 10 302231454903657293152316 n (S90_0 n_ (0)) (k90_1 n):=by kernel_rfl
theorem m90(n_:Net):(o90 n_).1=true→e90 n_ (n_.Links.length+n_.Bridges.length+1048577)=some (o90 n_).2:=by
 refine pm λhpre=>(r90 n_ _).trans ?_;obtain⟨hs1,hs2,hs3⟩:=Zbg hpre;rw[Zu2];unfold netOkS;show _=(some ([[D.bool (inR (Int.ofNat n_.Bridges.length) 1 5&&(decide (n_.Links.length≤6)&&(brS n_.Links (Int.ofNat 0) (n_.Bridges.take 0) n_.Bridges&&n_.Links.all (lnOk n_))))]],[]):Option (List Row×List Row));have hg6:decide (Int.ofNat n_.Links.length>6)=!decide (n_.Links.length≤6):=by
  rw[Bool.eq_iff_iff];simp;omega
 simp only[Zaa,hg6];cases h1:inR (Int.ofNat n_.Bridges.length) 1 5
 ·rfl
 cases h2:decide (n_.Links.length≤6)
 ·rfl
 simp only[Bool.not_true,cond_false,Bool.true_and];refine Zai (xs:=n_.Bridges) (λi (_:Unit)=>S90_0 n_ (Int.ofNat i)) (λ_ _=>True) (λi _ rest=>some ([[D.bool (brS n_.Links (Int.ofNat i) (n_.Bridges.take i) rest&&n_.Links.all (lnOk n_))]],[])) ?_ ?_ (n_.Links.length+n_.Bridges.length+1048577) () (by omega) trivial
 ·rintro _ _ f;refine(Z19 n_ _ _ f _).trans ?_;delta y90_2;rw[Zaw,cond_false];refine(Zxo _ _).trans ?_;rw[show brS n_.Links (Int.ofNat n_.Bridges.length) (List.take n_.Bridges.length n_.Bridges) []=true from rfl,Bool.true_and];refine Zai (xs:=n_.Links) (λi (_:Unit)=>S90_3 n_ (Int.ofNat i)) (λ_ _=>True) (λi _ rest=>some ([[D.bool (rest.all (lnOk n_))]],[])) ?_ ?_ (n_.Links.length+n_.Bridges.length+1048577) () (by omega) trivial
  ·rintro _ _ f;refine(Z2c n_ _ _ f _).trans ?_;delta y90_0 y90_1;rw[Zaw,cond_false];exact Zxp _ _
  ·rintro i _ hi _ f hf;refine(Z2c n_ _ _ f _).trans ?_;delta y90_0 y90_1;simp only[gos,En.enc,D.num,D.flag,D.text,D.rows,Leaf.fit,Zbo,Zab _ hi,hi,Zae (show i<4611686018427387904 by omega),hpre]
   rw[List.all_cons];have hl:lnOk n_ n_.Links[i]=(!(n_.Links[i].A==n_.Links[i].B)&&((isEndB n_ ⟨n_.Links[i].A,n_.Links[i].P⟩&&upAt n_ n_.Links[i].A n_.Links[i].P)&&(isEndB n_ ⟨n_.Links[i].B,n_.Links[i].Q⟩&&upAt n_ n_.Links[i].B n_.Links[i].Q))):=rfl;rw[hl];cases h3:(n_.Links[i].A==n_.Links[i].B)
   case true=>
    simp only[Bool.not_true,cond_true,Bool.false_and];exact Zmc _ _ _
   cases h4:(isEndB n_ ⟨n_.Links[i].A,n_.Links[i].P⟩&&upAt n_ n_.Links[i].A n_.Links[i].P)
   ·simp only[Bool.not_false,cond_true,cond_false,Bool.true_and,Bool.false_and];exact Zmc _ _ _
   cases h5:(isEndB n_ ⟨n_.Links[i].B,n_.Links[i].Q⟩&&upAt n_ n_.Links[i].B n_.Links[i].Q)
   ·simp only[Bool.not_false,Bool.not_true,cond_true,cond_false,Bool.true_and,Bool.false_and];exact Zmc _ _ _
   simp only[Bool.not_false,Bool.not_true,cond_true,cond_false,Bool.true_and];exact hf () trivial
 ·rintro o _ ho _ f hf;refine(Z19 n_ _ _ f _).trans ?_;delta y90_2;have hl:decide (n_.Bridges[o].Ports.length≤1048576)=true:=decide_eq_true (hs2 _ (List.getElem_mem ho));have hl':=hs2 _ (List.getElem_mem ho);simp only[gos,En.enc,D.num,D.flag,D.text,D.rows,Leaf.fit,Zbo,Zab _ ho,ho,hl,beq_self_eq_true];simp only[brS];cases hb:bridgeOk n_.Bridges[o]
  ·simp only[Bool.not_false,cond_true,Bool.false_and];exact Zmb _ _
  simp only[Bool.not_true,cond_false,Bool.true_and];have ht:(n_.Bridges.take o).length=o:=by rw[List.length_take];omega
  refine Zai (xs:=n_.Bridges.take o) (λj (_:Unit)=>S90_1 n_ (Int.ofNat o) (Int.ofNat j)) (λ_ _=>True) (λj _ rest=>some ([[D.bool ((!rest.any (λx=>x.Id==n_.Bridges[o].Id)&&(prtS n_.Links (Int.ofNat o) 0 n_.Bridges[o].Ports&&brS n_.Links (Int.ofNat o+1) (n_.Bridges.take o++[n_.Bridges[o]]) (n_.Bridges.drop (o+1))))&&n_.Links.all (lnOk n_))]],[])) ?_ ?_ (n_.Links.length+n_.Bridges.length+1048577) () (by omega) trivial
  ·rintro _ _ f2;refine(Z2a n_ _ _ _ f2 _).trans ?_;delta y90_2;rw[ht,show decide (Int.ofNat o<Int.ofNat o)=false from decide_eq_false (by omega),cond_false]
   refine(Zz6 _ _ _ _ _).trans ?_;rw[List.any_nil,Bool.not_false,Bool.true_and];have hc:Int.ofNat o+1=Int.ofNat (o+1):=rfl;refine Zai (xs:=n_.Bridges[o].Ports) (λj (_:Unit)=>S90_2 n_ (Int.ofNat o) (Int.ofNat j)) (λ_ _=>True) (λj _ rest=>some ([[D.bool ((prtS n_.Links (Int.ofNat o) (Int.ofNat j) rest&&brS n_.Links (Int.ofNat o+1) (n_.Bridges.take o++[n_.Bridges[o]]) (n_.Bridges.drop (o+1)))&&n_.Links.all (lnOk n_))]],[])) ?_ ?_ (n_.Links.length+n_.Bridges.length+1048577) () (by omega) trivial
   ·rintro _ _ f3;refine(Z2b n_ _ _ _ f3 _).trans ?_;delta y90_1 y90_2;simp only[gos,En.enc,D.num,D.flag,D.text,D.rows,Leaf.fit,Zbo,Zab _ ho,ho,List.drop_succ_cons,List.drop_zero,beq_self_eq_true];refine(Zxn _ _ _ _ _).trans ?_;rw[Zae (show o<4611686018427387904 by omega)]
    refine(hf () trivial).trans ?_;rw[List.take_succ_eq_append_getElem ho,show prtS n_.Links (Int.ofNat o) (Int.ofNat n_.Bridges[o].Ports.length) []=true from rfl,Bool.true_and,hc]
   ·rintro i _ hi _ f3 hf3;refine(Z2b n_ _ _ _ f3 _).trans ?_;delta y90_1 y90_2;have hc2:Int.ofNat i+1=Int.ofNat (i+1):=rfl;simp only[gos,En.enc,D.num,D.flag,D.text,D.rows,Leaf.fit,Zbo,Zab _ hi,hi,Zae (show i<4611686018427387904 by omega),Zab _ ho,ho,List.drop_succ_cons,List.drop_zero,beq_self_eq_true,hpre]
    simp only[prtS];rw[hc2];have hx:(onceL (Int.ofNat o) (Int.ofNat i) n_.Links 0 !=bitI n_.Bridges[o].Ports[i].Up 1)=!(onceL (Int.ofNat o) (Int.ofNat i) n_.Links 0==bitI n_.Bridges[o].Ports[i].Up 1):=rfl;have hz:Int.ofNat 0=0:=rfl;simp only[hx];cases hp:(onceL (Int.ofNat o) (Int.ofNat i) n_.Links 0==bitI n_.Bridges[o].Ports[i].Up 1)
    ·simp only[Bool.not_false,cond_true,Bool.false_and];refine(Zxm _ _ _ _).trans ?_;exact Zmb _ _
    ·simp only[Bool.not_true,cond_false,Bool.true_and];exact hf3 () trivial
  ·rintro i _ hi _ f2 hf2;have hi2:i<o:=by omega
   have hi3:i<n_.Bridges.length:=by omega
   refine(Z2a n_ _ _ _ f2 _).trans ?_;delta y90_2;simp only[gos,En.enc,D.num,D.flag,D.text,D.rows,Leaf.fit,Zbo,Zab _ ho,ho,Zab _ hi3,hi3,hi2,beq_self_eq_true,List.any_cons,List.getElem_take];cases hp:(n_.Bridges[i].Id==n_.Bridges[o].Id)
   ·simp only[cond_false,Bool.false_or];rw[Zae (show i<4611686018427387904 by omega)]
    exact hf2 () trivial
   ·simp only[cond_true,Bool.true_or,Bool.not_true,Bool.false_and];refine(Zz5 _ _ _ _).trans ?_;exact Zmb _ _
def T90:Table:=(90,c90)::T129
theorem Zsi:Table.Sound prog Hx T90:=sa Zou func90 (by kernel_rfl) (Zah λn_=>Zan λh=>⟨_,m90 n_ h⟩)
end Go.Ev
namespace Go.Md
open Go Go.Ev
def visL(e:TEnd):List Link→Int→TEnd×Int
 |[],_=>(⟨0,0⟩,-1)
 |l::ls,k=>bif sameE (endA l) e then(endB l,k)else bif sameE (endB l) e then(endA l,k)else visL e ls (k+1)
def otherB(n:Net)(e:TEnd):TEnd×Int:=visL e n.Links 0
def openAt(n:Net)(a p:Int):Bool:=((portsAt n a).getD p.toNat ⟨false,false,⟨0,0,0,0⟩,0,0,0,0,false⟩).Open
def passL(n:Net)(l:Link):Bool:=openAt n l.A l.P&&openAt n l.B l.Q
def passesB(n:Net)(k:Int):Bool:=passL n (n.Links.getD k.toNat ⟨0,0,0,0⟩)
def acrossB(n:Net)(e:TEnd):TEnd×Bool:=((otherB n e).1,decide ((otherB n e).2≥0)&&passesB n (otherB n e).2)
def acrS(n:Net)(e:TEnd):List Link→TEnd×Bool
 |[]=>(⟨0,0⟩,false)
 |l::ls=>bif passL n l then(bif sameE (endA l) e then(endB l,true)else bif sameE (endB l) e then(endA l,true)else acrS n e ls)else acrS n e ls
def linkIn(n:Net)(l:Link):Bool:=isEndB n (endA l)&&isEndB n (endB l)
def netIn(n:Net):Bool:=Net.small n&&n.Links.all (linkIn n)
theorem Zyb{n:Net}{a p:Int}(h:isEndB n ⟨a,p⟩=true):∃i j:Nat,a=(i:Int)∧p=(j:Int)∧∃hi:i<n.Bridges.length,j<n.Bridges[i].Ports.length:=by
 obtain⟨i,hi,j,hj,he⟩:=Zdu h;injection he with e1 e2;exact⟨i,j,e1,e2,hi,hj⟩
theorem Zjp(n:Net)(i j:Nat)(hi:i<n.Bridges.length)(hj:j<n.Bridges[i].Ports.length):openAt n (i:Int) (j:Int)=n.Bridges[i].Ports[j].Open:=by
 unfold openAt;rw[Zdc n i hi,Int.toNat_natCast];simp[hj]
end Go.Md
namespace Go.Ev
open Go.Md
end Go.Ev
end
