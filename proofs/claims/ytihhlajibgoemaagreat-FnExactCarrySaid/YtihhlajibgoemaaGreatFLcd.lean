/- Contracts of functions, each by its evaluation. -/
import Derived.Test.YtihhlajibgoemaaGreatEvMd
import Derived.Test.YtihhlajibgoemaaGreatProg
import Derived.KernelRfl
import Derived.Test.YtihhlajibgoemaaGreatFCarry
set_option linter.unusedVariables false
set_option linter.unusedSimpArgs false
set_option maxRecDepth 100000
noncomputable section
open List (getD length drop take set append replicate all isEmpty)
open Int (toNat ofNat)
open Go.IntKind (i64 wrap)
open Go.Proofs.Tryz (prog)
namespace Go.Ev
open Go.RowKit Go.Md
end Go.Ev
namespace Go.Md
open Go Go.Ev
theorem Zfh{α:Type}{n w:α→Int}(h:∀x,n x≤64*(1+w x)):∀xs:List α,cntS n xs≤64*((xs.length:Int)+cntS w xs)
 |[]=>by simp[cntS]
 |x::xs=>by
  have h1:=h x;have h2:=Zfh h xs;unfold cntS;rw[List.length_cons]
  push_cast
  omega
theorem Zeg{α:Type}{mk:α→Int→α}{n w:α→Int}(h:∀x k,w (mk x k)=w x):∀(xs:List α) (k:Int),cntS w (markS mk n xs k)=cntS w xs
 |[],_=>rfl
 |x::xs,k=>by
  show w (mk x k)+cntS w (markS mk n xs (k+n x))=w x+cntS w xs;rw[h,Zeg h xs]
theorem Zdl{α:Type}{p q:α→Bool}(h:∀x,p x=true→q x=true)(xs:List α)(hp:xs.all p=true):xs.all q=true:=List.all_eq_true.2 (λx hx=>h x (List.all_eq_true.1 hp x hx))
theorem Vec.mk_idem(x:Vec)(k:Int):Vec.mk_ (Vec.mk_ x k) k=Vec.mk_ x k:=rfl
theorem Vec.n_mk(x:Vec)(k:Int):Vec.n_ (Vec.mk_ x k)=Vec.n_ x:=rfl
theorem Port.mk_idem(x:Port)(k:Int):Port.mk_ (Port.mk_ x k) k=Port.mk_ x k:=rfl
theorem Port.n_mk(x:Port)(k:Int):Port.n_ (Port.mk_ x k)=Port.n_ x:=rfl
theorem Bridge.mk_idem(x:Bridge)(k:Int):Bridge.mk_ (Bridge.mk_ x k) k=Bridge.mk_ x k:=by simp only[Bridge.mk_,Bridge.n_,(Zam (mk:=Port.mk_) (n:=Port.n_) Port.mk_idem Port.n_mk _ _).1,(Zam (mk:=Port.mk_) (n:=Port.n_) Port.mk_idem Port.n_mk _ _).2]
theorem Bridge.n_mk(x:Bridge)(k:Int):Bridge.n_ (Bridge.mk_ x k)=Bridge.n_ x:=by simp only[Bridge.mk_,Bridge.n_,(Zam (mk:=Port.mk_) (n:=Port.n_) Port.mk_idem Port.n_mk _ _).1,(Zam (mk:=Port.mk_) (n:=Port.n_) Port.mk_idem Port.n_mk _ _).2]
theorem Bridge.wt_mk_(x:Bridge)(k:Int):Bridge.wt (Bridge.mk_ x k)=Bridge.wt x:=by simp only[Bridge.wt,Bridge.mk_,Bridge.n_,Za1]
theorem Bridge.n_le(x:Bridge):Bridge.n_ x≤64*(1+Bridge.wt x):=by have c0:cntS Port.n_ x.Ports=11*(x.Ports.length:Int):=Zb1 (λ_=>rfl) _;simp only[Bridge.mk_,Bridge.n_,Bridge.wt];omega
theorem Bridge.b60_of(x:Bridge)(h:Bridge.small x=true):(decide (x.Ports.length≤1152921504606846976))=true:=by
 simp only[Bridge.small,Bool.and_eq_true,decide_eq_true_eq]at h;simp only[Bool.and_eq_true,decide_eq_true_eq];grind [Zdl]
theorem Link.mk_idem(x:Link)(k:Int):Link.mk_ (Link.mk_ x k) k=Link.mk_ x k:=rfl
theorem Link.n_mk(x:Link)(k:Int):Link.n_ (Link.mk_ x k)=Link.n_ x:=rfl
theorem Net.mkTop_idem(x:Net)(k:Int):Net.mkTop (Net.mkTop x k) k=Net.mkTop x k:=by simp only[Net.mkTop,(Zam (mk:=Bridge.mk_) (n:=Bridge.n_) Bridge.mk_idem Bridge.n_mk _ _).1,(Zam (mk:=Bridge.mk_) (n:=Bridge.n_) Bridge.mk_idem Bridge.n_mk _ _).2,(Zam (mk:=Link.mk_) (n:=Link.n_) Link.mk_idem Link.n_mk _ _).1,(Zam (mk:=Link.mk_) (n:=Link.n_) Link.mk_idem Link.n_mk _ _).2]
theorem Net.nTop_mk(x:Net)(k:Int):Net.nTop (Net.mkTop x k)=Net.nTop x:=by simp only[Net.mkTop,Net.nTop,(Zam (mk:=Bridge.mk_) (n:=Bridge.n_) Bridge.mk_idem Bridge.n_mk _ _).1,(Zam (mk:=Bridge.mk_) (n:=Bridge.n_) Bridge.mk_idem Bridge.n_mk _ _).2,(Zam (mk:=Link.mk_) (n:=Link.n_) Link.mk_idem Link.n_mk _ _).1,(Zam (mk:=Link.mk_) (n:=Link.n_) Link.mk_idem Link.n_mk _ _).2]
theorem Net.wt_mk(x:Net)(k:Int):Net.wt (Net.mkTop x k)=Net.wt x:=by simp only[Net.wt,Net.mkTop,Za1,Zeg (mk:=Bridge.mk_) (n:=Bridge.n_) (w:=Bridge.wt) Bridge.wt_mk_]
theorem Net.nTop_le(x:Net):Net.nTop x≤64*Net.wt x:=by have c0:=Zfh Bridge.n_le x.Bridges;have d0:=Zag (n:=Bridge.wt) Bridge.wt_pos x.Bridges;have c1:cntS Link.n_ x.Links=4*(x.Links.length:Int):=Zb1 (λ_=>rfl) _;simp only[Net.nTop,Net.wt];omega
theorem Net.t60(x:Net)(h:Net.small x=true):((decide (x.Bridges.length≤1152921504606846976)&&x.Bridges.all (λx=>decide (x.Ports.length≤1152921504606846976)))&&decide (x.Links.length≤1152921504606846976))=true:=by
 simp only[Net.small,Bool.and_eq_true,decide_eq_true_eq]at h;simp only[Bool.and_eq_true,decide_eq_true_eq];grind [Zdl,Bridge.b60_of]
theorem Net.top_ok(x:Net)(k:Int)(h0:0≤k)(hk:k≤1000000000000)(hw:Net.wt x≤1048576):(decide (0≤k)&&(decide (k+Net.nTop x≤4611686018427387904)&&((decide (x.Bridges.length≤1152921504606846976)&&x.Bridges.all (λx=>decide (x.Ports.length≤1152921504606846976)))&&decide (x.Links.length≤1152921504606846976))))=true:=by
 have hs:=Net.small_of x hw;have hn:=Net.nTop_le x;rw[Net.t60 x hs,decide_eq_true h0,decide_eq_true (show k+Net.nTop x≤4611686018427387904 by omega)]
 rfl
theorem Zdz(x:Bool)(k:Int):boolMk (boolMk x k) k=boolMk x k:=rfl
theorem Ze0(x:Int)(k:Int):intMk (intMk x k) k=intMk x k:=rfl
theorem Member.mk_idem(x:Member)(k:Int):Member.mk_ (Member.mk_ x k) k=Member.mk_ x k:=by simp only[Member.mk_,Member.n_,(Zam (mk:=intMk) (n:=oneN) Ze0 (λ_ _=>rfl) _ _).1,(Zam (mk:=intMk) (n:=oneN) Ze0 (λ_ _=>rfl) _ _).2]
theorem Member.n_mk(x:Member)(k:Int):Member.n_ (Member.mk_ x k)=Member.n_ x:=by simp only[Member.mk_,Member.n_,(Zam (mk:=intMk) (n:=oneN) Ze0 (λ_ _=>rfl) _ _).1,(Zam (mk:=intMk) (n:=oneN) Ze0 (λ_ _=>rfl) _ _).2]
theorem Member.wt_mk_(x:Member)(k:Int):Member.wt (Member.mk_ x k)=Member.wt x:=by simp only[Member.wt,Member.mk_,Member.n_,Za1]
theorem Member.n_le(x:Member):Member.n_ x≤64*(1+Member.wt x):=by have c0:cntS oneN x.In=1*(x.In.length:Int):=Zb1 (λ_=>rfl) _;simp only[Member.mk_,Member.n_,Member.wt];omega
theorem Member.b60_of(x:Member)(h:Member.small x=true):(decide (x.In.length≤1152921504606846976))=true:=by
 simp only[Member.small,Bool.and_eq_true,decide_eq_true_eq]at h;simp only[Bool.and_eq_true,decide_eq_true_eq];grind [Zdl]
theorem Heard.mk_idem(x:Heard)(k:Int):Heard.mk_ (Heard.mk_ x k) k=Heard.mk_ x k:=rfl
theorem Heard.n_mk(x:Heard)(k:Int):Heard.n_ (Heard.mk_ x k)=Heard.n_ x:=rfl
theorem Card.mk_idem(x:Card)(k:Int):Card.mk_ (Card.mk_ x k) k=Card.mk_ x k:=by simp only[Card.mk_,Card.n_,(Zam (mk:=boolMk) (n:=oneN) Zdz (λ_ _=>rfl) _ _).1,(Zam (mk:=boolMk) (n:=oneN) Zdz (λ_ _=>rfl) _ _).2,(Zam (mk:=Member.mk_) (n:=Member.n_) Member.mk_idem Member.n_mk _ _).1,(Zam (mk:=Member.mk_) (n:=Member.n_) Member.mk_idem Member.n_mk _ _).2,(Zam (mk:=Heard.mk_) (n:=Heard.n_) Heard.mk_idem Heard.n_mk _ _).1,(Zam (mk:=Heard.mk_) (n:=Heard.n_) Heard.mk_idem Heard.n_mk _ _).2]
theorem Card.n_mk(x:Card)(k:Int):Card.n_ (Card.mk_ x k)=Card.n_ x:=by simp only[Card.mk_,Card.n_,(Zam (mk:=boolMk) (n:=oneN) Zdz (λ_ _=>rfl) _ _).1,(Zam (mk:=boolMk) (n:=oneN) Zdz (λ_ _=>rfl) _ _).2,(Zam (mk:=Member.mk_) (n:=Member.n_) Member.mk_idem Member.n_mk _ _).1,(Zam (mk:=Member.mk_) (n:=Member.n_) Member.mk_idem Member.n_mk _ _).2,(Zam (mk:=Heard.mk_) (n:=Heard.n_) Heard.mk_idem Heard.n_mk _ _).1,(Zam (mk:=Heard.mk_) (n:=Heard.n_) Heard.mk_idem Heard.n_mk _ _).2]
theorem Card.wt_mk_(x:Card)(k:Int):Card.wt (Card.mk_ x k)=Card.wt x:=by simp only[Card.wt,Card.mk_,Card.n_,Za1,Zeg (mk:=Member.mk_) (n:=Member.n_) (w:=Member.wt) Member.wt_mk_]
theorem Card.n_le(x:Card):Card.n_ x≤64*(1+Card.wt x):=by have c0:cntS oneN x.Open=1*(x.Open.length:Int):=Zb1 (λ_=>rfl) _;have c1:=Zfh Member.n_le x.Members;have d1:=Zag (n:=Member.wt) Member.wt_pos x.Members;have c2:cntS Heard.n_ x.Table=4*(x.Table.length:Int):=Zb1 (λ_=>rfl) _;simp only[Card.mk_,Card.n_,Card.wt];omega
theorem Card.b60_of(x:Card)(h:Card.small x=true):((decide (x.Open.length≤1152921504606846976)&&(decide (x.Members.length≤1152921504606846976)&&x.Members.all (λx=>decide (x.In.length≤1152921504606846976)))&&decide (x.Table.length≤1152921504606846976)))=true:=by
 simp only[Card.small,Bool.and_eq_true,decide_eq_true_eq]at h;simp only[Bool.and_eq_true,decide_eq_true_eq];grind [Zdl,Member.b60_of]
theorem Fabric.mkTop_idem(x:Fabric)(k:Int):Fabric.mkTop (Fabric.mkTop x k) k=Fabric.mkTop x k:=by simp only[Fabric.mkTop,Net.mkTop_idem,Net.nTop_mk,(Zam (mk:=Card.mk_) (n:=Card.n_) Card.mk_idem Card.n_mk _ _).1,(Zam (mk:=Card.mk_) (n:=Card.n_) Card.mk_idem Card.n_mk _ _).2]
theorem Fabric.nTop_mk(x:Fabric)(k:Int):Fabric.nTop (Fabric.mkTop x k)=Fabric.nTop x:=by simp only[Fabric.mkTop,Fabric.nTop,Net.mkTop_idem,Net.nTop_mk,(Zam (mk:=Card.mk_) (n:=Card.n_) Card.mk_idem Card.n_mk _ _).1,(Zam (mk:=Card.mk_) (n:=Card.n_) Card.mk_idem Card.n_mk _ _).2]
theorem Fabric.wt_mk(x:Fabric)(k:Int):Fabric.wt (Fabric.mkTop x k)=Fabric.wt x:=by simp only[Fabric.wt,Fabric.mkTop,Za1,Net.wt_mk,Zeg (mk:=Card.mk_) (n:=Card.n_) (w:=Card.wt) Card.wt_mk_]
theorem Fabric.nTop_le(x:Fabric):Fabric.nTop x≤64*Fabric.wt x:=by have c0:=Net.nTop_le x.Net;have d0:=Net.wt_pos x.Net;have c1:=Zfh Card.n_le x.Cards;have d1:=Zag (n:=Card.wt) Card.wt_pos x.Cards;simp only[Fabric.nTop,Fabric.wt];omega
theorem Fabric.t60(x:Fabric)(h:Fabric.small x=true):(((decide (x.Net.Bridges.length≤1152921504606846976)&&x.Net.Bridges.all (λx=>decide (x.Ports.length≤1152921504606846976)))&&decide (x.Net.Links.length≤1152921504606846976))&&(decide (x.Cards.length≤1152921504606846976)&&x.Cards.all (λx=>(decide (x.Open.length≤1152921504606846976)&&(decide (x.Members.length≤1152921504606846976)&&x.Members.all (λx=>decide (x.In.length≤1152921504606846976)))&&decide (x.Table.length≤1152921504606846976)))))=true:=by
 simp only[Fabric.small,Net.small,Bool.and_eq_true,decide_eq_true_eq]at h;obtain⟨⟨⟨h1,h2⟩,h3⟩,h4,h5⟩:=h;have e1:=Zdl Bridge.b60_of x.Net.Bridges h2;have e2:=Zdl Card.b60_of x.Cards h5;rw[decide_eq_true (show x.Net.Bridges.length≤1152921504606846976 by omega),decide_eq_true (show x.Net.Links.length≤1152921504606846976 by omega),decide_eq_true (show x.Cards.length≤1152921504606846976 by omega),e1,e2]
 rfl
theorem Fabric.top_ok(x:Fabric)(k:Int)(h0:0≤k)(hk:k≤1000000000000)(hw:Fabric.wt x≤1048576):(decide (0≤k)&&(decide (k+Fabric.nTop x≤4611686018427387904)&&(((decide (x.Net.Bridges.length≤1152921504606846976)&&x.Net.Bridges.all (λx=>decide (x.Ports.length≤1152921504606846976)))&&decide (x.Net.Links.length≤1152921504606846976))&&(decide (x.Cards.length≤1152921504606846976)&&x.Cards.all (λx=>(decide (x.Open.length≤1152921504606846976)&&(decide (x.Members.length≤1152921504606846976)&&x.Members.all (λx=>decide (x.In.length≤1152921504606846976)))&&decide (x.Table.length≤1152921504606846976)))))))=true:=by
 have hs:=Fabric.small_of x hw;have hn:=Fabric.nTop_le x;rw[Fabric.t60 x hs,decide_eq_true h0,decide_eq_true (show k+Fabric.nTop x≤4611686018427387904 by omega)]
 rfl
theorem Za7(x:UInt8)(k:Int):byteMk (byteMk x k) k=byteMk x k:=rfl
theorem TFrame.mkTop_idem(x:TFrame)(k:Int):TFrame.mkTop (TFrame.mkTop x k) k=TFrame.mkTop x k:=by simp only[TFrame.mkTop,(Zam (mk:=byteMk) (n:=oneN) Za7 (λ_ _=>rfl) _ _).1,(Zam (mk:=byteMk) (n:=oneN) Za7 (λ_ _=>rfl) _ _).2]
theorem TFrame.nTop_mk(x:TFrame)(k:Int):TFrame.nTop (TFrame.mkTop x k)=TFrame.nTop x:=by simp only[TFrame.mkTop,TFrame.nTop,(Zam (mk:=byteMk) (n:=oneN) Za7 (λ_ _=>rfl) _ _).1,(Zam (mk:=byteMk) (n:=oneN) Za7 (λ_ _=>rfl) _ _).2]
theorem TFrame.wt_mk(x:TFrame)(k:Int):TFrame.wt (TFrame.mkTop x k)=TFrame.wt x:=by simp only[TFrame.wt,TFrame.mkTop,Za1]
theorem TFrame.nTop_le(x:TFrame):TFrame.nTop x≤64*TFrame.wt x:=by have c0:cntS oneN x.Load=1*(x.Load.length:Int):=Zb1 (λ_=>rfl) _;simp only[TFrame.nTop,TFrame.wt];omega
theorem TFrame.t60(x:TFrame)(h:TFrame.small x=true):(decide (x.Load.length≤1152921504606846976))=true:=by
 simp only[TFrame.small,Bool.and_eq_true,decide_eq_true_eq]at h;simp only[Bool.and_eq_true,decide_eq_true_eq];grind [Zdl]
theorem TFrame.top_ok(x:TFrame)(k:Int)(h0:0≤k)(hk:k≤1000000000000)(hw:TFrame.wt x≤1048576):(decide (0≤k)&&(decide (k+TFrame.nTop x≤4611686018427387904)&&(decide (x.Load.length≤1152921504606846976))))=true:=by
 have hs:=TFrame.small_of x hw;have hn:=TFrame.nTop_le x;rw[TFrame.t60 x hs,decide_eq_true h0,decide_eq_true (show k+TFrame.nTop x≤4611686018427387904 by omega)]
 rfl
theorem TFrame.mk_idem(x:TFrame)(k:Int):TFrame.mk_ (TFrame.mk_ x k) k=TFrame.mk_ x k:=by simp only[TFrame.mk_,TFrame.n_,(Zam (mk:=byteMk) (n:=oneN) Za7 (λ_ _=>rfl) _ _).1,(Zam (mk:=byteMk) (n:=oneN) Za7 (λ_ _=>rfl) _ _).2]
theorem TFrame.n_mk(x:TFrame)(k:Int):TFrame.n_ (TFrame.mk_ x k)=TFrame.n_ x:=by simp only[TFrame.mk_,TFrame.n_,(Zam (mk:=byteMk) (n:=oneN) Za7 (λ_ _=>rfl) _ _).1,(Zam (mk:=byteMk) (n:=oneN) Za7 (λ_ _=>rfl) _ _).2]
theorem TFrame.wt_mk_(x:TFrame)(k:Int):TFrame.wt (TFrame.mk_ x k)=TFrame.wt x:=by simp only[TFrame.wt,TFrame.mk_,TFrame.n_,Za1]
theorem TFrame.n_le(x:TFrame):TFrame.n_ x≤64*(1+TFrame.wt x):=by have c0:cntS oneN x.Load=1*(x.Load.length:Int):=Zb1 (λ_=>rfl) _;simp only[TFrame.mk_,TFrame.n_,TFrame.wt];omega
theorem TFrame.b60_of(x:TFrame)(h:TFrame.small x=true):(decide (x.Load.length≤1152921504606846976))=true:=by
 simp only[TFrame.small,Bool.and_eq_true,decide_eq_true_eq]at h;simp only[Bool.and_eq_true,decide_eq_true_eq];grind [Zdl]
theorem Got.mk_idem(x:Got)(k:Int):Got.mk_ (Got.mk_ x k) k=Got.mk_ x k:=by simp only[Got.mk_,Got.n_,TFrame.mk_,TFrame.n_,(Zam (mk:=byteMk) (n:=oneN) Za7 (λ_ _=>rfl) _ _).1,(Zam (mk:=byteMk) (n:=oneN) Za7 (λ_ _=>rfl) _ _).2]
theorem Got.n_mk(x:Got)(k:Int):Got.n_ (Got.mk_ x k)=Got.n_ x:=by simp only[Got.mk_,Got.n_,TFrame.mk_,TFrame.n_,(Zam (mk:=byteMk) (n:=oneN) Za7 (λ_ _=>rfl) _ _).1,(Zam (mk:=byteMk) (n:=oneN) Za7 (λ_ _=>rfl) _ _).2]
theorem Got.wt_mk_(x:Got)(k:Int):Got.wt (Got.mk_ x k)=Got.wt x:=by simp only[Got.wt,TFrame.wt,Got.mk_,Got.n_,TFrame.mk_,TFrame.n_,Za1]
theorem Got.n_le(x:Got):Got.n_ x≤64*(1+Got.wt x):=by have c0:cntS oneN x.Frame.Load=1*(x.Frame.Load.length:Int):=Zb1 (λ_=>rfl) _;simp only[Got.mk_,Got.n_,TFrame.mk_,TFrame.n_,Got.wt,TFrame.wt];omega
theorem Got.b60_of(x:Got)(h:Got.small x=true):(decide (x.Frame.Load.length≤1152921504606846976))=true:=by
 simp only[Got.small,TFrame.small,Bool.and_eq_true,decide_eq_true_eq]at h;simp only[Bool.and_eq_true,decide_eq_true_eq];grind [Zdl]
theorem Got.lok(xs:List Got)(k:Int)(h0:0≤k)(hk:k≤1000000000000)(hw:((xs.length:Int)+cntS Got.wt xs)≤1048576):(decide (0≤k)&&(decide (k+cntS Got.n_ xs≤4611686018427387904)&&(decide (xs.length≤1152921504606846976)&&xs.all (λx=>decide (x.Frame.Load.length≤1152921504606846976)))))=true:=by
 have c0:=Zfh Got.n_le xs;have d0:=Zag (n:=Got.wt) Got.wt_pos xs;have hs:=Zdo Got.wt_pos Got.small_of xs (by omega)
 simp only[Bool.and_eq_true,decide_eq_true_eq];exact⟨h0,by omega,by omega,Zdl Got.b60_of _ hs⟩
theorem Got.lsm(xs:List Got)(hw:((xs.length:Int)+cntS Got.wt xs)≤1048576):((decide (xs.length≤1048576)&&xs.all Got.small))=true:=by
 have c0:=Zfh Got.n_le xs;have d0:=Zag (n:=Got.wt) Got.wt_pos xs;rw[Bool.and_eq_true];exact⟨decide_eq_true (by omega),Zdo Got.wt_pos Got.small_of xs (by omega)⟩
theorem Znn:∀bs:List Bridge,(∀b∈bs,b.Ports.length≤4)→cntS Bridge.wt bs≤4*(bs.length:Int)
 |[],_=>Int.le_refl 0
 |b::bs,h=>by
  have h1:=h b List.mem_cons_self;have h2:=Znn bs (λc hc=>h c (List.mem_cons_of_mem _ hc));unfold cntS;rw[List.length_cons];have h3:Bridge.wt b=(b.Ports.length:Int):=rfl
  push_cast
  omega
theorem Zlj:∀(l:List Int) (q:Int),q≤4→memL (some q) l=true→(l.length:Int)≤4-q
 |[],q,hq,_=>by show(0:Int)≤4-q;omega
 |n::ns,q,hq,h=>by
  rw[Zgc]at h;unfold inR at h;simp only[Bool.and_eq_true,decide_eq_true_eq]at h;have:=Zlj ns n h.1.2 h.2.2;rw[List.length_cons]
  push_cast
  omega
theorem Ztt{l:List Int}(h:memL none l=true):l.length≤4:=by
 cases l with
 |nil=>exact Nat.zero_le _
 |cons n ns=>
  rw[Zgc]at h;unfold inR at h;simp only[Bool.and_eq_true,decide_eq_true_eq]at h;have:=Zlj ns n h.1.2 h.2.2;rw[List.length_cons];omega
theorem Ztv:∀ms:List Member,(∀m∈ms,memberOk m=true)→cntS Member.wt ms≤4*(ms.length:Int)
 |[],_=>Int.le_refl 0
 |m::ms,h=>by
  have h1:=h m List.mem_cons_self;unfold memberOk at h1;rw[Bool.and_eq_true]at h1;have h2:=Ztt h1.1;have h3:=Ztv ms (λc hc=>h c (List.mem_cons_of_mem _ hc));unfold cntS;rw[List.length_cons];have h4:Member.wt m=(m.In.length:Int):=rfl
  push_cast
  omega
theorem Zs5{c:Card}(h:cardOk c=true):Card.wt c≤36:=by
 unfold cardOk inR tableOk at h;simp only[Bool.and_eq_true,decide_eq_true_eq,List.all_eq_true]at h;obtain⟨h1,h2,h3,_,h4⟩:=h;have h5:=Ztv c.Members h1;unfold Card.wt;omega
theorem Zjd:∀cs:List Card,(∀c∈cs,cardOk c=true)→cntS Card.wt cs≤36*(cs.length:Int)
 |[],_=>Int.le_refl 0
 |c::cs,h=>by
  have h1:=Zs5 (h c List.mem_cons_self);have h2:=Zjd cs (λx hx=>h x (List.mem_cons_of_mem _ hx));unfold cntS;rw[List.length_cons]
  push_cast
  omega
theorem Zu9{c:Card}{p:Int}{f:TFrame}(h:cardOk c=true):cardOk (passC c p f)=true:=by
 unfold passC;cases passOk c p f
 ·exact h
 ·unfold cardOk at h⊢;simp only[cond_true,Bool.and_eq_true]at h⊢;refine⟨h.1,h.2.1,h.2.2.1,?_⟩;unfold hearL;cases hk:tableOk (hearI c.Table (insideF (memAt c p) f).From (insideF (memAt c p) f).Vlan p)
  ·exact h.2.2.2
  ·exact hk
theorem Zlt{n:Net}{b:Int}:∀(l:List Out1) (st:List Got×List TRide),(∀o∈l,o.Frame.Load.length≤30)→(∀g∈st.1,g.Frame.Load.length≤30)→(∀g∈(outC n b st l).1,g.Frame.Load.length≤30)∧(outC n b st l).1.length≤st.1.length+l.length
 |[],st,_,h=>⟨h,Nat.le_refl _⟩
 |o::l,st,ho,h=>by
  have h1:(∀g∈(stepC n b st o).1,g.Frame.Load.length≤30)∧(stepC n b st o).1.length≤st.1.length+1:=by
   unfold stepC;cases o.Port==3
   ·cases (acrossB n ⟨b,o.Port⟩).2
    ·exact⟨h,by simp⟩
    ·exact⟨h,by simp⟩
   ·refine⟨λg hg=>?_,by simp⟩
    rcases List.mem_append.1 hg with hg|hg
    ·exact h g hg
    ·have:g=⟨b,o.Frame⟩:=by simpa using hg
     rw[this];exact ho o List.mem_cons_self
  obtain⟨a1,a2⟩:=Zlt l (stepC n b st o) (λx hx=>ho x (List.mem_cons_of_mem _ hx)) h1.1;rw[Ze3];exact⟨a1,by rw[List.length_cons];omega⟩
theorem Zhz{n:Net}:∀(k:Nat) (cs:List Card) (g:List Got) (rs:List TRide),(∀c∈cs,cardOk c=true)→(∀x∈g,x.Frame.Load.length≤30)→
  (∀c∈(carryL n k cs g rs).1,cardOk c=true)∧(carryL n k cs g rs).1.length=cs.length∧(∀x∈(carryL n k cs g rs).2,x.Frame.Load.length≤30)∧(carryL n k cs g rs).2.length≤g.length+4*k
 |0,cs,g,_,h1,h2=>⟨h1,rfl,h2,Nat.le_refl _⟩
 |k+1,cs,g,[],h1,h2=>⟨h1,rfl,h2,by show g.length≤_;omega⟩
 |k+1,cs,g,r::rs,h1,h2=>by
  have hp:=Zio (cs.getD r.at_.bridge.toNat noCard) r.at_.port r.frame;obtain⟨a1,a2⟩:=Zlt (n:=n) (b:=r.at_.bridge) (passO (cs.getD r.at_.bridge.toNat noCard) r.at_.port r.frame) (g,rs) (λo ho=>by have:=Zha ho;rw[this.1];exact this.2) h2
  obtain⟨b1,b2,b3,b4⟩:=Zhz (n:=n) k (cs.set r.at_.bridge.toNat (passC (cs.getD r.at_.bridge.toNat noCard) r.at_.port r.frame)) (outC n r.at_.bridge (g,rs) (passO (cs.getD r.at_.bridge.toNat noCard) r.at_.port r.frame)).1 (outC n r.at_.bridge (g,rs) (passO (cs.getD r.at_.bridge.toNat noCard) r.at_.port r.frame)).2 (λc hc=>by
   rcases Nat.lt_or_ge r.at_.bridge.toNat cs.length with hl|hl
   ·rcases List.mem_or_eq_of_mem_set hc with hc|hc
    ·exact h1 c hc
    ·rw[hc];refine Zu9 (h1 _ ?_);rw[List.getD_eq_getElem?_getD,List.getElem?_eq_getElem hl];exact List.getElem_mem hl
   ·rw[List.set_eq_of_length_le hl]at hc;exact h1 c hc) a1
  simp only[carryL];simp only at a2;exact⟨b1,b2.trans (List.length_set ..),b3,by omega⟩
theorem Zlb{f:Fabric}(h:fabOk f=true):(∀c∈f.Cards,cardOk c=true)∧Net.wt f.Net+(f.Cards.length:Int)≤100:=by
 unfold fabOk hostsB at h;simp only[Bool.and_eq_true,decide_eq_true_eq]at h;obtain⟨⟨_,hn⟩,hl,hc⟩:=h;have h1:=Znn f.Net.Bridges (Znj hn);have h2:=Zfq hn;have hall:∀(cs:List Card) (bs:List Bridge),fabL cs bs=true→∀c∈cs,cardOk c=true:=by
  intro cs;induction cs with
  |nil=>intro bs _ c hc;cases hc
  |cons c cs ih=>
   intro bs h d hd;cases bs with
   |nil=>cases h
   |cons b bs=>
    rw[Zh2]at h;simp only[Bool.and_eq_true]at h;rcases List.mem_cons.1 hd with rfl|hd
    ·exact h.1
    ·exact ih bs h.2.2 d hd
 refine⟨hall _ _ hc,?_⟩;unfold Net.wt;omega
theorem Zs6(f:Fabric)(fr:Int)(x:TFrame)(h:Fabric.wt f≤1048576):Fabric.wt (carryF f fr x)≤1048576:=by
 unfold carryF;cases hk:carryOk f fr
 ·exact h
 ·unfold carryOk at hk;rw[Bool.and_eq_true]at hk;obtain⟨h1,h2⟩:=Zlb hk.2;obtain⟨a1,a2,_,_⟩:=Zhz (n:=f.Net) 80 f.Cards [] [⟨⟨fr,3⟩,x⟩] h1 (λ_ h=>by cases h)
  have h3:=Zjd _ a1;show Net.wt f.Net+(((carryL f.Net 80 f.Cards [] [⟨⟨fr,3⟩,x⟩]).1.length:Int)+cntS Card.wt (carryL f.Net 80 f.Cards [] [⟨⟨fr,3⟩,x⟩]).1)≤1048576;have h4:0≤Net.wt f.Net:=Net.wt_pos f.Net;omega
theorem Ztg:∀gs:List Got,(∀g∈gs,g.Frame.Load.length≤30)→cntS Got.wt gs≤30*(gs.length:Int)
 |[],_=>Int.le_refl 0
 |g::gs,h=>by
  have h1:=h g List.mem_cons_self;have h2:=Ztg gs (λx hx=>h x (List.mem_cons_of_mem _ hx));unfold cntS;rw[List.length_cons];have h3:Got.wt g=(g.Frame.Load.length:Int):=rfl
  push_cast
  omega
theorem Zs7(f:Fabric)(fr:Int)(x:TFrame):((carryG f fr x).length:Int)+cntS Got.wt (carryG f fr x)≤1048576:=by
 unfold carryG;cases hk:carryOk f fr
 ·show(0:Int)+0≤_;decide
 ·unfold carryOk at hk;rw[Bool.and_eq_true]at hk;obtain⟨h1,_⟩:=Zlb hk.2;obtain⟨_,_,a3,a4⟩:=Zhz (n:=f.Net) 80 f.Cards [] [⟨⟨fr,3⟩,x⟩] h1 (λ_ h=>by cases h)
  have h3:=Ztg _ a3;simp only[cond_true,List.length_nil]at a4⊢;omega
end Go.Md
namespace Go.Ev
open Go.Md
end Go.Ev
end
