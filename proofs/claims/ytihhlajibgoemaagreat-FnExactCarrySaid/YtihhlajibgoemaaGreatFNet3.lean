/- Contracts of functions, each by its evaluation. -/
import Derived.Test.YtihhlajibgoemaaGreatEvMd
import Derived.Test.YtihhlajibgoemaaGreatProg
import Derived.KernelRfl
import Derived.Test.YtihhlajibgoemaaGreatFFabnew
set_option linter.unusedVariables false
set_option linter.unusedSimpArgs false
set_option maxRecDepth 100000
noncomputable section
open List (getD length drop take set append replicate all isEmpty)
open Int (toNat ofNat)
open Go.IntKind (i64 wrap)
open Go.Proofs.Tryz (prog f26 f34 f70 f71 func26 func34 func70 func71)
namespace Go.Ev
open Go.RowKit Go.Md
end Go.Ev
namespace Go.Md
open Go Go.Ev
def acrX(n:Net)(b p:Int):TEnd×Bool:=bif netOk n then(bif (acrossB n ⟨b,p⟩).2 then acrossB n ⟨b,p⟩else(⟨0,0⟩,false))else(⟨0,0⟩,false)
theorem Zig{n:Net}(h:netIn n=true):Net.small n=true:=by
 unfold netIn at h;exact(Bool.and_eq_true _ _▸h).1
theorem Zni{n:Net}(h:netIn n=true){k:Nat}(hk:k<n.Links.length):∃(a p b q:Nat) (ha:a<n.Bridges.length) (_:p<n.Bridges[a].Ports.length) (hb:b<n.Bridges.length) (_:q<n.Bridges[b].Ports.length),n.Links[k]=⟨Int.ofNat a,Int.ofNat p,Int.ofNat b,Int.ofNat q⟩:=by
 unfold netIn at h;simp only[Bool.and_eq_true,List.all_eq_true]at h;have:=h.2 _ (List.getElem_mem hk);unfold linkIn at this;rw[Bool.and_eq_true]at this;obtain⟨a,ha,p,hp,e1⟩:=Zdu this.1;obtain⟨b,hb,q,hq,e2⟩:=Zdu this.2;refine⟨a,p,b,q,ha,hp,hb,hq,?_⟩;unfold endA at e1;unfold endB at e2;injection e1 with e3 e4;injection e2 with e5 e6;generalize n.Links[k]=l at *;obtain⟨l1,l2,l3,l4⟩:=l;simp only at e3 e4 e5 e6;subst e3 e4 e5 e6;rfl
theorem Zjs{n:Net}{k:Nat}(hk:k<n.Links.length){a p b q:Nat}{ha:a<n.Bridges.length}(hp:p<n.Bridges[a].Ports.length){hb:b<n.Bridges.length}(hq:q<n.Bridges[b].Ports.length)(he:n.Links[k]=⟨Int.ofNat a,Int.ofNat p,Int.ofNat b,Int.ofNat q⟩):
  passL n n.Links[k]=(n.Bridges[a].Ports[p].Open&&n.Bridges[b].Ports[q].Open):=by
 unfold passL;rw[he];exact congr (congrArg and (Zjp n a p ha hp)) (Zjp n b q hb hq)
theorem Zip(n:Net){k:Nat}(hk:k<n.Links.length):passesB n (Int.ofNat k)=passL n n.Links[k]:=by
 unfold passesB;rw[Zac];simp[hk]
theorem Zwo(e:TEnd):∀(ls:List Link) (k:Int),(visL e ls k).2=-1∨(k≤(visL e ls k).2∧(visL e ls k).2<k+(ls.length:Int))
 |[],k=>.inl rfl
 |l::ls,k=>by
  simp only[visL,List.length_cons];cases sameE (endA l) e
  ·cases sameE (endB l) e
   ·simp only[cond_false];rcases Zwo e ls (k+1)with h|⟨h1,h2⟩
    ·exact .inl h
    ·exact .inr ⟨by omega,by push_cast;omega⟩
   ·exact .inr ⟨Int.le_refl _,by simp only[cond_false,cond_true];push_cast;omega⟩
  ·exact .inr ⟨Int.le_refl _,by simp only[cond_true];push_cast;omega⟩
theorem Zt0{n:Net}{e:TEnd}(h:decide ((otherB n e).2≥0)=true):∃k:Nat,k<n.Links.length∧(otherB n e).2=Int.ofNat k:=by
 have h:=of_decide_eq_true h;unfold otherB at h⊢;rcases Zwo e n.Links 0 with h1|⟨h1,h2⟩
 ·omega
 ·exact⟨(visL e n.Links 0).2.toNat,by omega,by show _=((_:Nat):Int);omega⟩
theorem Zj7(n:Net)(e:TEnd):∀ls:List Link,(∀x∈endsL ls,e≠x)→acrS n e ls=(⟨0,0⟩,false)
 |[],_=>rfl
 |l::ls,h=>by
  have he:endsL (l::ls)=endA l::endB l::endsL ls:=rfl;rw[he]at h;have h1:sameE (endA l) e=false:=Bool.eq_false_iff.2 (λhx=>h (endA l) (by simp) (Zb5.1 hx).symm)
  have h2:sameE (endB l) e=false:=Bool.eq_false_iff.2 (λhx=>h (endB l) (by simp) (Zb5.1 hx).symm)
  simp only[acrS,h1,h2,cond_false,Zj7 n e ls (λx hx=>h x (by simp[hx]))]
  cases passL n l<;>rfl
theorem Zsu(n:Net)(e:TEnd):∀(ls:List Link) (k:Int),distE (endsL ls)→(visL e ls k=(⟨0,0⟩,-1)∧acrS n e ls=(⟨0,0⟩,false))∨∃(j:Nat) (hj:j<ls.length),(visL e ls k).2=k+(j:Int)∧acrS n e ls=(bif passL n ls[j]then((visL e ls k).1,true)else(⟨0,0⟩,false))
 |[],k,_=>.inl ⟨rfl,rfl⟩
 |l::ls,k,hd=>by
  have he:endsL (l::ls)=endA l::endB l::endsL ls:=rfl;rw[he]at hd;obtain⟨hA,hd⟩:=List.pairwise_cons.1 hd;obtain⟨hB,hd⟩:=List.pairwise_cons.1 hd;simp only[visL,acrS];cases h1:sameE (endA l) e
  ·cases h2:sameE (endB l) e
   ·simp only[cond_false];have hp:(bif passL n l then acrS n e ls else acrS n e ls)=acrS n e ls:=by cases passL n l<;>rfl
    rw[hp];rcases Zsu n e ls (k+1) hd with⟨a,b⟩|⟨j,hj,a,b⟩
    ·exact .inl ⟨a,b⟩
    ·exact .inr ⟨j+1,by simpa using hj,by push_cast;omega,by simpa using b⟩
   ·have:=Zb5.1 h2;subst this;refine .inr ⟨0,by simp,by simp,?_⟩
    simp only[cond_false,cond_true,Zj7 n _ ls hB,List.getElem_cons_zero]
  ·have:=Zb5.1 h1;subst this;refine .inr ⟨0,by simp,by simp,?_⟩
   simp only[cond_true,Zj7 n _ ls (λx hx=>hA x (by simp[hx])),List.getElem_cons_zero]
theorem Zfq{n:Net}(h:netOk n=true):distE (endsL n.Links)∧n.Links.all (linkIn n)=true∧n.Links.length≤6∧(1≤n.Bridges.length∧n.Bridges.length≤5):=by
 unfold netOk linksB at h;simp only[Bool.and_eq_true,decide_eq_true_eq]at h;obtain⟨_,h0,h1,h2,h3⟩:=h;obtain⟨a,_,b⟩:=(Zg3 n n.Links []).1 h1;have h0:=Zih h0;refine⟨b,List.all_eq_true.2 (λl hl=>?_),h3,by omega,by omega⟩
 unfold linkIn;rw[(a l hl).2.1,(a l hl).2.2];rfl
theorem Znh{n:Net}(hs:Net.small n=true)(h:netOk n=true):netIn n=true:=by
 unfold netIn;rw[hs,(Zfq h).2.1];rfl
theorem Zps{n:Net}(h:netOk n=true)(e:TEnd):acrS n e n.Links=bif (acrossB n e).2 then acrossB n e else(⟨0,0⟩,false):=by
 unfold acrossB;rcases Zsu n e n.Links 0 (Zfq h).1 with⟨a,b⟩|⟨j,hj,a,b⟩
 ·rw[b];unfold otherB;rw[a];rfl
 ·have a':(otherB n e).2=Int.ofNat j:=by unfold otherB;rw[a];show(0:Int)+(j:Int)=(j:Int);omega
  have hd:decide ((otherB n e).2≥0)=true:=by rw[a'];exact decide_eq_true (by show(0:Int)≤(j:Int);omega)
  rw[hd,a',Zip n hj,b];simp only[Bool.true_and];cases passL n n.Links[j]<;>rfl
end Go.Md
namespace Go.Ev
open Go.Md
def o70(n_:Net)(e:TEnd):Bool×List Row×List Row:=(Net.small n_,[[.int .i64 ((otherB n_ e).1).bridge,.int .i64 ((otherB n_ e).1).port],[.int .i64 ((otherB n_ e).2)]],[])
def c70:Contract:=(cp zp18 λn_=>cp zp24 λe=>c0 (o70 n_ e)) true
def k70_0:KT:=λn↦kThen (λst↦rC 70 T59 n f70 [1,1] 48 [] 48 st (lV f70 [] [])) (lV f70 [] [])
def k70_1:KT:=λn↦kBlock (0) (k70_0 n)
def S70_0(n_:Net)(e:TEnd)(i0:Int):St:=St.mk (U_::U_::U_::V_ [C.ptr 0 0 0 [] 2 0 0]::V_ [C.ptr 1 0 0 [] 2 0 0]::u_ 8 (V_ [C.d (D.sl false 4 (enS false (Net.Links n_)))]::I_ (ofNat (length (enS false (Net.Links n_))))::I_ i0::u_ 21 [])) [Root.mk true 2 [[D.int i64 (TEnd.bridge e),D.int i64 (TEnd.port e)]] 0 0 true true false [] 0 [],Root.mk true 2 [[D.int i64 (0),D.int i64 (0)]] 0 0 true true false [] 0 []]
def B70_0:BT:=λn↦rC 70 T59 n f70 [1,0,1,0,0] 57368 [(0,16)] 48
def y70_1(i0:Int)(n_:Net):=getD (enS false (Net.Links n_)) (toNat i0) []
def y70_0(i0:Int)(n_:Net):=Link.mk (D.num (getD (y70_1 i0 n_) 0 D.dead)) (D.num (getD (y70_1 i0 n_) 1 D.dead)) (D.num (getD (y70_1 i0 n_) 2 D.dead)) (D.num (getD (y70_1 i0 n_) 3 D.dead))
def X70_2(n_:Net)(e:TEnd)(i0:Int):St:=St.mk (u_ 4 (V_ [C.ptr 1 0 0 [] 2 0 0]::I_ i0::u_ 31 [])) [Root.mk true 2 [[D.int i64 (TEnd.bridge e),D.int i64 (TEnd.port e)]] 0 0 true true false [] 0 [],Root.mk true 2 [[D.int i64 (TEnd.bridge (endB (y70_0 i0 n_))),D.int i64 (TEnd.port (endB (y70_0 i0 n_)))]] 0 0 true true false [] 0 [],Root.mk true 4 [[D.int i64 (D.num (getD (y70_1 i0 n_) 0 D.dead)),D.int i64 (D.num (getD (y70_1 i0 n_) 1 D.dead)),D.int i64 (D.num (getD (y70_1 i0 n_) 2 D.dead)),D.int i64 (D.num (getD (y70_1 i0 n_) 3 D.dead))]] 0 0 true true false [] 0 [],Root.mk true 2 [[D.int i64 (TEnd.bridge (endA (y70_0 i0 n_))),D.int i64 (TEnd.port (endA (y70_0 i0 n_)))]] 0 0 true true false [] 0 [],Root.mk true 2 [[D.int i64 (TEnd.bridge (endB (y70_0 i0 n_))),D.int i64 (TEnd.port (endB (y70_0 i0 n_)))]] 0 0 true true false [] 0 []]
def X70_3(n_:Net)(e:TEnd)(i0:Int):St:=St.mk (u_ 4 (V_ [C.ptr 1 0 0 [] 2 0 0]::I_ i0::u_ 31 [])) [Root.mk true 2 [[D.int i64 (TEnd.bridge e),D.int i64 (TEnd.port e)]] 0 0 true true false [] 0 [],Root.mk true 2 [[D.int i64 (TEnd.bridge (endA (y70_0 i0 n_))),D.int i64 (TEnd.port (endA (y70_0 i0 n_)))]] 0 0 true true false [] 0 [],Root.mk true 4 [[D.int i64 (D.num (getD (y70_1 i0 n_) 0 D.dead)),D.int i64 (D.num (getD (y70_1 i0 n_) 1 D.dead)),D.int i64 (D.num (getD (y70_1 i0 n_) 2 D.dead)),D.int i64 (D.num (getD (y70_1 i0 n_) 3 D.dead))]] 0 0 true true false [] 0 [],Root.mk true 2 [[D.int i64 (TEnd.bridge (endA (y70_0 i0 n_))),D.int i64 (TEnd.port (endA (y70_0 i0 n_)))]] 0 0 true true false [] 0 [],Root.mk true 2 [[D.int i64 (TEnd.bridge (endB (y70_0 i0 n_))),D.int i64 (TEnd.port (endB (y70_0 i0 n_)))]] 0 0 true true false [] 0 []]
def X70_4(e:TEnd):St:=St.mk (u_ 4 (V_ [C.ptr 1 0 0 [] 2 0 0]::u_ 32 [])) [Root.mk true 2 [[D.int i64 (TEnd.bridge e),D.int i64 (TEnd.port e)]] 0 0 true true false [] 0 [],Root.mk true 2 [[D.int i64 (0),D.int i64 (0)]] 0 0 true true false [] 0 []]
theorem Z1v(n_:Net)(e:TEnd)(n:Nat)(i0:Int)(f:St→RR)(K:Ex→St→RR):B70_0 n (S70_0 n_ e i0) (kThen (λst↦f (St.head 2 57368 68719444960 st)) K)=bif decide (i0<ofNat (length (enS false (Net.Links n_))))then bif decide (0≤i0)&&decide (i0<ofNat (length (enS false (Net.Links n_))))then bif Leaf.fit false (Leaf.int i64) (getD (y70_1 i0 n_) 0 D.dead)&&(Leaf.fit false (Leaf.int i64) (getD (y70_1 i0 n_) 1 D.dead)&&(Leaf.fit false (Leaf.int i64) (getD (y70_1 i0 n_) 2 D.dead)&&(Leaf.fit false (Leaf.int i64) (getD (y70_1 i0 n_) 3 D.dead)&&true)))then bif TEnd.bridge (endA (y70_0 i0 n_))==TEnd.bridge e&&(TEnd.port (endA (y70_0 i0 n_))==TEnd.port e&&true)then K Ex.ret (X70_2 n_ e i0)else bif TEnd.bridge (endB (y70_0 i0 n_))==TEnd.bridge e&&(TEnd.port (endB (y70_0 i0 n_))==TEnd.port e&&true)then K Ex.ret (X70_3 n_ e i0)else f (S70_0 n_ e (wrap i64 (i0+1)))else none else none else K (Ex.exit 0) (X70_4 e):=by kernel_rfl
theorem Zzo(n_:Net)(e:TEnd)(n:Nat)(i0:Int):k70_1 n Ex.ret (X70_2 n_ e i0)=some ([[D.int i64 (TEnd.bridge (endB (y70_0 i0 n_))),D.int i64 (TEnd.port (endB (y70_0 i0 n_)))],[D.int i64 i0]],[]):=by kernel_rfl
theorem Zzp(n_:Net)(e:TEnd)(n:Nat)(i0:Int):k70_1 n Ex.ret (X70_3 n_ e i0)=some ([[D.int i64 (TEnd.bridge (endA (y70_0 i0 n_))),D.int i64 (TEnd.port (endA (y70_0 i0 n_)))],[D.int i64 i0]],[]):=by kernel_rfl
theorem Zzq(e:TEnd)(n:Nat):k70_1 n (Ex.exit 0) (X70_4 e)=some ([[D.int i64 (0),D.int i64 (0)],[D.int i64 (Int.negSucc 0)]],[]):=by kernel_rfl
def e70(n_:Net)(e:TEnd)(n:Nat):=evFn ⟨prog,Hx,70⟩ T59.call n f70 [zp18.row n_,zp24.row e]
theorem r70(n_:Net)(e:TEnd)(n:Nat):e70 n_ e n=loopRun (B70_0 n) 2 57368 68719444960 n (S70_0 n_ e (0)) (k70_1 n):=by kernel_rfl
theorem m70(n_:Net)(e:TEnd):(o70 n_ e).1=true→e70 n_ e (n_.Links.length+1)=some (o70 n_ e).2:=by
 refine pm λhpre=>(r70 n_ e _).trans ?_;obtain⟨hs1,hs2,hs3⟩:=Zbg hpre;refine Zai (xs:=n_.Links) (λi (_:Unit)=>S70_0 n_ e (Int.ofNat i)) (λ_ _=>True) (λi _ rest=>some ([[D.int .i64 (visL e rest (Int.ofNat i)).1.bridge,D.int .i64 (visL e rest (Int.ofNat i)).1.port],[D.int .i64 (visL e rest (Int.ofNat i)).2]],[])) ?_ ?_ (n_.Links.length+1) () (by omega) trivial
 ·rintro _ _ f;refine(Z1v n_ e _ _ f _).trans ?_;delta y70_0 y70_1;rw[Zaw,cond_false];exact Zzq _ _
 ·rintro i _ hi _ f hf;refine(Z1v n_ e _ _ f _).trans ?_;delta y70_0 y70_1;simp only[gos,En.enc,D.num,D.flag,D.text,D.rows,Leaf.fit,Zbo,Zab _ hi,hi,Zae (show i<4611686018427387904 by omega)]
  have h1:((endA n_.Links[i]).bridge==e.bridge&&(endA n_.Links[i]).port==e.port)=sameE (endA n_.Links[i]) e:=rfl;have h2:((endB n_.Links[i]).bridge==e.bridge&&(endB n_.Links[i]).port==e.port)=sameE (endB n_.Links[i]) e:=rfl;have hc:Int.ofNat i+1=Int.ofNat (i+1):=rfl;simp only[h1,h2,visL];have hl:=Zab (α:=Link) false hi;cases ha:sameE (endA n_.Links[i]) e
  ·cases hb:sameE (endB n_.Links[i]) e
   ·simp only[cond_false];exact hf () trivial
   ·simp only[cond_false,cond_true];refine(Zzp _ _ _ _).trans ?_;delta y70_0 y70_1;simp only[gos,En.enc,D.num,D.flag,D.text,D.rows,Leaf.fit,Zbo,Zab _ hi,hi]
  ·simp only[cond_true];refine(Zzo _ _ _ _).trans ?_;delta y70_0 y70_1;simp only[gos,En.enc,D.num,D.flag,D.text,D.rows,Leaf.fit,Zbo,Zab _ hi,hi]
def T70:Table:=(70,c70)::T59
theorem Zry:Table.Sound prog Hx T70:=sa Zrn func70 (by kernel_rfl) (Zah λn_=>Zah λe=>Zan λh=>⟨_,m70 n_ e h⟩)
def o71(n_:Net)(link:Int):Bool×List Row×List Row:=(netIn n_&&inR link 0 ((n_.Links.length:Int)-1),[[.bool (passesB n_ link)]],[])
def c71:Contract:=(cp zp18 λn_=>cp zp0 λlink=>c0 (o71 n_ link)) true
def e71(n_:Net)(link:Int)(n:Nat):=evFn ⟨prog,Hx,71⟩ T70.call n f71 [zp18.row n_,zp0.row link]
def y71_0(link:Int)(n_:Net):=getD (enS false (Net.Links n_)) (toNat link) []
def y71_1(link:Int)(n_:Net):=getD (drop 1 (getD (enS false (Net.Bridges n_)) (toNat (D.num (getD (y71_0 link n_) 0 D.dead))) [])) 0 D.dead
def y71_2(link:Int)(n_:Net):=getD (drop 1 (getD (enS false (Net.Bridges n_)) (toNat (D.num (getD (y71_0 link n_) 2 D.dead))) [])) 0 D.dead
theorem r71(n_:Net)(link:Int)(n:Nat):e71 n_ link n=bif decide (0≤link)&&decide (link<ofNat (length (enS false (Net.Links n_))))then bif Leaf.fit false (Leaf.int i64) (getD (y71_0 link n_) 0 D.dead)&&(Leaf.fit false (Leaf.int i64) (getD (y71_0 link n_) 1 D.dead)&&(Leaf.fit false (Leaf.int i64) (getD (y71_0 link n_) 2 D.dead)&&(Leaf.fit false (Leaf.int i64) (getD (y71_0 link n_) 3 D.dead)&&true)))then bif decide (0≤D.num (getD (y71_0 link n_) 0 D.dead))&&decide (D.num (getD (y71_0 link n_) 0 D.dead)<ofNat (length (enS false (Net.Bridges n_))))then bif Leaf.fit false (Leaf.sl 11 true) (y71_1 link n_)&&true then bif decide (0≤D.num (getD (y71_0 link n_) 1 D.dead))&&decide (D.num (getD (y71_0 link n_) 1 D.dead)<ofNat (length (D.rows (y71_1 link n_))))then bif Leaf.fit false Leaf.bool (getD (drop 10 (getD (D.rows (y71_1 link n_)) (toNat (D.num (getD (y71_0 link n_) 1 D.dead))) [])) 0 D.dead)&&true then bif D.flag (getD (drop 10 (getD (D.rows (y71_1 link n_)) (toNat (D.num (getD (y71_0 link n_) 1 D.dead))) [])) 0 D.dead)then bif decide (0≤D.num (getD (y71_0 link n_) 2 D.dead))&&decide (D.num (getD (y71_0 link n_) 2 D.dead)<ofNat (length (enS false (Net.Bridges n_))))then bif Leaf.fit false (Leaf.sl 11 true) (y71_2 link n_)&&true then bif decide (0≤D.num (getD (y71_0 link n_) 3 D.dead))&&decide (D.num (getD (y71_0 link n_) 3 D.dead)<ofNat (length (D.rows (y71_2 link n_))))then bif Leaf.fit false Leaf.bool (getD (drop 10 (getD (D.rows (y71_2 link n_)) (toNat (D.num (getD (y71_0 link n_) 3 D.dead))) [])) 0 D.dead)&&true then some ([[D.bool (D.flag (getD (drop 10 (getD (D.rows (y71_2 link n_)) (toNat (D.num (getD (y71_0 link n_) 3 D.dead))) [])) 0 D.dead))]],[])else none else none else none else none else some ([[D.bool false]],[])else none else none else none else none else none else none:=by kernel_rfl
theorem m71(n_:Net)(link:Int):(o71 n_ link).1=true→e71 n_ link 0=some (o71 n_ link).2:=by
 refine pm λhpre=>(r71 n_ link _).trans ?_;delta y71_0 y71_1 y71_2;rw[Bool.and_eq_true]at hpre;obtain⟨h1,h2⟩:=hpre;have h2:=Zih h2;obtain⟨k,rfl⟩:=Int.eq_ofNat_of_zero_le h2.1;have hk:k<n_.Links.length:=by omega
 obtain⟨a,p,b,q,ha,hp,hb,hq,he⟩:=Zni h1 hk;have hg:(enS false n_.Links).getD k []=En.enc false (⟨Int.ofNat a,Int.ofNat p,Int.ofNat b,Int.ofNat q⟩:Link):=by rw[Zab false hk,he]
 rw[show((k:Nat):Int)=Int.ofNat k from rfl,Zip n_ hk,Zjs hk hp hq he];simp only[gos,En.enc,D.num,D.flag,D.text,D.rows,Leaf.fit,Zbo,hg,hk,Zab _ ha,ha,Zab _ hp,hp,Zab _ hb,hb,Zab _ hq,hq,List.drop_succ_cons,List.drop_zero,beq_self_eq_true];cases n_.Bridges[a].Ports[p].Open<;>rfl
def T71:Table:=(71,c71)::T70
theorem Zrz:Table.Sound prog Hx T71:=sa Zry func71 (by kernel_rfl) (Zah λn_=>Zah λlink=>Zan λh=>⟨_,m71 n_ link h⟩)
def o34(n_:Net)(e:TEnd):Bool×List Row×List Row:=(netIn n_,[[.int .i64 ((acrossB n_ e).1).bridge,.int .i64 ((acrossB n_ e).1).port],[.bool ((acrossB n_ e).2)]],[])
def c34:Contract:=(cp zp18 λn_=>cp zp24 λe=>c0 (o34 n_ e)) true
def e34(n_:Net)(e:TEnd)(n:Nat):=evFn ⟨prog,Hx,34⟩ T71.call n f34 [zp18.row n_,zp24.row e]
def y34_0(n_:Net):=Net.mk (deS Bridge (enS false (Net.Bridges n_))) (deS Link (enS false (Net.Links n_)))
theorem r34(n_:Net)(e:TEnd)(n:Nat):e34 n_ e n=bif isS Bridge false (enS false (Net.Bridges n_))&&isS Link false (enS false (Net.Links n_))&&Net.small (y34_0 n_)then bif decide (Prod.snd (otherB (y34_0 n_) e)≥0)then bif isS Bridge false (enS false (Net.Bridges n_))&&isS Link false (enS false (Net.Links n_))&&(netIn (y34_0 n_)&&inR (Prod.snd (otherB (y34_0 n_) e)) (0) (ofNat (length (deS Link (enS false (Net.Links n_))))-1))then some ([[D.int i64 (TEnd.bridge (Prod.fst (otherB (y34_0 n_) e))),D.int i64 (TEnd.port (Prod.fst (otherB (y34_0 n_) e)))],[D.bool (passesB (y34_0 n_) (Prod.snd (otherB (y34_0 n_) e)))]],[])else none else some ([[D.int i64 (TEnd.bridge (Prod.fst (otherB (y34_0 n_) e))),D.int i64 (TEnd.port (Prod.fst (otherB (y34_0 n_) e)))],[D.bool false]],[])else none:=by kernel_rfl
theorem m34(n_:Net)(e:TEnd):(o34 n_ e).1=true→e34 n_ e 0=some (o34 n_ e).2:=by
 refine pm λhpre=>(r34 n_ e _).trans ?_;delta y34_0;simp only[gos,Bool.and_self,decide_true,decide_false,Zas,Zbo];simp only[Zig hpre,hpre,cond_true,Bool.true_and];cases h:decide ((otherB n_ e).2≥0)
 ·simp only[cond_false];unfold acrossB;rw[h];rfl
 ·obtain⟨k,hk,he⟩:=Zt0 h;have hin:inR (otherB n_ e).2 0 (Int.ofNat n_.Links.length-1)=true:=by
   rw[he];unfold inR;simp;omega
  simp only[hin,cond_true];unfold acrossB;rw[h];rfl
def T34:Table:=(34,c34)::T71
theorem Zqy:Table.Sound prog Hx T34:=sa Zrz func34 (by kernel_rfl) (Zah λn_=>Zah λe=>Zan λh=>⟨_,m34 n_ e h⟩)
def o26(n_:Net)(b:Int)(p:Int):Bool×List Row×List Row:=(netIn n_,[[.int .i64 ((acrS n_ ⟨b,p⟩ n_.Links).1.bridge)],[.int .i64 ((acrS n_ ⟨b,p⟩ n_.Links).1.port)],[.bool ((acrS n_ ⟨b,p⟩ n_.Links).2)]],[])
def c26:Contract:=(cp zp18 λn_=>cp zp0 λb=>cp zp0 λp=>c0 (o26 n_ b p)) true
def k26_0:KT:=λn↦kThen (λst↦rC 26 T34 n f26 [1,1] 448 [] 448 st (lV f26 [] [])) (lV f26 [] [])
def k26_1:KT:=λn↦kBlock (0) (k26_0 n)
def S26_0(n_:Net)(b:Int)(p:Int)(i0:Int):St:=St.mk (U_::I_ b::I_ p::V_ [C.ptr 0 0 0 [] 2 0 0]::u_ 5 (I_ i0::u_ 69 [])) [Root.mk true 2 [[D.sl false 2 (enS false (Net.Bridges n_)),D.sl false 4 (enS false (Net.Links n_))]] 0 0 true true false [] 0 []]
def B26_0:BT:=λn↦rC 26 T34 n f26 [1,0,1,0,0] 526 [(0,0)] 448
def y26_0(i0:Int)(n_:Net):=getD (enS false (Net.Links n_)) (toNat i0) []
def X26_2(n_:Net)(i0:Int):St:=St.mk (u_ 6 (I_ (D.num (getD (y26_0 i0 n_) 2 D.dead))::I_ (D.num (getD (y26_0 i0 n_) 3 D.dead))::B_ true::u_ 70 [])) [Root.mk true 2 [[D.sl false 2 (enS false (Net.Bridges n_)),D.sl false 4 (enS false (Net.Links n_))]] 0 0 true true false [] 0 [],Root.mk true 4 [[D.int i64 (D.num (getD (y26_0 i0 n_) 0 D.dead)),D.int i64 (D.num (getD (y26_0 i0 n_) 1 D.dead)),D.int i64 (D.num (getD (y26_0 i0 n_) 2 D.dead)),D.int i64 (D.num (getD (y26_0 i0 n_) 3 D.dead))]] 0 0 true true false [] 0 []]
def X26_3(n_:Net)(i0:Int):St:=St.mk (u_ 6 (I_ (D.num (getD (y26_0 i0 n_) 0 D.dead))::I_ (D.num (getD (y26_0 i0 n_) 1 D.dead))::B_ true::u_ 70 [])) [Root.mk true 2 [[D.sl false 2 (enS false (Net.Bridges n_)),D.sl false 4 (enS false (Net.Links n_))]] 0 0 true true false [] 0 [],Root.mk true 4 [[D.int i64 (D.num (getD (y26_0 i0 n_) 0 D.dead)),D.int i64 (D.num (getD (y26_0 i0 n_) 1 D.dead)),D.int i64 (D.num (getD (y26_0 i0 n_) 2 D.dead)),D.int i64 (D.num (getD (y26_0 i0 n_) 3 D.dead))]] 0 0 true true false [] 0 []]
def X26_5(n_:Net):St:=St.mk (u_ 79 []) [Root.mk true 2 [[D.sl false 2 (enS false (Net.Bridges n_)),D.sl false 4 (enS false (Net.Links n_))]] 0 0 true true false [] 0 []]
def y26_1(i0:Int)(n_:Net):=getD (drop 1 (getD (enS false (Net.Bridges n_)) (toNat (D.num (getD (y26_0 i0 n_) 0 D.dead))) [])) 0 D.dead
def y26_2(i0:Int)(n_:Net):=getD (drop 1 (getD (enS false (Net.Bridges n_)) (toNat (D.num (getD (y26_0 i0 n_) 2 D.dead))) [])) 0 D.dead
theorem Z01(n_:Net)(b:Int)(p:Int)(n:Nat)(i0:Int)(f:St→RR)(K:Ex→St→RR):B26_0 n (S26_0 n_ b p i0) (kThen (λst↦f (St.head 1 526 604462909807314587353024 st)) K)=bif decide (i0<ofNat (length (enS false (Net.Links n_))))then bif decide (0≤i0)&&decide (i0<ofNat (length (enS false (Net.Links n_))))then bif Leaf.fit false (Leaf.int i64) (getD (y26_0 i0 n_) 0 D.dead)&&(Leaf.fit false (Leaf.int i64) (getD (y26_0 i0 n_) 1 D.dead)&&(Leaf.fit false (Leaf.int i64) (getD (y26_0 i0 n_) 2 D.dead)&&(Leaf.fit false (Leaf.int i64) (getD (y26_0 i0 n_) 3 D.dead)&&true)))then bif decide (0≤D.num (getD (y26_0 i0 n_) 0 D.dead))&&decide (D.num (getD (y26_0 i0 n_) 0 D.dead)<ofNat (length (enS false (Net.Bridges n_))))then bif Leaf.fit false (Leaf.sl 11 true) (y26_1 i0 n_)&&true then bif decide (0≤D.num (getD (y26_0 i0 n_) 1 D.dead))&&decide (D.num (getD (y26_0 i0 n_) 1 D.dead)<ofNat (length (D.rows (y26_1 i0 n_))))then bif Leaf.fit false Leaf.bool (getD (drop 10 (getD (D.rows (y26_1 i0 n_)) (toNat (D.num (getD (y26_0 i0 n_) 1 D.dead))) [])) 0 D.dead)&&true then bif !D.flag (getD (drop 10 (getD (D.rows (y26_1 i0 n_)) (toNat (D.num (getD (y26_0 i0 n_) 1 D.dead))) [])) 0 D.dead)then f (S26_0 n_ b p (wrap i64 (i0+1)))else bif decide (0≤D.num (getD (y26_0 i0 n_) 2 D.dead))&&decide (D.num (getD (y26_0 i0 n_) 2 D.dead)<ofNat (length (enS false (Net.Bridges n_))))then bif Leaf.fit false (Leaf.sl 11 true) (y26_2 i0 n_)&&true then bif decide (0≤D.num (getD (y26_0 i0 n_) 3 D.dead))&&decide (D.num (getD (y26_0 i0 n_) 3 D.dead)<ofNat (length (D.rows (y26_2 i0 n_))))then bif Leaf.fit false Leaf.bool (getD (drop 10 (getD (D.rows (y26_2 i0 n_)) (toNat (D.num (getD (y26_0 i0 n_) 3 D.dead))) [])) 0 D.dead)&&true then bif !D.flag (getD (drop 10 (getD (D.rows (y26_2 i0 n_)) (toNat (D.num (getD (y26_0 i0 n_) 3 D.dead))) [])) 0 D.dead)then f (S26_0 n_ b p (wrap i64 (i0+1)))else bif D.num (getD (y26_0 i0 n_) 0 D.dead)==b then bif D.num (getD (y26_0 i0 n_) 1 D.dead)==p then K Ex.ret (X26_2 n_ i0)else bif D.num (getD (y26_0 i0 n_) 2 D.dead)==b then bif D.num (getD (y26_0 i0 n_) 3 D.dead)==p then K Ex.ret (X26_3 n_ i0)else f (S26_0 n_ b p (wrap i64 (i0+1)))else f (S26_0 n_ b p (wrap i64 (i0+1)))else bif D.num (getD (y26_0 i0 n_) 2 D.dead)==b then bif D.num (getD (y26_0 i0 n_) 3 D.dead)==p then K Ex.ret (X26_3 n_ i0)else f (S26_0 n_ b p (wrap i64 (i0+1)))else f (S26_0 n_ b p (wrap i64 (i0+1)))else none else none else none else none else none else none else none else none else none else none else K (Ex.exit 0) (X26_5 n_):=by kernel_rfl
theorem Zym(n_:Net)(n:Nat)(i0:Int):k26_1 n Ex.ret (X26_2 n_ i0)=some ([[D.int i64 (D.num (getD (getD (enS false (Net.Links n_)) (toNat i0) []) 2 D.dead))],[D.int i64 (D.num (getD (getD (enS false (Net.Links n_)) (toNat i0) []) 3 D.dead))],[D.bool true]],[]):=by kernel_rfl
theorem Zvj(n_:Net)(n:Nat)(i0:Int):k26_1 n Ex.ret (X26_3 n_ i0)=some ([[D.int i64 (D.num (getD (getD (enS false (Net.Links n_)) (toNat i0) []) 0 D.dead))],[D.int i64 (D.num (getD (getD (enS false (Net.Links n_)) (toNat i0) []) 1 D.dead))],[D.bool true]],[]):=by kernel_rfl
theorem Zyn(n_:Net)(n:Nat):k26_1 n (Ex.exit 0) (X26_5 n_)=some ([[D.int i64 (0)],[D.int i64 (0)],[D.bool false]],[]):=by kernel_rfl
def e26(n_:Net)(b:Int)(p:Int)(n:Nat):=evFn ⟨prog,Hx,26⟩ T34.call n f26 [zp18.row n_,zp0.row b,zp0.row p]
theorem r26(n_:Net)(b:Int)(p:Int)(n:Nat):e26 n_ b p n=loopRun (B26_0 n) 1 526 604462909807314587353024 n (S26_0 n_ b p (0)) (k26_1 n):=by kernel_rfl
theorem m26(n_:Net)(b:Int)(p:Int):(o26 n_ b p).1=true→e26 n_ b p (n_.Links.length+1)=some (o26 n_ b p).2:=by
 refine pm λhpre=>(r26 n_ b p _).trans ?_;obtain⟨hs1,hs2,hs3⟩:=Zbg (Zig hpre);refine Zai (xs:=n_.Links) (λi (_:Unit)=>S26_0 n_ b p (Int.ofNat i)) (λ_ _=>True) (λi _ rest=>some ([[D.int .i64 (acrS n_ ⟨b,p⟩ rest).1.bridge],[D.int .i64 (acrS n_ ⟨b,p⟩ rest).1.port],[D.bool (acrS n_ ⟨b,p⟩ rest).2]],[])) ?_ ?_ (n_.Links.length+1) () (by omega) trivial
 ·rintro _ _ f;refine(Z01 n_ b p _ _ f _).trans ?_;delta y26_0 y26_1 y26_2;rw[Zaw,cond_false];exact Zyn _ _
 ·rintro i _ hi _ f hf;refine(Z01 n_ b p _ _ f _).trans ?_;delta y26_0 y26_1 y26_2;obtain⟨a,p1,b1,q,ha,hp,hb,hq,he⟩:=Zni hpre hi;have hg:(enS false n_.Links).getD i []=En.enc false (⟨Int.ofNat a,Int.ofNat p1,Int.ofNat b1,Int.ofNat q⟩:Link):=by rw[Zab false hi,he]
  simp only[gos,En.enc,D.num,D.flag,D.text,D.rows,Leaf.fit,Zbo,hg,hi,Zae (show i<4611686018427387904 by omega),Zab _ ha,ha,Zab _ hp,hp,Zab _ hb,hb,Zab _ hq,hq,List.drop_succ_cons,List.drop_zero,beq_self_eq_true]
  simp only[acrS,Zjs hi hp hq he];rw[he];have h1:sameE (endA ⟨Int.ofNat a,Int.ofNat p1,Int.ofNat b1,Int.ofNat q⟩) ⟨b,p⟩=(Int.ofNat a==b&&Int.ofNat p1==p):=rfl;have h2:sameE (endB ⟨Int.ofNat a,Int.ofNat p1,Int.ofNat b1,Int.ofNat q⟩) ⟨b,p⟩=(Int.ofNat b1==b&&Int.ofNat q==p):=rfl;rw[h1,h2];have x2:=Zym n_ (n_.Links.length+1) (Int.ofNat i);have x3:=Zvj n_ (n_.Links.length+1) (Int.ofNat i);have x4:=Zvj n_ (n_.Links.length+1) (Int.ofNat i);simp only[Zac,hg,En.enc,List.getD_cons_zero,List.getD_cons_succ,D.num]at x2 x3 x4;have hff:=hf () trivial;cases n_.Bridges[a].Ports[p1].Open<;>cases n_.Bridges[b1].Ports[q].Open<;>simp only[Bool.not_true,Bool.not_false,cond_true,cond_false,Bool.and_true,Bool.and_false,Bool.true_and,Bool.false_and]<;>try exact hff
  cases Int.ofNat a==b<;>cases Int.ofNat p1==p<;>cases Int.ofNat b1==b<;>cases Int.ofNat q==p<;>simp only[cond_true,cond_false,Bool.and_true,Bool.and_false,Bool.true_and,Bool.false_and,Bool.and_self]<;>first|exact hff|exact x2|exact x3|exact x4
def T26:Table:=(26,c26)::T34
theorem Zqq:Table.Sound prog Hx T26:=sa Zqy func26 (by kernel_rfl) (Zah λn_=>Zah λb=>Zah λp=>Zan λh=>⟨_,m26 n_ b p h⟩)
end Go.Ev
end
