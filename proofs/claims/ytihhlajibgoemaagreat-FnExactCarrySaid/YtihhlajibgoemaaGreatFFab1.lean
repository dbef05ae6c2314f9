/- Contracts of functions, each by its evaluation. -/
import Derived.Test.YtihhlajibgoemaaGreatEvMd
import Derived.Test.YtihhlajibgoemaaGreatProg
import Derived.KernelRfl
import Derived.Test.YtihhlajibgoemaaGreatFFdb
set_option linter.unusedVariables false
set_option linter.unusedSimpArgs false
set_option maxRecDepth 100000
noncomputable section
open List (getD length drop take set append replicate all isEmpty)
open Int (toNat ofNat)
open Go.IntKind (i64 wrap)
open Go.Proofs.Tryz (prog f108 f112 f142 f51 f62 f63 f64 f91 f93 f95 func108 func112 func142 func51 func62 func63 func64 func91 func93 func95)
namespace Go.Ev
open Go.RowKit Go.Md
end Go.Ev
namespace Go.Md
open Go Go.Ev
def noPort:Port:=⟨false,false,⟨0,0,0,0⟩,0,0,0,0,false⟩
def memL:Option Int→List Int→Bool
 |_,[]=>true
 |p,n::ns=>inR n 1 4&&((match p with|none=>true|some q=>decide (q<n))&&memL (some n) ns)
def hasI(l:List Int)(n:Int):Bool:=l.any (λx=>x==n)
def memberOk(m:Member):Bool:=memL none m.In&&(inR m.Own 1 4&&hasI m.In m.Own)
def cardOk(c:Card):Bool:=c.Members.all memberOk&&(inR (c.Open.length:Int) 1 4&&(decide (c.Members.length=c.Open.length)&&tableOk c.Table))
def opnAt(b:Bridge)(i:Nat):Bool:=i==3||(b.Ports.getD i noPort).Open
def opensL(b:Bridge):List Bool:=[opnAt b 0,opnAt b 1,opnAt b 2,true]
def cardB(b:Bridge):Card:=⟨opensL b,[⟨1,[1]⟩,⟨1,[1]⟩,⟨1,[1]⟩,⟨1,[1]⟩],[]⟩
def idxI(v:Int):Int→List Int→Int
 |_,[]=>-1
 |k,x::xs=>bif v==x then k else idxI v (k+1) xs
theorem Zh9(v x:Int)(k:Int)(xs:List Int):idxI v k (x::xs)=bif v==x then k else idxI v (k+1) xs:=by simp only[idxI]
theorem Zxr(x y:Int):(x==y)=(y==x):=by
 rw[Bool.eq_iff_iff,beq_iff_eq,beq_iff_eq];exact eq_comm
theorem Zti(v:Int):∀(xs:List Int) (k:Int),0≤k→decide (idxI v k xs≥0)=hasI xs v
 |[],k,h=>rfl
 |x::xs,k,h=>by
  unfold hasI;rw[Zh9,List.any_cons,Zxr v x];cases x==v
  ·simp only[cond_false,Bool.false_or];exact Zti v xs (k+1) (by omega)
  ·simp only[cond_true,Bool.true_or];exact decide_eq_true h
def prevI(l:List Int):Nat→Option Int
 |0=>none
 |i+1=>l[i]?
theorem Zgc(p:Option Int)(n:Int)(ns:List Int):memL p (n::ns)=(inR n 1 4&&((match p with|none=>true|some q=>decide (q<n))&&memL (some n) ns)):=by simp only[memL]
theorem Zcm{c:Card}(h:Card.small c=true):c.Open.length≤1048576∧c.Members.length≤1048576∧(∀m∈c.Members,m.In.length≤1048576)∧c.Table.length≤1048576:=by
 unfold Card.small at h;simp only[Bool.and_eq_true,decide_eq_true_eq,List.all_eq_true]at h;obtain⟨⟨h1,h2,h3⟩,h4⟩:=h;refine⟨h1,h2,λm hm=>?_,h4⟩;have:=h3 m hm;unfold Member.small at this;exact of_decide_eq_true this
theorem Zdt{f:Fabric}(h:Fabric.small f=true):Net.small f.Net=true∧f.Cards.length≤1048576∧∀c∈f.Cards,Card.small c=true:=by
 unfold Fabric.small at h;simp only[Bool.and_eq_true,decide_eq_true_eq,List.all_eq_true]at h;exact h
theorem Zte(a b:Int):decide (a≥b)=!decide (a<b):=by
 by_cases h:a<b
 ·rw[decide_eq_true h,decide_eq_false (by omega)];rfl
 ·rw[decide_eq_false h,decide_eq_true (by omega)];rfl
theorem Zg6(a b:Nat):(Int.ofNat a==Int.ofNat b)=decide (a=b):=by
 rw[Bool.eq_iff_iff];simp;omega
def opF(b:Bridge)(i:Nat):Bool:=(b.Ports.getD i noPort).Open
def opT(b:Bridge):List Bool:=[opF b 0,opF b 1,opF b 2,opF b 3]
def opP:List Bool:=[false,false,false,false]
theorem Zvu{b:Bridge}{i:Nat}(h:i<b.Ports.length):opF b i=b.Ports[i].Open:=by
 unfold opF;rw[List.getD_eq_getElem?_getD,List.getElem?_eq_getElem h];rfl
theorem Zdb{b:Bridge}{i:Nat}(h:b.Ports.length≤i):opF b i=false:=by
 unfold opF;rw[List.getD_eq_getElem?_getD,List.getElem?_eq_none h];rfl
theorem Zx5(b:Bridge):∀i (h:i<(opT b).length),(opT b)[i]=opF b i
 |0,_=>rfl
 |1,_=>rfl
 |2,_=>rfl
 |3,_=>rfl
 |n+4,h=>absurd h (by show ¬(n+4<4);omega)
theorem Zx4{b:Bridge}:∀k,b.Ports.length=k→k≤4→(opT b).take k++opP.drop k=opT b
 |0,h,_=>by
  show opP=opT b;unfold opT opP;rw[Zdb (i:=0) (by omega),Zdb (i:=1) (by omega),Zdb (i:=2) (by omega),Zdb (i:=3) (by omega)]
 |1,h,_=>by
  show[opF b 0,false,false,false]=opT b;unfold opT;rw[Zdb (i:=1) (by omega),Zdb (i:=2) (by omega),Zdb (i:=3) (by omega)]
 |2,h,_=>by
  show[opF b 0,opF b 1,false,false]=opT b;unfold opT;rw[Zdb (i:=2) (by omega),Zdb (i:=3) (by omega)]
 |3,h,_=>by
  show[opF b 0,opF b 1,opF b 2,false]=opT b;unfold opT;rw[Zdb (i:=3) (by omega)]
 |4,_,_=>rfl
 |n+5,_,h=>absurd h (by omega)
theorem Zx6(b:Bridge):(opT b).set 3 true=opensL b:=rfl
theorem Ztz(b:Bridge):∀i (h:i<(opensL b).length),i<3→(opensL b)[i]=opF b i
 |0,_,_=>rfl
 |1,_,_=>rfl
 |2,_,_=>rfl
 |n+3,_,h=>absurd h (by omega)
theorem mixS{α:Type}{T P:List α}{i:Nat}{x:α}(hl:T.length=P.length)(hi:i<P.length)(hx:T[i]'(by omega)=x):(T.take i++P.drop i).set i x=T.take (i+1)++P.drop (i+1):=by
 rw[List.drop_eq_getElem_cons hi,Zda (T.take i) P[i] x (P.drop (i+1)) (by rw[List.length_take];omega),←hx,List.take_append_getElem]
theorem mixL{α:Type}{T P:List α}(h:T.length=P.length)(i:Nat):(T.take i++P.drop i).length=P.length:=by
 rw[List.length_append,List.length_take,List.length_drop];omega
end Go.Md
namespace Go.Ev
open Go.Md
def o142(s:List Int)(v:Int):Bool×List Row×List Row:=(decide (s.length≤1048576),[[.int .i64 (idxI v 0 s)]],[])
def c142:Contract:=(cp zp9 λs=>cp zp0 λv=>c0 (o142 s v)) true
def k142_0:KT:=λn↦kThen (λst↦rC 142 T54 n f142 [1,1] 16 [] 16 st (lV f142 [] [])) (lV f142 [] [])
def k142_1:KT:=λn↦kBlock (0) (k142_0 n)
def S142_0(s:List Int)(v:Int)(i0:Int):St:=St.mk (V_ [C.d (D.sl false 1 (enS false s))]::I_ v::u_ 5 (I_ (ofNat (length (enS false s)))::I_ i0::u_ 10 [])) []
def B142_0:BT:=λn↦rC 142 T54 n f142 [1,0,1,0,0] 387 [(0,0)] 16
def X142_2(i0:Int):St:=St.mk (u_ 4 (I_ i0::u_ 14 [])) []
def X142_3:St:=St.mk (u_ 19 []) []
theorem Zwi(s:List Int)(v:Int)(n:Nat)(i0:Int)(f:St→RR)(K:Ex→St→RR):B142_0 n (S142_0 s v i0) (kThen (λst↦f (St.head 0 387 524080 st)) K)=bif decide (i0<ofNat (length (enS false s)))then bif decide (0≤i0)&&decide (i0<ofNat (length (enS false s)))then bif Leaf.fit false (Leaf.int i64) (getD (getD (enS false s) (toNat i0) []) 0 D.dead)&&true then bif v==D.num (getD (getD (enS false s) (toNat i0) []) 0 D.dead)then K Ex.ret (X142_2 i0)else f (S142_0 s v (wrap i64 (i0+1)))else none else none else K (Ex.exit 0) X142_3:=by kernel_rfl
theorem Zxd(n:Nat)(i0:Int):k142_1 n Ex.ret (X142_2 i0)=some ([[D.int i64 i0]],[]):=by kernel_rfl
theorem Zxe(n:Nat):k142_1 n (Ex.exit 0) X142_3=some ([[D.int i64 (Int.negSucc 0)]],[]):=by kernel_rfl
def e142(s:List Int)(v:Int)(n:Nat):=evFn ⟨prog,Hx,142⟩ T54.call n f142 [zp9.row s,zp0.row v]
theorem r142(s:List Int)(v:Int)(n:Nat):e142 s v n=loopRun (B142_0 n) 0 387 524080 n (S142_0 s v (0)) (k142_1 n):=by kernel_rfl
theorem m142(s:List Int)(v:Int):(o142 s v).1=true→e142 s v (s.length+1)=some (o142 s v).2:=by
 refine pm λhpre=>(r142 s v _).trans ?_;have hlen:=of_decide_eq_true hpre;refine Zai (xs:=s) (λi (_:Unit)=>S142_0 s v (Int.ofNat i)) (λ_ _=>True) (λi _ rest=>some ([[D.int .i64 (idxI v (Int.ofNat i) rest)]],[])) ?_ ?_ (s.length+1) () (by omega) trivial
 ·rintro _ _ f;refine(Zwi s v _ _ f _).trans ?_;rw[Zaw,cond_false];exact Zxe _
 ·rintro i _ hi _ f hf;refine(Zwi s v _ _ f _).trans ?_;simp only[gos,En.enc,D.num,D.flag,D.text,D.rows,Leaf.fit,Zbo,Zab _ hi,hi,Zae (show i<4611686018427387904 by omega)]
  cases hp:v==s[i]
  ·simp only[gos,En.enc,D.num,D.flag,D.text,D.rows,Leaf.fit,Zbo];refine(hf () trivial).trans ?_;have hc:Int.ofNat i+1=Int.ofNat (i+1):=rfl;rw[Zh9,hp,cond_false,hc]
  ·simp only[gos,En.enc,D.num,D.flag,D.text,D.rows,Leaf.fit,Zbo];refine(Zxd _ _).trans ?_;rw[Zh9,hp,cond_true]
def T142:Table:=(142,c142)::T54
theorem Zo7:Table.Sound prog Hx T142:=sa Zri func142 (by kernel_rfl) (Zah λs=>Zah λv=>Zan λh=>⟨_,m142 s v h⟩)
def o112(s:List Int)(v:Int):Bool×List Row×List Row:=(decide (s.length≤1048576),[[.bool (hasI s v)]],[])
def c112:Contract:=(cp zp9 λs=>cp zp0 λv=>c0 (o112 s v)) true
def e112(s:List Int)(v:Int)(n:Nat):=evFn ⟨prog,Hx,112⟩ T142.call n f112 [zp9.row s,zp0.row v]
theorem r112(s:List Int)(v:Int)(n:Nat):e112 s v n=bif isS Int false (enS false s)&&decide (length (deS Int (enS false s))≤1048576)then some ([[D.bool (decide (idxI v (0) (deS Int (enS false s))≥0))]],[])else none:=by kernel_rfl
theorem m112(s:List Int)(v:Int):(o112 s v).1=true→e112 s v 0=some (o112 s v).2:=by
 refine pm λhpre=>(r112 s v _).trans ?_;simp only[Zak,Zad,hpre,Bool.and_self,cond_true];rw[Zti v s 0 (by omega)]
def T112:Table:=(112,c112)::T142
theorem Zod:Table.Sound prog Hx T112:=sa Zo7 func112 (by kernel_rfl) (Zah λs=>Zah λv=>Zan λh=>⟨_,m112 s v h⟩)
def o95(list:List Int)(n_:Int):Bool×List Row×List Row:=(decide (list.length≤1048576),[[.bool (hasI list n_)]],[])
def c95:Contract:=(cp zp9 λlist=>cp zp0 λn_=>c0 (o95 list n_)) true
def k95_0:KT:=λn↦kThen (λst↦rC 95 T112 n f95 [1,1] 16 [] 16 st (lV f95 [] [])) (lV f95 [] [])
def k95_1:KT:=λn↦kBlock (0) (k95_0 n)
def S95_0(list:List Int)(n_:Int)(i0:Int):St:=St.mk (V_ [C.d (D.sl false 1 (enS false list))]::I_ n_::U_::U_::U_::I_ i0::u_ 12 []) []
def B95_0:BT:=λn↦rC 95 T112 n f95 [1,0,1,0,0] 35 [(0,0)] 16
def X95_2:St:=St.mk (u_ 4 (B_ true::u_ 13 [])) []
def X95_3:St:=St.mk (u_ 18 []) []
theorem Z2f(list:List Int)(n_:Int)(n:Nat)(i0:Int)(f:St→RR)(K:Ex→St→RR):B95_0 n (S95_0 list n_ i0) (kThen (λst↦f (St.head 0 35 262128 st)) K)=bif decide (i0<ofNat (length (enS false list)))then bif decide (0≤i0)&&decide (i0<ofNat (length (enS false list)))then bif Leaf.fit false (Leaf.int i64) (getD (getD (enS false list) (toNat i0) []) 0 D.dead)&&true then bif D.num (getD (getD (enS false list) (toNat i0) []) 0 D.dead)==n_ then K Ex.ret X95_2 else f (S95_0 list n_ (wrap i64 (i0+1)))else none else none else K (Ex.exit 0) X95_3:=by kernel_rfl
theorem Z0a(n:Nat):k95_1 n Ex.ret X95_2=some ([[D.bool true]],[]):=by kernel_rfl
theorem Z0b(n:Nat):k95_1 n (Ex.exit 0) X95_3=some ([[D.bool false]],[]):=by kernel_rfl
def e95(list:List Int)(n_:Int)(n:Nat):=evFn ⟨prog,Hx,95⟩ T112.call n f95 [zp9.row list,zp0.row n_]
theorem r95(list:List Int)(n_:Int)(n:Nat):e95 list n_ n=loopRun (B95_0 n) 0 35 262128 n (S95_0 list n_ (0)) (k95_1 n):=by kernel_rfl
theorem m95(list:List Int)(n_:Int):(o95 list n_).1=true→e95 list n_ (list.length+1)=some (o95 list n_).2:=by
 refine pm λhpre=>(r95 list n_ _).trans ?_;have hlen:=of_decide_eq_true hpre;unfold hasI;refine Zai (xs:=list) (λi (_:Unit)=>S95_0 list n_ (Int.ofNat i)) (λ_ _=>True) (λ_ _ rest=>some ([[D.bool (rest.any (λx=>x==n_))]],[])) ?_ ?_ (list.length+1) () (by omega) trivial
 ·rintro _ _ f;refine(Z2f list n_ _ _ f _).trans ?_;rw[Zaw,cond_false];exact Z0b _
 ·rintro i _ hi _ f hf;refine(Z2f list n_ _ _ f _).trans ?_;simp only[gos,En.enc,D.num,D.flag,D.text,D.rows,Leaf.fit,Zbo,Zab _ hi,hi,Zae (show i<4611686018427387904 by omega)]
  cases hp:list[i]==n_
  ·simp only[gos,En.enc,D.num,D.flag,D.text,D.rows,Leaf.fit,Zbo];refine(hf () trivial).trans ?_;rw[List.any_cons,hp,Bool.false_or]
  ·simp only[gos,En.enc,D.num,D.flag,D.text,D.rows,Leaf.fit,Zbo];refine(Z0a _).trans ?_;rw[List.any_cons,hp,Bool.true_or]
def T95:Table:=(95,c95)::T112
theorem Zsn:Table.Sound prog Hx T95:=sa Zod func95 (by kernel_rfl) (Zah λlist=>Zah λn_=>Zan λh=>⟨_,m95 list n_ h⟩)
def o108(m:Member):Bool×List Row×List Row:=(Member.small m,[[.bool (memberOk m)]],[])
def c108:Contract:=(cp zp10 λm=>c0 (o108 m)) true
def k108_0:KT:=λn↦kThen (λst↦rC 108 T95 n f108 [1,1] 4 [] 4 st (lV f108 [] [])) (lV f108 [] [])
def k108_1:KT:=λn↦kBlock (0) (k108_0 n)
def S108_0(m:Member)(i0:Int):St:=St.mk (U_::V_ [C.ptr 0 0 0 [] 2 0 0]::u_ 4 (V_ [C.d (D.sl false 1 (enS false (Member.In m)))]::I_ (ofNat (length (enS false (Member.In m))))::I_ i0::u_ 32 [])) [Root.mk true 2 [En.enc false m] 0 0 true true false [] 0 []]
def B108_0:BT:=λn↦rC 108 T95 n f108 [1,0,1,0,0] 450 [(0,2)] 4
def X108_2(m:Member):St:=St.mk (U_::U_::B_ false::u_ 38 []) [Root.mk true 2 [En.enc false m] 0 0 true true false [] 0 []]
def X108_4(m:Member):St:=St.mk (U_::V_ [C.ptr 0 0 0 [] 2 0 0]::u_ 39 []) [Root.mk true 2 [En.enc false m] 0 0 true true false [] 0 []]
theorem Zvz(m:Member)(n:Nat)(i0:Int)(f:St→RR)(K:Ex→St→RR):B108_0 n (S108_0 m i0) (kThen (λst↦f (St.head 1 450 2147483420 st)) K)=bif decide (i0<ofNat (length (enS false (Member.In m))))then bif decide (0≤i0)&&decide (i0<ofNat (length (enS false (Member.In m))))then bif Leaf.fit false (Leaf.int i64) (getD (getD (enS false (Member.In m)) (toNat i0) []) 0 D.dead)&&true then bif !inR (D.num (getD (getD (enS false (Member.In m)) (toNat i0) []) 0 D.dead)) (1) (4)then K Ex.ret (X108_2 m)else bif decide (i0>0)then bif decide (0≤wrap i64 (i0-1))&&decide (wrap i64 (i0-1)<ofNat (length (enS false (Member.In m))))then bif Leaf.fit false (Leaf.int i64) (getD (getD (enS false (Member.In m)) (toNat (wrap i64 (i0-1))) []) 0 D.dead)&&true then bif decide (D.num (getD (getD (enS false (Member.In m)) (toNat i0) []) 0 D.dead)≤D.num (getD (getD (enS false (Member.In m)) (toNat (wrap i64 (i0-1))) []) 0 D.dead))then K Ex.ret (X108_2 m)else f (S108_0 m (wrap i64 (i0+1)))else none else none else f (S108_0 m (wrap i64 (i0+1)))else none else none else K (Ex.exit 0) (X108_4 m):=by kernel_rfl
theorem Zss(m:Member)(n:Nat):k108_1 n Ex.ret (X108_2 m)=some ([[D.bool false]],[]):=by kernel_rfl
theorem Zwv(m:Member)(n:Nat):k108_1 n (Ex.exit 0) (X108_4 m)=bif inR (Member.Own m) (1) (4)then bif isS Int false (enS false (Member.In m))&&decide (length (deS Int (enS false (Member.In m)))≤1048576)then some ([[D.bool (hasI (deS Int (enS false (Member.In m))) (Member.Own m))]],[])else none else some ([[D.bool false]],[]):=by kernel_rfl
def e108(m:Member)(n:Nat):=evFn ⟨prog,Hx,108⟩ T95.call n f108 [zp10.row m]
theorem r108(m:Member)(n:Nat):e108 m n=loopRun (B108_0 n) 1 450 2147483420 n (S108_0 m (0)) (k108_1 n):=by kernel_rfl
theorem m108(m:Member):(o108 m).1=true→e108 m (m.In.length+1)=some (o108 m).2:=by
 refine pm λhpre=>(r108 m _).trans ?_;have hlen:m.In.length≤1048576:=by unfold Member.small at hpre;exact of_decide_eq_true hpre
 have hld:decide (m.In.length≤1048576)=true:=decide_eq_true hlen;unfold memberOk;refine Zai (xs:=m.In) (λi (_:Unit)=>S108_0 m (Int.ofNat i)) (λ_ _=>True) (λi _ rest=>some ([[D.bool (memL (prevI m.In i) rest&&(inR m.Own 1 4&&hasI m.In m.Own))]],[])) ?_ ?_ (m.In.length+1) () (by omega) trivial
 ·rintro _ _ f;refine(Zvz m _ _ f _).trans ?_;rw[Zaw,cond_false];refine(Zwv _ _).trans ?_;simp only[Zak,Zad,hld,Bool.and_self,cond_true];rw[show memL (prevI m.In m.In.length) []=true by cases prevI m.In m.In.length<;>rfl,Bool.true_and]
  cases inR m.Own 1 4<;>rfl
 ·rintro i _ hi _ f hf;refine(Zvz m _ _ f _).trans ?_;rw[Zgc];cases h:inR m.In[i] 1 4
  ·refine Zaj (Zaz false hi) (Zaj (by rw[Zaz false hi,Zaq];rfl) (Zaj (by rw[Zac,Zab false hi];rfl) (Zaj (by rw[Zac,Zab false hi];show(!inR m.In[i] 1 4)=true;rw[h];rfl) ?_)))
   exact Zss _ _
  refine Zaj (Zaz false hi) (Zaj (by rw[Zaz false hi,Zaq];rfl) (Zaj (by rw[Zac,Zab false hi];rfl) (Za5 (by rw[Zac,Zab false hi];show(!inR m.In[i] 1 4)=false;rw[h];rfl) ?_)))
  rw[Zae (show i<4611686018427387904 by omega)]
  cases i with
  |zero=>
   refine Za5 rfl ?_;refine(hf () trivial).trans ?_;rw[show prevI m.In (0+1)=some m.In[0]from List.getElem?_eq_getElem hi];rfl
  |succ i=>
   have hi':i<m.In.length:=by omega
   have hw:IntKind.wrap IntKind.i64 (Int.ofNat (i+1)-1)=Int.ofNat i:=by rw[show Int.ofNat (i+1)-1=Int.ofNat i by show((i+1:Nat):Int)-1=(i:Int);omega];exact Zhv (by omega)
   have hp:prevI m.In (i+1)=some m.In[i]:=List.getElem?_eq_getElem hi';have hn:prevI m.In (i+1+1)=some m.In[i+1]:=List.getElem?_eq_getElem hi;rw[hp,hw];refine Zaj (decide_eq_true (by show(0:Int)<((i+1:Nat):Int);omega)) (Zaj (by rw[Zaz false hi',Zaq];rfl) (Zaj (by rw[Zac,Zab false hi'];rfl) ?_))
   have hc:decide (D.num (List.getD (List.getD (enS false m.In) (Int.toNat (Int.ofNat (i+1))) []) 0 D.dead)≤D.num (List.getD (List.getD (enS false m.In) (Int.toNat (Int.ofNat i)) []) 0 D.dead))=!decide (m.In[i]<m.In[i+1]):=by
    rw[Zac,Zac,Zab false hi,Zab false hi'];exact Zte _ _
   cases h6:decide (m.In[i]<m.In[i+1])
   ·refine Zaj (by rw[hc,h6];rfl) ?_
    refine(Zss _ _).trans ?_;show _=some ([[D.bool (true&&(decide (m.In[i]<m.In[i+1])&&memL (some m.In[i+1]) (m.In.drop (i+1+1)))&&(inR m.Own 1 4&&hasI m.In m.Own))]],[]);rw[h6];rfl
   ·refine Za5 (by rw[hc,h6];rfl) ?_
    refine(hf () trivial).trans ?_;show _=some ([[D.bool (true&&(decide (m.In[i]<m.In[i+1])&&memL (some m.In[i+1]) (m.In.drop (i+1+1)))&&(inR m.Own 1 4&&hasI m.In m.Own))]],[]);rw[hn,h6];rfl
def T108:Table:=(108,c108)::T95
theorem Zn9:Table.Sound prog Hx T108:=sa Zsn func108 (by kernel_rfl) (Zah λm=>Zan λh=>⟨_,m108 m h⟩)
def o93(m:Member):Bool×List Row×List Row:=(Member.small m,[[.bool (memberOk m)]],[])
def c93:Contract:=(cp zp10 λm=>c0 (o93 m)) true
def k93_0:KT:=λn↦kThen (λst↦rC 93 T108 n f93 [1,1] 4 [] 4 st (lV f93 [] [])) (lV f93 [] [])
def k93_1:KT:=λn↦kBlock (0) (k93_0 n)
def S93_0(m:Member)(i0:Int):St:=St.mk (U_::V_ [C.ptr 0 0 0 [] 2 0 0]::U_::I_ i0::u_ 42 []) [Root.mk true 2 [En.enc false m] 0 0 true true false [] 0 []]
def B93_0:BT:=λn↦rC 93 T108 n f93 [1,0,1,0,0] 10 [(0,2)] 4
def X93_2(m:Member):St:=St.mk (U_::U_::B_ false::u_ 43 []) [Root.mk true 2 [En.enc false m] 0 0 true true false [] 0 []]
def X93_4(m:Member):St:=St.mk (U_::V_ [C.ptr 0 0 0 [] 2 0 0]::u_ 44 []) [Root.mk true 2 [En.enc false m] 0 0 true true false [] 0 []]
def y93_0(i0:Int)(m:Member):=getD (getD (enS false (Member.In m)) (toNat i0) []) 0 D.dead
theorem Z2e(m:Member)(n:Nat)(i0:Int)(f:St→RR)(K:Ex→St→RR):B93_0 n (S93_0 m i0) (kThen (λst↦f (St.head 1 10 68719476732 st)) K)=bif decide (i0<ofNat (length (enS false (Member.In m))))then bif decide (0≤i0)&&decide (i0<ofNat (length (enS false (Member.In m))))then bif Leaf.fit false (Leaf.int i64) (y93_0 i0 m)&&true then bif !inR (D.num (y93_0 i0 m)) (1) (4)then K Ex.ret (X93_2 m)else bif decide (i0>0)then bif decide (0≤wrap i64 (i0-1))&&decide (wrap i64 (i0-1)<ofNat (length (enS false (Member.In m))))then bif Leaf.fit false (Leaf.int i64) (getD (getD (enS false (Member.In m)) (toNat (wrap i64 (i0-1))) []) 0 D.dead)&&true then bif decide (0≤i0)&&decide (i0<ofNat (length (enS false (Member.In m))))then bif Leaf.fit false (Leaf.int i64) (y93_0 i0 m)&&true then bif decide (D.num (getD (getD (enS false (Member.In m)) (toNat (wrap i64 (i0-1))) []) 0 D.dead)≥D.num (y93_0 i0 m))then K Ex.ret (X93_2 m)else f (S93_0 m (wrap i64 (i0+1)))else none else none else none else none else f (S93_0 m (wrap i64 (i0+1)))else none else none else K (Ex.exit 0) (X93_4 m):=by kernel_rfl
theorem Zvn(m:Member)(n:Nat):k93_1 n Ex.ret (X93_2 m)=some ([[D.bool false]],[]):=by kernel_rfl
theorem Zz9(m:Member)(n:Nat):k93_1 n (Ex.exit 0) (X93_4 m)=bif inR (Member.Own m) (1) (4)then bif isS Int false (enS false (Member.In m))&&decide (length (deS Int (enS false (Member.In m)))≤1048576)then some ([[D.bool (hasI (deS Int (enS false (Member.In m))) (Member.Own m))]],[])else none else some ([[D.bool false]],[]):=by kernel_rfl
def e93(m:Member)(n:Nat):=evFn ⟨prog,Hx,93⟩ T108.call n f93 [zp10.row m]
theorem r93(m:Member)(n:Nat):e93 m n=loopRun (B93_0 n) 1 10 68719476732 n (S93_0 m (0)) (k93_1 n):=by kernel_rfl
theorem m93(m:Member):(o93 m).1=true→e93 m (m.In.length+1)=some (o93 m).2:=by
 refine pm λhpre=>(r93 m _).trans ?_;have hlen:m.In.length≤1048576:=by unfold Member.small at hpre;exact of_decide_eq_true hpre
 have hld:decide (m.In.length≤1048576)=true:=decide_eq_true hlen;unfold memberOk;refine Zai (xs:=m.In) (λi (_:Unit)=>S93_0 m (Int.ofNat i)) (λ_ _=>True) (λi _ rest=>some ([[D.bool (memL (prevI m.In i) rest&&(inR m.Own 1 4&&hasI m.In m.Own))]],[])) ?_ ?_ (m.In.length+1) () (by omega) trivial
 ·rintro _ _ f;refine(Z2e m _ _ f _).trans ?_;delta y93_0;rw[Zaw,cond_false];refine(Zz9 _ _).trans ?_;simp only[Zak,Zad,hld,Bool.and_self,cond_true];rw[show memL (prevI m.In m.In.length) []=true by cases prevI m.In m.In.length<;>rfl,Bool.true_and]
  cases inR m.Own 1 4<;>rfl
 ·rintro i _ hi _ f hf;refine(Z2e m _ _ f _).trans ?_;delta y93_0;rw[Zgc];cases h:inR m.In[i] 1 4
  ·refine Zaj (Zaz false hi) (Zaj (by rw[Zaz false hi,Zaq];rfl) (Zaj (by rw[Zac,Zab false hi];rfl) (Zaj (by rw[Zac,Zab false hi];show(!inR m.In[i] 1 4)=true;rw[h];rfl) ?_)))
   exact Zvn _ _
  refine Zaj (Zaz false hi) (Zaj (by rw[Zaz false hi,Zaq];rfl) (Zaj (by rw[Zac,Zab false hi];rfl) (Za5 (by rw[Zac,Zab false hi];show(!inR m.In[i] 1 4)=false;rw[h];rfl) ?_)))
  rw[Zae (show i<4611686018427387904 by omega)]
  cases i with
  |zero=>
   refine Za5 rfl ?_;refine(hf () trivial).trans ?_;rw[show prevI m.In (0+1)=some m.In[0]from List.getElem?_eq_getElem hi];rfl
  |succ i=>
   have hi':i<m.In.length:=by omega
   have hw:IntKind.wrap IntKind.i64 (Int.ofNat (i+1)-1)=Int.ofNat i:=by rw[show Int.ofNat (i+1)-1=Int.ofNat i by show((i+1:Nat):Int)-1=(i:Int);omega];exact Zhv (by omega)
   have hp:prevI m.In (i+1)=some m.In[i]:=List.getElem?_eq_getElem hi';have hn:prevI m.In (i+1+1)=some m.In[i+1]:=List.getElem?_eq_getElem hi;rw[hp,hw];refine Zaj (decide_eq_true (by show(0:Int)<((i+1:Nat):Int);omega)) (Zaj (by rw[Zaz false hi',Zaq];rfl) (Zaj (by rw[Zac,Zab false hi'];rfl) ?_))
   refine Zaj (by rw[Zaz false hi,Zaq];rfl) (Zaj (by rw[Zac,Zab false hi];rfl) ?_)
   have hc:decide (D.num (List.getD (List.getD (enS false m.In) (Int.toNat (Int.ofNat i)) []) 0 D.dead)≥D.num (List.getD (List.getD (enS false m.In) (Int.toNat (Int.ofNat (i+1))) []) 0 D.dead))=!decide (m.In[i]<m.In[i+1]):=by
    rw[Zac,Zac,Zab false hi,Zab false hi'];exact Zte _ _
   cases h6:decide (m.In[i]<m.In[i+1])
   ·refine Zaj (by rw[hc,h6];rfl) ?_
    refine(Zvn _ _).trans ?_;show _=some ([[D.bool (true&&(decide (m.In[i]<m.In[i+1])&&memL (some m.In[i+1]) (m.In.drop (i+1+1)))&&(inR m.Own 1 4&&hasI m.In m.Own))]],[]);rw[h6];rfl
   ·refine Za5 (by rw[hc,h6];rfl) ?_
    refine(hf () trivial).trans ?_;show _=some ([[D.bool (true&&(decide (m.In[i]<m.In[i+1])&&memL (some m.In[i+1]) (m.In.drop (i+1+1)))&&(inR m.Own 1 4&&hasI m.In m.Own))]],[]);rw[hn,h6];rfl
def T93:Table:=(93,c93)::T108
theorem Zsl:Table.Sound prog Hx T93:=sa Zn9 func93 (by kernel_rfl) (Zah λm=>Zan λh=>⟨_,m93 m h⟩)
def o62(c:Card):Bool×List Row×List Row:=(Card.small c,[[.bool (cardOk c)]],[])
def c62:Contract:=(cp zp14 λc=>c0 (o62 c)) true
def k62_0:KT:=λn↦kThen (λst↦rC 62 T93 n f62 [1,1] 4 [] 4 st (lV f62 [] [])) (lV f62 [] [])
def k62_1:KT:=λn↦kBlock (0) (k62_0 n)
def S62_0(c:Card)(i0:Int):St:=St.mk (U_::V_ [C.ptr 0 0 0 [] 3 0 0]::u_ 4 (V_ [C.d (D.sl false 2 (enS false (Card.Members c)))]::I_ (ofNat (length (enS false (Card.Members c))))::I_ i0::u_ 25 [])) [Root.mk true 3 [En.enc false c] 0 0 true true false [] 0 []]
def B62_0:BT:=λn↦rC 62 T93 n f62 [1,0,1,0,0] 450 [(0,2)] 4
def y62_0(c:Card)(i0:Int):=getD (enS false (Card.Members c)) (toNat i0) []
def X62_2(c:Card)(i0:Int):St:=St.mk (U_::U_::B_ false::u_ 31 []) [Root.mk true 3 [En.enc false c] 0 0 true true false [] 0 [],Root.mk true 2 [[D.int i64 (D.num (getD (y62_0 c i0) 0 D.dead)),D.sl false 1 (D.rows (getD (y62_0 c i0) 1 D.dead))]] 0 1 true true false [(1,1)] 0 []]
def X62_3(c:Card):St:=St.mk (U_::V_ [C.ptr 0 0 0 [] 3 0 0]::u_ 32 []) [Root.mk true 3 [En.enc false c] 0 0 true true false [] 0 []]
theorem Z1r(c:Card)(n:Nat)(i0:Int)(f:St→RR)(K:Ex→St→RR):B62_0 n (S62_0 c i0) (kThen (λst↦f (St.head 1 450 65300 st)) K)=bif decide (i0<ofNat (length (enS false (Card.Members c))))then bif decide (0≤i0)&&decide (i0<ofNat (length (enS false (Card.Members c))))then bif Leaf.fit false (Leaf.int i64) (getD (y62_0 c i0) 0 D.dead)&&(Leaf.fit false (Leaf.sl 1 true) (getD (y62_0 c i0) 1 D.dead)&&true)then bif isS Int false (D.rows (getD (y62_0 c i0) 1 D.dead))&&Member.small (En.dec (y62_0 c i0))then bif !memberOk (En.dec (y62_0 c i0))then K Ex.ret (X62_2 c i0)else f (S62_0 c (wrap i64 (i0+1)))else none else none else none else K (Ex.exit 0) (X62_3 c):=by kernel_rfl
theorem Zzg(c:Card)(n:Nat)(i0:Int):k62_1 n Ex.ret (X62_2 c i0)=some ([[D.bool false]],[]):=by kernel_rfl
theorem Zzh(c:Card)(n:Nat):k62_1 n (Ex.exit 0) (X62_3 c)=bif inR (ofNat (length (enS false (Card.Open c)))) (1) (4)then bif ofNat (length (enS false (Card.Members c)))==ofNat (length (enS false (Card.Open c)))then bif isS Heard false (enS false (Card.Table c))&&decide (length (deS Heard (enS false (Card.Table c)))≤2097152)then some ([[D.bool (tableOk (deS Heard (enS false (Card.Table c))))]],[])else none else some ([[D.bool false]],[])else some ([[D.bool false]],[]):=by kernel_rfl
def e62(c:Card)(n:Nat):=evFn ⟨prog,Hx,62⟩ T93.call n f62 [zp14.row c]
theorem r62(c:Card)(n:Nat):e62 c n=loopRun (B62_0 n) 1 450 65300 n (S62_0 c (0)) (k62_1 n):=by kernel_rfl
theorem m62(c:Card):(o62 c).1=true→e62 c (c.Members.length+1)=some (o62 c).2:=by
 refine pm λhpre=>(r62 c _).trans ?_;obtain⟨h1,h2,h3,h4⟩:=Zcm hpre;have hall:c.Members.all Member.small=true:=by unfold Card.small at hpre;simp only[Bool.and_eq_true]at hpre;exact hpre.1.2.2
 have htd:decide (c.Table.length≤2097152)=true:=decide_eq_true (by omega)
 unfold cardOk;refine Zai (xs:=c.Members) (λi (_:Unit)=>S62_0 c (Int.ofNat i)) (λ_ _=>True) (λ_ _ rest=>some ([[D.bool (rest.all memberOk&&(inR (c.Open.length:Int) 1 4&&(decide (c.Members.length=c.Open.length)&&tableOk c.Table)))]],[])) ?_ ?_ (c.Members.length+1) () (by omega) trivial
 ·rintro _ _ f;refine(Z1r c _ _ f _).trans ?_;delta y62_0;rw[Zaw,cond_false];refine(Zzh _ _).trans ?_;simp only[Zak,Zad,htd,Bool.and_self,cond_true,Zaa,Zg6,List.all_nil,Bool.true_and];rw[show inR (Int.ofNat c.Open.length) 1 4=inR (c.Open.length:Int) 1 4 from rfl];cases inR (c.Open.length:Int) 1 4<;>cases decide (c.Members.length=c.Open.length)<;>rfl
 ·rintro i _ hi _ f hf;have hm:=List.all_eq_true.1 hall _ (List.getElem_mem hi);refine(Z1r c _ _ f _).trans ?_;delta y62_0;refine Zaj (Zaz false hi) (Zaj (by rw[Zaz false hi,Zaq];rfl) (Zaj (by rw[Zac,Zab false hi];rfl) (Zaj (by rw[Zac,Zab false hi,En.dec_enc,hm,Bool.and_true];exact Zak false c.Members[i].In) ?_)))
  rw[Zac,Zab false hi,En.dec_enc,Zae (show i<4611686018427387904 by omega)]
  cases h:memberOk c.Members[i]
  ·refine Zaj rfl ?_;refine(Zzg _ _ _).trans ?_;rw[List.all_cons,h];rfl
  ·refine Za5 rfl ?_;refine(hf () trivial).trans ?_;rw[List.all_cons,h,Bool.true_and]
def T62:Table:=(62,c62)::T93
theorem Zrq:Table.Sound prog Hx T62:=sa Zsl func62 (by kernel_rfl) (Zah λc=>Zan λh=>⟨_,m62 c h⟩)
def o51(c:Card):Bool×List Row×List Row:=(Card.small c,[[.bool (cardOk c)]],[])
def c51:Contract:=(cp zp14 λc=>c0 (o51 c)) true
def k51_0:KT:=λn↦kThen (λst↦rC 51 T62 n f51 [1,1,1] 4 [] 4 st (lV f51 [] [])) (lV f51 [] [])
def k51_1:KT:=λn↦kBlock (0) (k51_0 n)
def S51_0(c:Card)(i0:Int):St:=St.mk (U_::V_ [C.ptr 0 0 0 [] 3 0 0]::U_::I_ i0::u_ 34 []) [Root.mk true 3 [En.enc false c] 0 0 true true false [] 0 []]
def B51_0:BT:=λn↦rC 51 T62 n f51 [1,1,0,1,0,0] 10 [(0,0)] 4
def X51_2(c:Card):St:=St.mk (U_::U_::B_ false::u_ 35 []) [Root.mk true 3 [En.enc false c] 0 0 true true false [] 0 []]
def X51_3(c:Card):St:=St.mk (u_ 38 []) [Root.mk true 3 [En.enc false c] 0 0 true true false [] 0 []]
def y51_0(c:Card)(i0:Int):=getD (enS false (Card.Members c)) (toNat i0) []
theorem Z1j(c:Card)(n:Nat)(i0:Int)(f:St→RR)(K:Ex→St→RR):B51_0 n (S51_0 c i0) (kThen (λst↦f (St.head 1 10 274861129740 st)) K)=bif decide (i0<ofNat (length (enS false (Card.Members c))))then bif decide (0≤i0)&&decide (i0<ofNat (length (enS false (Card.Members c))))then bif Leaf.fit false (Leaf.int i64) (getD (y51_0 c i0) 0 D.dead)&&(Leaf.fit false (Leaf.sl 1 true) (getD (y51_0 c i0) 1 D.dead)&&true)then bif isS Int false (D.rows (getD (y51_0 c i0) 1 D.dead))&&Member.small (En.dec (y51_0 c i0))then bif !memberOk (En.dec (y51_0 c i0))then K Ex.ret (X51_2 c)else f (S51_0 c (wrap i64 (i0+1)))else none else none else none else K (Ex.exit 0) (X51_3 c):=by kernel_rfl
theorem Zy6(c:Card)(n:Nat):k51_1 n Ex.ret (X51_2 c)=some ([[D.bool false]],[]):=by kernel_rfl
theorem Zy7(c:Card)(n:Nat):k51_1 n (Ex.exit 0) (X51_3 c)=some ([[D.bool true]],[]):=by kernel_rfl
def e51(c:Card)(n:Nat):=evFn ⟨prog,Hx,51⟩ T62.call n f51 [zp14.row c]
theorem r51(c:Card)(n:Nat):e51 c n=bif !inR (ofNat (length (enS false (Card.Open c)))) (1) (4)then some ([[D.bool false]],[])else bif ofNat (length (enS false (Card.Members c))) !=ofNat (length (enS false (Card.Open c)))then some ([[D.bool false]],[])else bif isS Heard false (enS false (Card.Table c))&&decide (length (deS Heard (enS false (Card.Table c)))≤2097152)then bif !tableOk (deS Heard (enS false (Card.Table c)))then some ([[D.bool false]],[])else loopRun (B51_0 n) 1 10 274861129740 n (S51_0 c (0)) (k51_1 n)else none:=by kernel_rfl
theorem m51(c:Card):(o51 c).1=true→e51 c (c.Members.length+1)=some (o51 c).2:=by
 refine pm λhpre=>(r51 c _).trans ?_;obtain⟨h1,h2,h3,h4⟩:=Zcm hpre;have hall:c.Members.all Member.small=true:=by unfold Card.small at hpre;simp only[Bool.and_eq_true]at hpre;exact hpre.1.2.2
 have htd:decide (c.Table.length≤2097152)=true:=decide_eq_true (by omega)
 unfold cardOk;simp only[Zak,Zad,htd,Bool.and_self,cond_true,Zaa,bne,Zg6];rw[show inR (Int.ofNat c.Open.length) 1 4=inR (c.Open.length:Int) 1 4 from rfl];cases inR (c.Open.length:Int) 1 4
 ·rw[Bool.false_and,Bool.and_false];rfl
 cases decide (c.Members.length=c.Open.length)
 ·rw[Bool.false_and,Bool.and_false,Bool.and_false];rfl
 cases tableOk c.Table
 ·rw[Bool.and_false,Bool.and_false,Bool.and_false];rfl
 simp only[Bool.not_true,cond_false,Bool.and_true];refine Zai (xs:=c.Members) (λi (_:Unit)=>S51_0 c (Int.ofNat i)) (λ_ _=>True) (λ_ _ rest=>some ([[D.bool (rest.all memberOk)]],[])) ?_ ?_ (c.Members.length+1) () (by omega) trivial
 ·rintro _ _ f;refine(Z1j c _ _ f _).trans ?_;delta y51_0;rw[Zaw,cond_false];exact Zy7 _ _
 ·rintro i _ hi _ f hf;have hm:=List.all_eq_true.1 hall _ (List.getElem_mem hi);refine(Z1j c _ _ f _).trans ?_;delta y51_0;refine Zaj (Zaz false hi) (Zaj (by rw[Zaz false hi,Zaq];rfl) (Zaj (by rw[Zac,Zab false hi];rfl) (Zaj (by rw[Zac,Zab false hi,En.dec_enc,hm,Bool.and_true];exact Zak false c.Members[i].In) ?_)))
  rw[Zac,Zab false hi,En.dec_enc,Zae (show i<4611686018427387904 by omega)]
  cases h:memberOk c.Members[i]
  ·refine Zaj rfl ?_;refine(Zy6 _ _).trans ?_;rw[List.all_cons,h];rfl
  ·refine Za5 rfl ?_;refine(hf () trivial).trans ?_;rw[List.all_cons,h,Bool.true_and]
def T51:Table:=(51,c51)::T62
theorem Zrf:Table.Sound prog Hx T51:=sa Zrq func51 (by kernel_rfl) (Zah λc=>Zan λh=>⟨_,m51 c h⟩)
def o63(s1:List Bool)(s2:List Bool):Bool×List Row×List Row:=(decide (s1.length≤1048576),[[.bool (decide (s1=s2))]],[])
def c63:Contract:=(cp zp5 λs1=>cp zp5 λs2=>c0 (o63 s1 s2)) true
def k63_0:KT:=λn↦kThen (λst↦rC 63 T51 n f63 [1,1,1] 16 [] 16 st (lV f63 [] [])) (lV f63 [] [])
def k63_1:KT:=λn↦kBlock (0) (k63_0 n)
def S63_0(s1:List Bool)(s2:List Bool)(i0:Int):St:=St.mk (V_ [C.d (D.sl false 1 (enS false s1))]::V_ [C.d (D.sl false 1 (enS false s2))]::u_ 10 (I_ (ofNat (length (enS false s1)))::I_ i0::u_ 12 [])) []
def B63_0:BT:=λn↦rC 63 T51 n f63 [1,1,0,1,0,0] 12291 [(0,0)] 16
def X63_2:St:=St.mk (u_ 4 (B_ false::u_ 21 [])) []
def X63_3:St:=St.mk (u_ 26 []) []
theorem Z1s(s1:List Bool)(s2:List Bool)(n:Nat)(i0:Int)(f:St→RR)(K:Ex→St→RR):B63_0 n (S63_0 s1 s2 i0) (kThen (λst↦f (St.head 0 12291 67100720 st)) K)=bif decide (i0<ofNat (length (enS false s1)))then bif decide (0≤i0)&&decide (i0<ofNat (length (enS false s1)))then bif Leaf.fit false Leaf.bool (getD (getD (enS false s1) (toNat i0) []) 0 D.dead)&&true then bif decide (0≤i0)&&decide (i0<ofNat (length (enS false s2)))then bif Leaf.fit false Leaf.bool (getD (getD (enS false s2) (toNat i0) []) 0 D.dead)&&true then bif D.flag (getD (getD (enS false s1) (toNat i0) []) 0 D.dead) !=D.flag (getD (getD (enS false s2) (toNat i0) []) 0 D.dead)then K Ex.ret X63_2 else f (S63_0 s1 s2 (wrap i64 (i0+1)))else none else none else none else none else K (Ex.exit 0) X63_3:=by kernel_rfl
theorem Zzi(n:Nat):k63_1 n Ex.ret X63_2=some ([[D.bool false]],[]):=by kernel_rfl
theorem Zzj(n:Nat):k63_1 n (Ex.exit 0) X63_3=some ([[D.bool true]],[]):=by kernel_rfl
def e63(s1:List Bool)(s2:List Bool)(n:Nat):=evFn ⟨prog,Hx,63⟩ T51.call n f63 [zp5.row s1,zp5.row s2]
theorem r63(s1:List Bool)(s2:List Bool)(n:Nat):e63 s1 s2 n=bif ofNat (length (enS false s1)) !=ofNat (length (enS false s2))then some ([[D.bool false]],[])else loopRun (B63_0 n) 0 12291 67100720 n (S63_0 s1 s2 (0)) (k63_1 n):=by kernel_rfl
theorem m63(s1:List Bool)(s2:List Bool):(o63 s1 s2).1=true→e63 s1 s2 (s1.length+1)=some (o63 s1 s2).2:=by
 refine pm λhpre=>(r63 s1 s2 _).trans ?_;have hlen:=of_decide_eq_true hpre;simp only[Zaa,bne,Zg6];cases hd:decide (s1.length=s2.length)
 ·rw[decide_eq_false (λe=>of_decide_eq_false hd (congrArg List.length e))];rfl
 have hl:=of_decide_eq_true hd;refine Za5 rfl ?_;refine Zai (xs:=s1) (λi (_:Unit)=>S63_0 s1 s2 (Int.ofNat i)) (λi _=>s1.take i=s2.take i) (λ_ _ _=>some ([[D.bool (decide (s1=s2))]],[])) ?_ ?_ (s1.length+1) () (by omega) rfl
 ·rintro _ ht f;refine(Z1s s1 s2 _ _ f _).trans ?_;rw[Zaw,cond_false];refine(Zzj _).trans ?_;rw[List.take_length,hl,List.take_length]at ht;rw[decide_eq_true ht]
 ·rintro i _ hi ht f hf;have hj:i<s2.length:=by omega
  refine(Z1s s1 s2 _ _ f _).trans ?_;refine Zaj (Zaz false hi) (Zaj (by rw[Zaz false hi,Zaq];rfl) (Zaj (by rw[Zac,Zab false hi];rfl) (Zaj (by rw[Zaz false hj,Zaq];rfl) (Zaj (by rw[Zac,Zab false hj];rfl) ?_))))
  rw[Zac,Zab false hi,Zab false hj,Zae (show i<4611686018427387904 by omega)]
  cases he:s1[i] !=s2[i]
  ·refine Za5 he ?_;refine hf () ?_;have he':s1[i]=s2[i]:=by simpa using he
   rw[←List.take_append_getElem hi,←List.take_append_getElem hj,ht,he']
  ·refine Zaj he ?_;refine(Zzi _).trans ?_;have he':s1[i]≠s2[i]:=by simpa using he
   rw[decide_eq_false (λe=>he' (by subst e;rfl))]
def T63:Table:=(63,c63)::T51
theorem Zrr:Table.Sound prog Hx T63:=sa Zrf func63 (by kernel_rfl) (Zah λs1=>Zah λs2=>Zan λh=>⟨_,m63 s1 s2 h⟩)
def o64(b:Bridge):Bool×List Row×List Row:=(decide (b.Ports.length≤4),[[.sl true 1 (enS true (opensL b))]],[])
def c64:Contract:=(cp zp4 λb=>c0 (o64 b)) true
def k64_0:KT:=λn↦kThen (λst↦rC 64 T63 n f64 [1,1,1] 4 [] 4 st (lV f64 [] [])) (lV f64 [] [])
def k64_1:KT:=λn↦kBlock (0) (k64_0 n)
def S64_0(b:Bridge)(i0:Int)(es1:List (List D)):St:=St.mk (U_::U_::U_::V_ [C.view 1 0 0 [] 1 none]::u_ 4 (V_ [C.d (D.sl false 11 (enS false (Bridge.Ports b)))]::I_ (ofNat (length (enS false (Bridge.Ports b))))::I_ i0::u_ 13 [])) [Root.mk true 2 [En.enc false b] 0 0 true true false [] 0 [],Root.mk false 1 es1 0 0 true true false [] 0 []]
def B64_0:BT:=λn↦rC 64 T63 n f64 [1,1,0,1,0,0] 1800 [(0,8)] 4
def X64_2(b:Bridge)(es1:List (List D)):St:=St.mk (U_::U_::U_::V_ [C.view 1 0 0 [] 1 none]::u_ 20 []) [Root.mk true 2 [En.enc false b] 0 0 true true false [] 0 [],Root.mk false 1 es1 0 0 true true false [] 0 []]
def y64_0(b:Bridge)(i0:Int):=getD (enS false (Bridge.Ports b)) (toNat i0) []
theorem Z29(b:Bridge)(n:Nat)(i0:Int)(es1:List (List D))(f:St→RR)(K:Ex→St→RR):B64_0 n (S64_0 b i0 es1) (kThen (λst↦f (St.head 2 1800 2096176 st)) K)=bif decide (i0<ofNat (length (enS false (Bridge.Ports b))))then bif decide (0≤i0)&&decide (i0<ofNat (length (enS false (Bridge.Ports b))))then bif Leaf.fit false Leaf.bool (getD (y64_0 b i0) 0 D.dead)&&(Leaf.fit false Leaf.bool (getD (y64_0 b i0) 1 D.dead)&&(Leaf.fit false (Leaf.int i64) (getD (y64_0 b i0) 2 D.dead)&&(Leaf.fit false (Leaf.int i64) (getD (y64_0 b i0) 3 D.dead)&&(Leaf.fit false (Leaf.int i64) (getD (y64_0 b i0) 4 D.dead)&&(Leaf.fit false (Leaf.int i64) (getD (y64_0 b i0) 5 D.dead)&&(Leaf.fit false (Leaf.int i64) (getD (y64_0 b i0) 6 D.dead)&&(Leaf.fit false (Leaf.int i64) (getD (y64_0 b i0) 7 D.dead)&&(Leaf.fit false (Leaf.int i64) (getD (y64_0 b i0) 8 D.dead)&&(Leaf.fit false (Leaf.int i64) (getD (y64_0 b i0) 9 D.dead)&&(Leaf.fit false Leaf.bool (getD (y64_0 b i0) 10 D.dead)&&true))))))))))then bif decide (0≤i0)&&decide (i0<ofNat (length es1))then f (S64_0 b (wrap i64 (i0+1)) (set es1 (0+toNat i0) [D.bool (D.flag (getD (y64_0 b i0) 10 D.dead))]))else none else none else none else K (Ex.exit 0) (X64_2 b es1):=by kernel_rfl
theorem Zzk(b:Bridge)(n:Nat)(es1:List (List D)):k64_1 n (Ex.exit 0) (X64_2 b es1)=bif decide (3<ofNat (length es1))then some ([[D.sl true 1 (set es1 3 [D.bool true])]],[])else none:=by kernel_rfl
def e64(b:Bridge)(n:Nat):=evFn ⟨prog,Hx,64⟩ T63.call n f64 [zp4.row b]
theorem r64(b:Bridge)(n:Nat):e64 b n=loopRun (B64_0 n) 2 1800 2096176 n (S64_0 b (0) [[D.bool false],[D.bool false],[D.bool false],[D.bool false]]) (k64_1 n):=by kernel_rfl
theorem m64(b:Bridge):(o64 b).1=true→e64 b 6=some (o64 b).2:=by
 refine pm λhpre=>(r64 b _).trans ?_;have h4:b.Ports.length≤4:=of_decide_eq_true hpre;have hT:(opT b).length=opP.length:=rfl;refine Zby (V:=Nat) (λi=>S64_0 b (Int.ofNat i) (enS true ((opT b).take i++opP.drop i))) (λi=>i≤b.Ports.length) (λi=>b.Ports.length-i) (λ_=>some ([[D.sl true 1 (enS true (opensL b))]],[])) ?_ 6 0 (Nat.zero_le _) (by omega)
 intro i hil f hf;have hyl:((opT b).take i++opP.drop i).length=4:=mixL hT i;refine(Z29 b _ _ _ f _).trans ?_;delta y64_0;by_cases hi:i<b.Ports.length
 ·have hi4:i<4:=by omega
  refine Zaj (Zaz false hi) (Zaj (by rw[Zaz false hi,Zaq];rfl) (Zaj (by rw[Zac,Zab false hi];rfl) (Zaj (by rw[Zaa,hyl,Zaq];exact decide_eq_true (show(i:Int)<4 by omega)) ?_)))
  rw[Zac,Nat.zero_add,Zab false hi,Zae (show i<4611686018427387904 by omega)]
  refine(congrArg f (congrArg (S64_0 b _) ((Za9 true _ i b.Ports[i].Open).trans (congrArg (enS true) (mixS hT hi4 ((Zx5 b i hi4).trans (Zvu hi))))))).trans ?_;exact hf (i+1) hi (by omega)
 ·obtain rfl:i=b.Ports.length:=by omega
  refine Za5 (Zaw false b.Ports) ?_;refine(Zzk _ _ _).trans ?_;rw[Zx4 _ rfl h4];refine Zaj rfl ?_;exact congrArg (λz=>(some ([[D.sl true 1 z]],[]):RR)) ((Za9 true (opT b) 3 true).trans (congrArg (enS true) (Zx6 b)))
def T64:Table:=(64,c64)::T63
theorem Zrs:Table.Sound prog Hx T64:=sa Zrr func64 (by kernel_rfl) (Zah λb=>Zan λh=>⟨_,m64 b h⟩)
def o91(b:Bridge):Bool×List Row×List Row:=(decide (b.Ports.length≤1048576),[[.sl true 1 (enS true (cardB b).Open),.sl true 2 (enS true (cardB b).Members),.sl true 4 (enS true (cardB b).Table)]],[])
def c91:Contract:=(cp zp4 λb=>c0 (o91 b)) true
def k91_0:KT:=λn↦kThen (λst↦rC 91 T64 n f91 [1,1,1] 4 [] 4 st (lV f91 [] [])) (lV f91 [] [])
def k91_1:KT:=λn↦kBlock (0) (k91_0 n)
def S91_0(b:Bridge)(i0:Int)(es1:List (List D))(es2:List (List D)):St:=St.mk (U_::V_ [C.ptr 0 0 0 [] 2 0 0]::V_ [C.ptr 1 0 0 [] 3 0 0]::V_ [C.ptr 2 0 0 [] 3 0 0]::I_ i0::u_ 37 []) [Root.mk true 2 [En.enc false b] 0 0 true true false [] 0 [],Root.mk true 3 [[D.sl true 1 [],D.sl true 2 [],D.sl true 4 []]] 0 0 true true false [] 0 [],Root.mk true 3 [[D.sl true 1 es1,D.sl true 2 es2,D.sl true 4 []]] 0 0 true true false [] 0 []]
def B91_0:BT:=λn↦rC 91 T64 n f91 [1,1,0,1,0,0] 30 [(0,12)] 4
def X91_2(b:Bridge)(es1:List (List D))(es2:List (List D)):St:=St.mk (U_::U_::V_ [C.ptr 1 0 0 [] 3 0 0]::V_ [C.ptr 2 0 0 [] 3 0 0]::u_ 38 []) [Root.mk true 2 [En.enc false b] 0 0 true true false [] 0 [],Root.mk true 3 [[D.sl true 1 [],D.sl true 2 [],D.sl true 4 []]] 0 0 true true false [] 0 [],Root.mk true 3 [[D.sl true 1 es1,D.sl true 2 es2,D.sl true 4 []]] 0 0 true true false [] 0 []]
theorem Z3a(b:Bridge)(n:Nat)(i0:Int)(es1:List (List D))(es2:List (List D))(f:St→RR)(K:Ex→St→RR):B91_0 n (S91_0 b i0 es1 es2) (kThen (λst↦f (St.head 3 30 2199023255472 st)) K)=bif decide (i0<4)then bif i0 !=3 then bif decide (i0<ofNat (length (enS false (Bridge.Ports b))))then bif decide (0≤i0)&&decide (i0<ofNat (length (enS false (Bridge.Ports b))))then bif Leaf.fit false Leaf.bool (getD (drop 10 (getD (enS false (Bridge.Ports b)) (toNat i0) [])) 0 D.dead)&&true then bif decide ((length es1+1)*1≤140737488355328)then bif decide ((length es2+1)*32≤140737488355328)then f (S91_0 b (wrap i64 (i0+1)) (append es1 [[D.bool (D.flag (getD (drop 10 (getD (enS false (Bridge.Ports b)) (toNat i0) [])) 0 D.dead))]]) (append es2 [[D.int i64 (1),D.sl true 1 [[D.int i64 (1)]]]]))else none else none else none else none else bif decide ((length es1+1)*1≤140737488355328)then bif decide ((length es2+1)*32≤140737488355328)then f (S91_0 b (wrap i64 (i0+1)) (append es1 [[D.bool (i0==3)]]) (append es2 [[D.int i64 (1),D.sl true 1 [[D.int i64 (1)]]]]))else none else none else bif decide ((length es1+1)*1≤140737488355328)then bif decide ((length es2+1)*32≤140737488355328)then f (S91_0 b (wrap i64 (i0+1)) (append es1 [[D.bool (i0==3)]]) (append es2 [[D.int i64 (1),D.sl true 1 [[D.int i64 (1)]]]]))else none else none else K (Ex.exit 0) (X91_2 b es1 es2):=by kernel_rfl
theorem Zz7(b:Bridge)(n:Nat)(es1:List (List D))(es2:List (List D)):k91_1 n (Ex.exit 0) (X91_2 b es1 es2)=some ([[D.sl true 1 es1,D.sl true 2 es2,D.sl true 4 []]],[]):=by kernel_rfl
def e91(b:Bridge)(n:Nat):=evFn ⟨prog,Hx,91⟩ T64.call n f91 [zp4.row b]
theorem r91(b:Bridge)(n:Nat):e91 b n=loopRun (B91_0 n) 3 30 2199023255472 n (S91_0 b (0) [] []) (k91_1 n):=by kernel_rfl
theorem m91(b:Bridge):(o91 b).1=true→e91 b 6=some (o91 b).2:=by
 refine pm λhpre=>(r91 b _).trans ?_;have hlen:=of_decide_eq_true hpre;refine Zby (V:=Nat) (λi=>S91_0 b (Int.ofNat i) (enS true ((opensL b).take i)) (enS true (List.replicate i (⟨1,[1]⟩:Member)))) (λi=>i≤4) (λi=>4-i) (λ_=>some ([[D.sl true 1 (enS true (opensL b)),D.sl true 2 (enS true (cardB b).Members),D.sl true 4 []]],[])) ?_ 6 0 (Nat.zero_le _) (by omega)
 intro i hil f hf;refine(Z3a b _ _ _ _ f _).trans ?_;have h1:decide ((((opensL b).take i).length+1)*1≤140737488355328)=true:=decide_eq_true (by rw[List.length_take];omega)
 have h2:decide (((List.replicate i (⟨1,[1]⟩:Member)).length+1)*32≤140737488355328)=true:=decide_eq_true (by rw[List.length_replicate];omega)
 have key:∀x,(∀h:i<(opensL b).length,(opensL b)[i]=x)→i<4→f (S91_0 b (IntKind.wrap IntKind.i64 (Int.ofNat i+1)) (List.append (enS true ((opensL b).take i)) [[D.bool x]]) (List.append (enS true (List.replicate i (⟨1,[1]⟩:Member))) [[D.int .i64 1,D.sl true 1 [[D.int .i64 1]]]]))=some ([[D.sl true 1 (enS true (opensL b)),D.sl true 2 (enS true (cardB b).Members),D.sl true 4 []]],[]):=by
  intro x hx hi;have hi':i<(opensL b).length:=hi;rw[Zae (show i<4611686018427387904 by omega)]
  have e1:List.append (enS true ((opensL b).take i)) [[D.bool x]]=enS true ((opensL b).take (i+1)):=by
   refine(Zba true ((opensL b).take i) x).trans ?_;rw[←hx hi',List.take_append_getElem]
  have e2:List.append (enS true (List.replicate i (⟨1,[1]⟩:Member))) [[D.int .i64 1,D.sl true 1 [[D.int .i64 1]]]]=enS true (List.replicate (i+1) (⟨1,[1]⟩:Member)):=by
   refine(Zba true (List.replicate i (⟨1,[1]⟩:Member)) ⟨1,[1]⟩).trans ?_;rw[List.replicate_succ']
  rw[e1,e2];exact hf (i+1) (by omega) (by omega)
 by_cases hi:i<4
 case neg=>
  obtain rfl:i=4:=by omega
  refine Za5 rfl ?_;exact Zz7 _ _ _ _
 refine Zaj (decide_eq_true (show(i:Int)<4 by omega)) ?_
 by_cases h3:i=3
 ·subst h3;refine Za5 rfl (Zaj (by rw[Zaa];exact h1) (Zaj (by rw[Zaa];exact h2) ?_))
  exact key true (λ_=>rfl) (by omega)
 have hne:(Int.ofNat i !=3)=true:=by
  rw[bne_iff_ne];show(i:Int)≠3;omega
 have hg:∀h:i<(opensL b).length,(opensL b)[i]=opF b i:=λh=>Ztz b i h (by omega)
 refine Zaj hne ?_;by_cases hp:i<b.Ports.length
 ·refine Zaj (Zaz false hp) (Zaj (by rw[Zaz false hp,Zaq];rfl) (Zaj (by rw[Zac,Zab false hp];rfl) (Zaj (by rw[Zaa];exact h1) (Zaj (by rw[Zaa];exact h2) ?_))))
  rw[Zac,Zab false hp];exact key b.Ports[i].Open (λh=>(hg h).trans (Zvu hp)) hi
 ·refine Za5 (by rw[Zaa,Zap];exact decide_eq_false hp) (Zaj (by rw[Zaa];exact h1) (Zaj (by rw[Zaa];exact h2) ?_))
  have hz:(Int.ofNat i==3)=false:=by
   rw[beq_eq_false_iff_ne];show(i:Int)≠3;omega
  rw[hz];exact key false (λh=>(hg h).trans (Zdb (by omega))) hi
def T91:Table:=(91,c91)::T64
theorem Zsj:Table.Sound prog Hx T91:=sa Zrs func91 (by kernel_rfl) (Zah λb=>Zan λh=>⟨_,m91 b h⟩)
end Go.Ev
end
