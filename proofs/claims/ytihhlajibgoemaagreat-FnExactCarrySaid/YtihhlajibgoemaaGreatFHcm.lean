/- Contracts of functions, each by its evaluation. -/
import Derived.Test.YtihhlajibgoemaaGreatEvMd
import Derived.Test.YtihhlajibgoemaaGreatProg
import Derived.KernelRfl
import Derived.Test.YtihhlajibgoemaaGreatFNet3
set_option linter.unusedVariables false
set_option linter.unusedSimpArgs false
set_option maxRecDepth 100000
noncomputable section
open List (getD length drop take set append replicate all isEmpty)
open Int (toNat ofNat)
open Go.IntKind (i64 wrap)
open Go.Proofs.Tryz (prog f122 f123 f124 f125 f13 f14 f15 f16 f17 f39 f40 f41 f42 f43 f44 f75 f76 f77 f78 f79 f80 f81 f82 f83 f84 func122 func123 func124 func125 func13 func14 func15 func16 func17 func39 func40 func41 func42 func43 func44 func75 func76 func77 func78 func79 func80 func81 func82 func83 func84)
namespace Go.Ev
open Go.RowKit Go.Md
end Go.Ev
namespace Go.Md
open Go Go.Ev
def oneN{α:Type}(_:α):Int:=1
theorem Zbh{α:Type}(x:α):0≤oneN x:=by show(0:Int)≤1;omega
def boolMk(_:Bool)(k:Int):Bool:=k.tmod 3==0
def Vec.mk_(x:Vec)(k:Int):Vec:=⟨k,k+1,k+1+1,k+1+1+1⟩
def Vec.n_(x:Vec):Int:=1+1+1+1
theorem Vec.n_pos(x:Vec):0≤Vec.n_ x:=by show(0:Int)≤1+1+1+1;decide
def Port.mk_(x:Port)(k:Int):Port:=⟨(k).tmod 3==0,(k+1).tmod 3==0,⟨k+1+1,k+1+1+1,k+1+1+1+1,k+1+1+1+1+1⟩,k+1+1+1+1+1+1,k+1+1+1+1+1+1+1,k+1+1+1+1+1+1+1+1,k+1+1+1+1+1+1+1+1+1,(k+1+1+1+1+1+1+1+1+1+1).tmod 3==0⟩
def Port.n_(x:Port):Int:=1+1+1+1+1+1+1+1+1+1+1
theorem Port.n_pos(x:Port):0≤Port.n_ x:=by show(0:Int)≤1+1+1+1+1+1+1+1+1+1+1;decide
def Bridge.mk_(x:Bridge)(k:Int):Bridge:=⟨k,markS Port.mk_ Port.n_ x.Ports (k+1)⟩
def Bridge.n_(x:Bridge):Int:=1+cntS Port.n_ x.Ports
theorem Bridge.n_pos(x:Bridge):0≤Bridge.n_ x:=by
 have h1:=Zag (n:=Port.n_) Port.n_pos x.Ports;unfold Bridge.n_;omega
def byteMk(_:UInt8)(k:Int):UInt8:=(IntKind.wrap IntKind.u8 k).toNat.toUInt8
def intMk(_:Int)(k:Int):Int:=k
def Member.mk_(x:Member)(k:Int):Member:=⟨k,markS intMk oneN x.In (k+1)⟩
def Member.n_(x:Member):Int:=1+cntS oneN x.In
theorem Member.n_pos(x:Member):0≤Member.n_ x:=by
 have h1:=Zag (n:=oneN) Zbh x.In;unfold Member.n_;omega
def Heard.mk_(x:Heard)(k:Int):Heard:=⟨k,k+1,k+1+1,k+1+1+1⟩
def Heard.n_(x:Heard):Int:=1+1+1+1
theorem Heard.n_pos(x:Heard):0≤Heard.n_ x:=by show(0:Int)≤1+1+1+1;decide
def Card.mk_(x:Card)(k:Int):Card:=⟨markS boolMk oneN x.Open (k),markS Member.mk_ Member.n_ x.Members (k+cntS oneN x.Open),markS Heard.mk_ Heard.n_ x.Table (k+cntS oneN x.Open+cntS Member.n_ x.Members)⟩
def Card.n_(x:Card):Int:=cntS oneN x.Open+cntS Member.n_ x.Members+cntS Heard.n_ x.Table
theorem Card.n_pos(x:Card):0≤Card.n_ x:=by
 have h0:=Zag (n:=oneN) Zbh x.Open;have h1:=Zag (n:=Member.n_) Member.n_pos x.Members;have h2:=Zag (n:=Heard.n_) Heard.n_pos x.Table;unfold Card.n_;omega
def Link.mk_(x:Link)(k:Int):Link:=⟨k,k+1,k+1+1,k+1+1+1⟩
def Link.n_(x:Link):Int:=1+1+1+1
theorem Link.n_pos(x:Link):0≤Link.n_ x:=by show(0:Int)≤1+1+1+1;decide
def Net.mkTop(x:Net)(k:Int):Net:=⟨markS Bridge.mk_ Bridge.n_ x.Bridges (k),markS Link.mk_ Link.n_ x.Links (k+cntS Bridge.n_ x.Bridges)⟩
def Net.nTop(x:Net):Int:=cntS Bridge.n_ x.Bridges+cntS Link.n_ x.Links
theorem Net.nTop_pos(x:Net):0≤Net.nTop x:=by
 have h0:=Zag (n:=Bridge.n_) Bridge.n_pos x.Bridges;have h1:=Zag (n:=Link.n_) Link.n_pos x.Links;unfold Net.nTop;omega
def Fabric.mkTop(x:Fabric)(k:Int):Fabric:=⟨Net.mkTop x.Net (k),markS Card.mk_ Card.n_ x.Cards (k+Net.nTop x.Net)⟩
def Fabric.nTop(x:Fabric):Int:=Net.nTop x.Net+cntS Card.n_ x.Cards
theorem Fabric.nTop_pos(x:Fabric):0≤Fabric.nTop x:=by
 have h0:=Net.nTop_pos x.Net;have h1:=Zag (n:=Card.n_) Card.n_pos x.Cards;unfold Fabric.nTop;omega
def TFrame.mk_(x:TFrame)(k:Int):TFrame:=⟨k,k+1,k+1+1,markS byteMk oneN x.Load (k+1+1+1)⟩
def TFrame.n_(x:TFrame):Int:=1+1+1+cntS oneN x.Load
theorem TFrame.n_pos(x:TFrame):0≤TFrame.n_ x:=by
 have h3:=Zag (n:=oneN) Zbh x.Load;unfold TFrame.n_;omega
def Got.mk_(x:Got)(k:Int):Got:=⟨k,TFrame.mk_ x.Frame (k+1)⟩
def Got.n_(x:Got):Int:=1+TFrame.n_ x.Frame
theorem Got.n_pos(x:Got):0≤Got.n_ x:=by
 have g1:=TFrame.n_pos x.Frame;unfold Got.n_;omega
def TFrame.mkTop(x:TFrame)(k:Int):TFrame:=⟨x.To,x.From,x.Vlan,markS byteMk oneN x.Load (k)⟩
def TFrame.nTop(x:TFrame):Int:=cntS oneN x.Load
theorem TFrame.nTop_pos(x:TFrame):0≤TFrame.nTop x:=by
 have h0:=Zag (n:=oneN) Zbh x.Load;unfold TFrame.nTop;omega
end Go.Md
namespace Go.Ev
open Go.Md
def o82(a:List Bool)(k:Int):Bool×List Row×List Row:=(sameB (markS boolMk oneN a k) a&&(decide (0≤k)&&(decide (k+cntS oneN a≤4611686018427387904)&&decide (a.length≤1152921504606846976))),[[.int .i64 (k+cntS oneN a)]],[])
def c82:Contract:=(cp zp5 λa=>cp zp0 λk=>c0 (o82 a k)) true
def k82_0:KT:=λn↦kThen (λst↦rC 82 T26 n f82 [1,1] 16 [] 16 st (lV f82 [] [])) (lV f82 [] [])
def k82_1:KT:=λn↦kBlock (0) (k82_0 n)
def S82_0(a:List Bool)(i0:Int)(i1:Int):St:=St.mk (V_ [C.d (D.sl false 1 (enS false a))]::I_ i0::U_::U_::U_::I_ i1::u_ 17 []) []
def B82_0:BT:=λn↦rC 82 T26 n f82 [1,0,1,0,0] 35 [(0,2)] 16
def X82_2:St:=St.mk (u_ 4 (I_ (Int.negSucc 0)::u_ 18 [])) []
def X82_3(i0:Int):St:=St.mk (U_::I_ i0::u_ 21 []) []
theorem Z15(a:List Bool)(n:Nat)(i0:Int)(i1:Int)(f:St→RR)(K:Ex→St→RR):B82_0 n (S82_0 a i0 i1) (kThen (λst↦f (St.head 0 35 4194290 st)) K)=bif decide (i1<ofNat (length (enS false a)))then bif decide (0≤i1)&&decide (i1<ofNat (length (enS false a)))then bif Leaf.fit false Leaf.bool (getD (getD (enS false a) (toNat i1) []) 0 D.dead)&&true then bif D.flag (getD (getD (enS false a) (toNat i1) []) 0 D.dead) !=(Int.tmod i0 (3)==0)then K Ex.ret X82_2 else f (S82_0 a (wrap i64 (i0+1)) (wrap i64 (i1+1)))else none else none else K (Ex.exit 0) (X82_3 i0):=by kernel_rfl
theorem aX82_2(n:Nat):k82_1 n Ex.ret X82_2=some ([[D.int i64 (Int.negSucc 0)]],[]):=by kernel_rfl
theorem Zz0(n:Nat)(i0:Int):k82_1 n (Ex.exit 0) (X82_3 i0)=some ([[D.int i64 i0]],[]):=by kernel_rfl
def e82(a:List Bool)(k:Int)(n:Nat):=evFn ⟨prog,Hx,82⟩ T26.call n f82 [zp5.row a,zp0.row k]
theorem r82(a:List Bool)(k:Int)(n:Nat):e82 a k n=loopRun (B82_0 n) 0 35 4194290 n (S82_0 a k (0)) (k82_1 n):=by kernel_rfl
theorem m82(a:List Bool)(k:Int):(o82 a k).1=true→e82 a k (a.length+1)=some (o82 a k).2:=by
 refine pm λhpre=>(r82 a k _).trans ?_;rw[Bool.and_eq_true]at hpre;obtain⟨hsame,hpre⟩:=hpre;have hsame:=Zav hsame;simp only[Bool.and_eq_true,decide_eq_true_eq]at hpre;obtain⟨h0,h1,h2⟩:=hpre;refine Zai (xs:=a) (λi (k:Int)=>S82_0 a k (Int.ofNat i)) (λi k=>0≤k∧k+cntS oneN (a.drop i)≤4611686018427387904∧markS boolMk oneN (a.drop i) k=a.drop i) (λ_ k rest=>some ([[D.int .i64 (k+cntS oneN rest)]],[])) ?_ ?_ (a.length+1) k (by omega) ⟨h0,h1,hsame⟩
 ·rintro k ⟨hk0,hk1,_⟩ f;refine(Z15 a _ _ _ f _).trans ?_;simp only[Zaa,Zap,Nat.lt_irrefl,decide_false,cond_false];refine(Zz0 _ _).trans ?_;simp only[cntS,Int.add_zero]
 ·rintro i k hi ⟨hk0,hk1,hk2⟩ f hf;rw[List.drop_eq_getElem_cons hi]at hk1 hk2;have hc:=Zag (n:=oneN) Zbh (a.drop (i+1));have hn:oneN a[i]=1:=rfl;simp only[cntS,hn]at hk1;have he:k+1=k+oneN a[i]:=by omega
  simp only[markS,List.cons.injEq]at hk2;obtain⟨hk2,hk3⟩:=hk2;refine(Z15 a _ _ _ f _).trans ?_;simp only[Zaa,Zac,Zap,Zaq,Zab _ hi,hi,Zae (show i<4611686018427387904 by omega),decide_true,cond_true,Bool.and_self]
  have hw1:IntKind.wrap IntKind.i64 (k+1)=k+1:=Zau (by omega) (by omega)
  simp only[hw1];rw[←hk2];refine Eq.trans (b:=f (S82_0 a (k+1) (Int.ofNat (i+1)))) ?_ ((hf (k+1) ⟨by omega,by omega,by rw[he];exact hk3⟩).trans ?_)
  ·simp only[En.enc,boolMk,Leaf.fit,List.drop_succ_cons,List.drop_zero,List.getD_cons_zero,List.getD_cons_succ,D.num,D.flag,D.text,bne_self_eq_false,Bool.and_self,cond_true,cond_false,decide_true]
  ·show _=some ([[D.int .i64 (k+(oneN a[i]+cntS oneN (a.drop (i+1))))]],[]);rw[he,Int.add_assoc]
def T82:Table:=(82,c82)::T26
theorem Zsa:Table.Sound prog Hx T82:=sa Zqq func82 (by kernel_rfl) (Zah λa=>Zah λk=>Zan λh=>⟨_,m82 a k h⟩)
def o124(a:List Port)(k:Int):Bool×List Row×List Row:=(sameB (markS Port.mk_ Port.n_ a k) a&&(decide (0≤k)&&(decide (k+cntS Port.n_ a≤4611686018427387904)&&decide (a.length≤1152921504606846976))),[[.int .i64 (k+cntS Port.n_ a)]],[])
def c124:Contract:=(cp zp6 λa=>cp zp0 λk=>c0 (o124 a k)) true
def k124_0:KT:=λn↦kThen (λst↦rC 124 T82 n f124 [1,1] 16 [] 16 st (lV f124 [] [])) (lV f124 [] [])
def k124_1:KT:=λn↦kBlock (0) (k124_0 n)
def S124_0(a:List Port)(i0:Int)(i1:Int):St:=St.mk (V_ [C.d (D.sl false 11 (enS false a))]::I_ i0::U_::U_::U_::I_ i1::u_ 116 []) []
def B124_0:BT:=λn↦rC 124 T82 n f124 [1,0,1,0,0] 35 [(0,2)] 16
def X124_2:St:=St.mk (u_ 4 (I_ (Int.negSucc 0)::u_ 117 [])) []
def X124_13(i0:Int):St:=St.mk (U_::I_ i0::u_ 120 []) []
def y124_0(i0:Int):=wrap i64 (wrap i64 (wrap i64 (wrap i64 (wrap i64 (i0+1)+1)+1)+1)+1)+1
def y124_1(a:List Port)(i1:Int):=drop 2 (getD (enS false a) (toNat i1) [])
theorem Zv9(a:List Port)(n:Nat)(i0:Int)(i1:Int)(f:St→RR)(K:Ex→St→RR):B124_0 n (S124_0 a i0 i1) (kThen (λst↦f (St.head 0 35 2658455991569831745807614120560689138 st)) K)=bif decide (i1<ofNat (length (enS false a)))then bif decide (0≤i1)&&decide (i1<ofNat (length (enS false a)))then bif Leaf.fit false Leaf.bool (getD (getD (enS false a) (toNat i1) []) 0 D.dead)&&true then bif D.flag (getD (getD (enS false a) (toNat i1) []) 0 D.dead) !=(Int.tmod i0 (3)==0)then K Ex.ret X124_2 else bif decide (0≤i1)&&decide (i1<ofNat (length (enS false a)))then bif Leaf.fit false Leaf.bool (getD (drop 1 (getD (enS false a) (toNat i1) [])) 0 D.dead)&&true then bif D.flag (getD (drop 1 (getD (enS false a) (toNat i1) [])) 0 D.dead) !=(Int.tmod (wrap i64 (i0+1)) (3)==0)then K Ex.ret X124_2 else bif decide (0≤i1)&&decide (i1<ofNat (length (enS false a)))then bif Leaf.fit false (Leaf.int i64) (getD (y124_1 a i1) 0 D.dead)&&true then bif D.num (getD (y124_1 a i1) 0 D.dead) !=wrap i64 (wrap i64 (i0+1)+1)then K Ex.ret X124_2 else bif decide (0≤i1)&&decide (i1<ofNat (length (enS false a)))then bif Leaf.fit false (Leaf.int i64) (getD (drop 1 (y124_1 a i1)) 0 D.dead)&&true then bif D.num (getD (drop 1 (y124_1 a i1)) 0 D.dead) !=wrap i64 (wrap i64 (wrap i64 (i0+1)+1)+1)then K Ex.ret X124_2 else bif decide (0≤i1)&&decide (i1<ofNat (length (enS false a)))then bif Leaf.fit false (Leaf.int i64) (getD (drop 2 (y124_1 a i1)) 0 D.dead)&&true then bif D.num (getD (drop 2 (y124_1 a i1)) 0 D.dead) !=wrap i64 (wrap i64 (wrap i64 (wrap i64 (i0+1)+1)+1)+1)then K Ex.ret X124_2 else bif decide (0≤i1)&&decide (i1<ofNat (length (enS false a)))then bif Leaf.fit false (Leaf.int i64) (getD (drop 3 (y124_1 a i1)) 0 D.dead)&&true then bif D.num (getD (drop 3 (y124_1 a i1)) 0 D.dead) !=wrap i64 (wrap i64 (wrap i64 (wrap i64 (wrap i64 (i0+1)+1)+1)+1)+1)then K Ex.ret X124_2 else bif decide (0≤i1)&&decide (i1<ofNat (length (enS false a)))then bif Leaf.fit false (Leaf.int i64) (getD (drop 6 (getD (enS false a) (toNat i1) [])) 0 D.dead)&&true then bif D.num (getD (drop 6 (getD (enS false a) (toNat i1) [])) 0 D.dead) !=wrap i64 (y124_0 i0)then K Ex.ret X124_2 else bif decide (0≤i1)&&decide (i1<ofNat (length (enS false a)))then bif Leaf.fit false (Leaf.int i64) (getD (drop 7 (getD (enS false a) (toNat i1) [])) 0 D.dead)&&true then bif D.num (getD (drop 7 (getD (enS false a) (toNat i1) [])) 0 D.dead) !=wrap i64 (wrap i64 (y124_0 i0)+1)then K Ex.ret X124_2 else bif decide (0≤i1)&&decide (i1<ofNat (length (enS false a)))then bif Leaf.fit false (Leaf.int i64) (getD (drop 8 (getD (enS false a) (toNat i1) [])) 0 D.dead)&&true then bif D.num (getD (drop 8 (getD (enS false a) (toNat i1) [])) 0 D.dead) !=wrap i64 (wrap i64 (wrap i64 (y124_0 i0)+1)+1)then K Ex.ret X124_2 else bif decide (0≤i1)&&decide (i1<ofNat (length (enS false a)))then bif Leaf.fit false (Leaf.int i64) (getD (drop 9 (getD (enS false a) (toNat i1) [])) 0 D.dead)&&true then bif D.num (getD (drop 9 (getD (enS false a) (toNat i1) [])) 0 D.dead) !=wrap i64 (wrap i64 (wrap i64 (wrap i64 (y124_0 i0)+1)+1)+1)then K Ex.ret X124_2 else bif decide (0≤i1)&&decide (i1<ofNat (length (enS false a)))then bif Leaf.fit false Leaf.bool (getD (drop 10 (getD (enS false a) (toNat i1) [])) 0 D.dead)&&true then bif D.flag (getD (drop 10 (getD (enS false a) (toNat i1) [])) 0 D.dead) !=(Int.tmod (wrap i64 (wrap i64 (wrap i64 (wrap i64 (wrap i64 (y124_0 i0)+1)+1)+1)+1)) (3)==0)then K Ex.ret X124_2 else f (S124_0 a (wrap i64 (wrap i64 (wrap i64 (wrap i64 (wrap i64 (wrap i64 (y124_0 i0)+1)+1)+1)+1)+1)) (wrap i64 (i1+1)))else none else none else none else none else none else none else none else none else none else none else none else none else none else none else none else none else none else none else none else none else none else none else K (Ex.exit 0) (X124_13 i0):=by kernel_rfl
theorem Z2v(n:Nat):k124_1 n Ex.ret X124_2=some ([[D.int i64 (Int.negSucc 0)]],[]):=by kernel_rfl
theorem Zum(n:Nat)(i0:Int):k124_1 n (Ex.exit 0) (X124_13 i0)=some ([[D.int i64 i0]],[]):=by kernel_rfl
def e124(a:List Port)(k:Int)(n:Nat):=evFn ⟨prog,Hx,124⟩ T82.call n f124 [zp6.row a,zp0.row k]
theorem r124(a:List Port)(k:Int)(n:Nat):e124 a k n=loopRun (B124_0 n) 0 35 2658455991569831745807614120560689138 n (S124_0 a k (0)) (k124_1 n):=by kernel_rfl
theorem m124(a:List Port)(k:Int):(o124 a k).1=true→e124 a k (a.length+1)=some (o124 a k).2:=by
 refine pm λhpre=>(r124 a k _).trans ?_;rw[Bool.and_eq_true]at hpre;obtain⟨hsame,hpre⟩:=hpre;have hsame:=Zav hsame;simp only[Bool.and_eq_true,decide_eq_true_eq]at hpre;obtain⟨h0,h1,h2⟩:=hpre;refine Zai (xs:=a) (λi (k:Int)=>S124_0 a k (Int.ofNat i)) (λi k=>0≤k∧k+cntS Port.n_ (a.drop i)≤4611686018427387904∧markS Port.mk_ Port.n_ (a.drop i) k=a.drop i) (λ_ k rest=>some ([[D.int .i64 (k+cntS Port.n_ rest)]],[])) ?_ ?_ (a.length+1) k (by omega) ⟨h0,h1,hsame⟩
 ·rintro k ⟨hk0,hk1,_⟩ f;refine(Zv9 a _ _ _ f _).trans ?_;delta y124_0 y124_1;simp only[Zaa,Zap,Nat.lt_irrefl,decide_false,cond_false];refine(Zum _ _).trans ?_;simp only[cntS,Int.add_zero]
 ·rintro i k hi ⟨hk0,hk1,hk2⟩ f hf;rw[List.drop_eq_getElem_cons hi]at hk1 hk2;have hc:=Zag (n:=Port.n_) Port.n_pos (a.drop (i+1));have hn:Port.n_ a[i]=11:=rfl;simp only[cntS,hn]at hk1;have he:k+1+1+1+1+1+1+1+1+1+1+1=k+Port.n_ a[i]:=by omega
  simp only[markS,List.cons.injEq]at hk2;obtain⟨hk2,hk3⟩:=hk2;refine(Zv9 a _ _ _ f _).trans ?_;delta y124_0 y124_1;simp only[Zaa,Zac,Zap,Zaq,Zab _ hi,hi,Zae (show i<4611686018427387904 by omega),decide_true,cond_true,Bool.and_self]
  have hw1:IntKind.wrap IntKind.i64 (k+1)=k+1:=Zau (by omega) (by omega)
  have hw2:IntKind.wrap IntKind.i64 (k+1+1)=k+1+1:=Zau (by omega) (by omega)
  have hw3:IntKind.wrap IntKind.i64 (k+1+1+1)=k+1+1+1:=Zau (by omega) (by omega)
  have hw4:IntKind.wrap IntKind.i64 (k+1+1+1+1)=k+1+1+1+1:=Zau (by omega) (by omega)
  have hw5:IntKind.wrap IntKind.i64 (k+1+1+1+1+1)=k+1+1+1+1+1:=Zau (by omega) (by omega)
  have hw6:IntKind.wrap IntKind.i64 (k+1+1+1+1+1+1)=k+1+1+1+1+1+1:=Zau (by omega) (by omega)
  have hw7:IntKind.wrap IntKind.i64 (k+1+1+1+1+1+1+1)=k+1+1+1+1+1+1+1:=Zau (by omega) (by omega)
  have hw8:IntKind.wrap IntKind.i64 (k+1+1+1+1+1+1+1+1)=k+1+1+1+1+1+1+1+1:=Zau (by omega) (by omega)
  have hw9:IntKind.wrap IntKind.i64 (k+1+1+1+1+1+1+1+1+1)=k+1+1+1+1+1+1+1+1+1:=Zau (by omega) (by omega)
  have hw10:IntKind.wrap IntKind.i64 (k+1+1+1+1+1+1+1+1+1+1)=k+1+1+1+1+1+1+1+1+1+1:=Zau (by omega) (by omega)
  have hw11:IntKind.wrap IntKind.i64 (k+1+1+1+1+1+1+1+1+1+1+1)=k+1+1+1+1+1+1+1+1+1+1+1:=Zau (by omega) (by omega)
  simp only[hw1,hw2,hw3,hw4,hw5,hw6,hw7,hw8,hw9,hw10,hw11];rw[←hk2];refine Eq.trans (b:=f (S124_0 a (k+1+1+1+1+1+1+1+1+1+1+1) (Int.ofNat (i+1)))) ?_ ((hf (k+1+1+1+1+1+1+1+1+1+1+1) ⟨by omega,by omega,by rw[he];exact hk3⟩).trans ?_)
  ·simp only[En.enc,Port.mk_,Leaf.fit,List.drop_succ_cons,List.drop_zero,List.getD_cons_zero,List.getD_cons_succ,D.num,D.flag,D.text,bne_self_eq_false,Bool.and_self,cond_true,cond_false,decide_true]
  ·show _=some ([[D.int .i64 (k+(Port.n_ a[i]+cntS Port.n_ (a.drop (i+1))))]],[]);rw[he,Int.add_assoc]
def T124:Table:=(124,c124)::T82
theorem Zop:Table.Sound prog Hx T124:=sa Zsa func124 (by kernel_rfl) (Zah λa=>Zah λk=>Zan λh=>⟨_,m124 a k h⟩)
def o80(a:List Bridge)(k:Int):Bool×List Row×List Row:=(sameB (markS Bridge.mk_ Bridge.n_ a k) a&&(decide (0≤k)&&(decide (k+cntS Bridge.n_ a≤4611686018427387904)&&(decide (a.length≤1152921504606846976)&&a.all (λx=>decide (x.Ports.length≤1152921504606846976))))),[[.int .i64 (k+cntS Bridge.n_ a)]],[])
def c80:Contract:=(cp zp7 λa=>cp zp0 λk=>c0 (o80 a k)) true
def k80_0:KT:=λn↦kThen (λst↦rC 80 T124 n f80 [1,1] 16 [] 16 st (lV f80 [] [])) (lV f80 [] [])
def k80_1:KT:=λn↦kBlock (0) (k80_0 n)
def S80_0(a:List Bridge)(i0:Int)(i1:Int):St:=St.mk (V_ [C.d (D.sl false 2 (enS false a))]::I_ i0::U_::U_::U_::I_ i1::u_ 25 []) []
def B80_0:BT:=λn↦rC 80 T124 n f80 [1,0,1,0,0] 35 [(0,2)] 16
def X80_2:St:=St.mk (u_ 4 (I_ (Int.negSucc 0)::u_ 26 [])) []
def X80_4(i0:Int):St:=St.mk (U_::I_ i0::u_ 29 []) []
def y80_0(a:List Bridge)(i1:Int):=D.rows (getD (drop 1 (getD (enS false a) (toNat i1) [])) 0 D.dead)
theorem Z13(a:List Bridge)(n:Nat)(i0:Int)(i1:Int)(f:St→RR)(K:Ex→St→RR):B80_0 n (S80_0 a i0 i1) (kThen (λst↦f (St.head 0 35 1073741810 st)) K)=bif decide (i1<ofNat (length (enS false a)))then bif decide (0≤i1)&&decide (i1<ofNat (length (enS false a)))then bif Leaf.fit false (Leaf.int i64) (getD (getD (enS false a) (toNat i1) []) 0 D.dead)&&true then bif D.num (getD (getD (enS false a) (toNat i1) []) 0 D.dead) !=i0 then K Ex.ret X80_2 else bif decide (0≤i1)&&decide (i1<ofNat (length (enS false a)))then bif Leaf.fit false (Leaf.sl 11 true) (getD (drop 1 (getD (enS false a) (toNat i1) [])) 0 D.dead)&&true then bif isS Port false (y80_0 a i1)&&(sameB (markS Port.mk_ Port.n_ (deS Port (y80_0 a i1)) (wrap i64 (i0+1))) (deS Port (y80_0 a i1))&&(decide (0≤wrap i64 (i0+1))&&(decide (wrap i64 (i0+1)+cntS Port.n_ (deS Port (y80_0 a i1))≤4611686018427387904)&&decide (length (deS Port (y80_0 a i1))≤1152921504606846976))))then bif decide (wrap i64 (i0+1)+cntS Port.n_ (deS Port (y80_0 a i1))<0)then K Ex.ret X80_2 else f (S80_0 a (wrap i64 (i0+1)+cntS Port.n_ (deS Port (y80_0 a i1))) (wrap i64 (i1+1)))else none else none else none else none else none else K (Ex.exit 0) (X80_4 i0):=by kernel_rfl
theorem aX80_2(n:Nat):k80_1 n Ex.ret X80_2=some ([[D.int i64 (Int.negSucc 0)]],[]):=by kernel_rfl
theorem Zzy(n:Nat)(i0:Int):k80_1 n (Ex.exit 0) (X80_4 i0)=some ([[D.int i64 i0]],[]):=by kernel_rfl
def e80(a:List Bridge)(k:Int)(n:Nat):=evFn ⟨prog,Hx,80⟩ T124.call n f80 [zp7.row a,zp0.row k]
theorem r80(a:List Bridge)(k:Int)(n:Nat):e80 a k n=loopRun (B80_0 n) 0 35 1073741810 n (S80_0 a k (0)) (k80_1 n):=by kernel_rfl
theorem m80(a:List Bridge)(k:Int):(o80 a k).1=true→e80 a k (a.length+1)=some (o80 a k).2:=by
 refine pm λhpre=>(r80 a k _).trans ?_;rw[Bool.and_eq_true]at hpre;obtain⟨hsame,hpre⟩:=hpre;have hsame:=Zav hsame;simp only[Bool.and_eq_true]at hpre;obtain⟨h0,h1,h2,h3⟩:=hpre;have h0:=of_decide_eq_true h0;have h1:=of_decide_eq_true h1;have h2:=of_decide_eq_true h2;refine Zai (xs:=a) (λi (k:Int)=>S80_0 a k (Int.ofNat i)) (λi k=>0≤k∧k+cntS Bridge.n_ (a.drop i)≤4611686018427387904∧markS Bridge.mk_ Bridge.n_ (a.drop i) k=a.drop i) (λ_ k rest=>some ([[D.int .i64 (k+cntS Bridge.n_ rest)]],[])) ?_ ?_ (a.length+1) k (by omega) ⟨h0,h1,hsame⟩
 ·rintro k ⟨hk0,hk1,_⟩ f;refine(Z13 a _ _ _ f _).trans ?_;delta y80_0;simp only[Zaa,Zap,Nat.lt_irrefl,decide_false,cond_false];refine(Zzy _ _).trans ?_;simp only[cntS,Int.add_zero]
 ·rintro i k hi ⟨hk0,hk1,hk2⟩ f hf;rw[List.drop_eq_getElem_cons hi]at hk1 hk2;have hel:=List.all_eq_true.1 h3 _ (List.getElem_mem hi);have hc:=Zag (n:=Bridge.n_) Bridge.n_pos (a.drop (i+1));try simp only[Bool.and_eq_true]at hel
  simp only[cntS,Bridge.n_]at hk1;have p1:0≤cntS Port.n_ a[i].Ports:=Zag Port.n_pos a[i].Ports;have w0:IntKind.wrap IntKind.i64 (k+1)=k+1:=Zau (by omega) (by omega)
  have g1:decide (0≤k+1)=true:=decide_eq_true (by omega)
  have f1:decide (k+1+cntS Port.n_ a[i].Ports≤4611686018427387904)=true:=decide_eq_true (by omega)
  have d1:decide (k+1+cntS Port.n_ a[i].Ports<0)=false:=decide_eq_false (by omega)
  have he:k+1+cntS Port.n_ a[i].Ports=k+Bridge.n_ a[i]:=by simp only[Bridge.n_];omega
  simp only[markS,List.cons.injEq]at hk2;obtain⟨hk2,hk3⟩:=hk2;have e0:a[i].Id=(k):=(congrArg (λy:Bridge=>y.Id) hk2).symm;have e1:sameB (markS Port.mk_ Port.n_ a[i].Ports (k+1)) a[i].Ports=true:=by rw[show markS Port.mk_ Port.n_ a[i].Ports (k+1)=a[i].Ports from congrArg (λy:Bridge=>y.Ports) hk2];exact Zas _
  refine(Z13 a _ _ _ f _).trans ?_;delta y80_0;simp only[Zaa,Zac,Zap,Zaq,Zab _ hi,hi,Zae (show i<4611686018427387904 by omega),decide_true,cond_true,Bool.and_self,Bool.and_true,Bool.true_and,En.enc,List.append_eq,List.take_succ_cons,List.take_zero,List.drop_succ_cons,List.drop_zero,List.cons_append,List.nil_append,List.getD_cons_zero,List.getD_cons_succ,D.num,D.flag,D.text,D.rows,Leaf.fit,beq_self_eq_true,Zak,Zad,hel,w0,g1,f1,d1]
  simp only[e0,e1,bne_self_eq_false,cond_true,cond_false,hel,w0,g1,f1,d1,Bool.and_self,Bool.and_true,Bool.true_and,Zaa];refine(hf (k+1+cntS Port.n_ a[i].Ports) ⟨by omega,by omega,by rw[he];exact hk3⟩).trans ?_
  show _=some ([[D.int .i64 (k+(Bridge.n_ a[i]+cntS Bridge.n_ (a.drop (i+1))))]],[]);rw[he,Int.add_assoc]
def T80:Table:=(80,c80)::T124
theorem Zr8:Table.Sound prog Hx T80:=sa Zop func80 (by kernel_rfl) (Zah λa=>Zah λk=>Zan λh=>⟨_,m80 a k h⟩)
def o44(a:List UInt8)(k:Int):Bool×List Row×List Row:=(sameB (markS byteMk oneN a k) a&&(decide (0≤k)&&(decide (k+cntS oneN a≤4611686018427387904)&&decide (a.length≤1152921504606846976))),[[.int .i64 (k+cntS oneN a)]],[])
def c44:Contract:=(cp zp8 λa=>cp zp0 λk=>c0 (o44 a k)) true
def k44_0:KT:=λn↦kThen (λst↦rC 44 T80 n f44 [1,1] 16 [] 16 st (lV f44 [] [])) (lV f44 [] [])
def k44_1:KT:=λn↦kBlock (0) (k44_0 n)
def S44_0(a:List UInt8)(i0:Int)(i1:Int):St:=St.mk (V_ [C.d (D.sl false 1 (enS false a))]::I_ i0::U_::U_::U_::I_ i1::u_ 16 []) []
def B44_0:BT:=λn↦rC 44 T80 n f44 [1,0,1,0,0] 35 [(0,2)] 16
def X44_2:St:=St.mk (u_ 4 (I_ (Int.negSucc 0)::u_ 17 [])) []
def X44_3(i0:Int):St:=St.mk (U_::I_ i0::u_ 20 []) []
theorem Z1d(a:List UInt8)(n:Nat)(i0:Int)(i1:Int)(f:St→RR)(K:Ex→St→RR):B44_0 n (S44_0 a i0 i1) (kThen (λst↦f (St.head 0 35 2097138 st)) K)=bif decide (i1<ofNat (length (enS false a)))then bif decide (0≤i1)&&decide (i1<ofNat (length (enS false a)))then bif Leaf.fit false (Leaf.int IntKind.u8) (getD (getD (enS false a) (toNat i1) []) 0 D.dead)&&true then bif D.num (getD (getD (enS false a) (toNat i1) []) 0 D.dead) !=wrap IntKind.u8 i0 then K Ex.ret X44_2 else f (S44_0 a (wrap i64 (i0+1)) (wrap i64 (i1+1)))else none else none else K (Ex.exit 0) (X44_3 i0):=by kernel_rfl
theorem aX44_2(n:Nat):k44_1 n Ex.ret X44_2=some ([[D.int i64 (Int.negSucc 0)]],[]):=by kernel_rfl
theorem Zyz(n:Nat)(i0:Int):k44_1 n (Ex.exit 0) (X44_3 i0)=some ([[D.int i64 i0]],[]):=by kernel_rfl
def e44(a:List UInt8)(k:Int)(n:Nat):=evFn ⟨prog,Hx,44⟩ T80.call n f44 [zp8.row a,zp0.row k]
theorem r44(a:List UInt8)(k:Int)(n:Nat):e44 a k n=loopRun (B44_0 n) 0 35 2097138 n (S44_0 a k (0)) (k44_1 n):=by kernel_rfl
theorem m44(a:List UInt8)(k:Int):(o44 a k).1=true→e44 a k (a.length+1)=some (o44 a k).2:=by
 refine pm λhpre=>(r44 a k _).trans ?_;rw[Bool.and_eq_true]at hpre;obtain⟨hsame,hpre⟩:=hpre;have hsame:=Zav hsame;simp only[Bool.and_eq_true,decide_eq_true_eq]at hpre;obtain⟨h0,h1,h2⟩:=hpre;refine Zai (xs:=a) (λi (k:Int)=>S44_0 a k (Int.ofNat i)) (λi k=>0≤k∧k+cntS oneN (a.drop i)≤4611686018427387904∧markS byteMk oneN (a.drop i) k=a.drop i) (λ_ k rest=>some ([[D.int .i64 (k+cntS oneN rest)]],[])) ?_ ?_ (a.length+1) k (by omega) ⟨h0,h1,hsame⟩
 ·rintro k ⟨hk0,hk1,_⟩ f;refine(Z1d a _ _ _ f _).trans ?_;simp only[Zaa,Zap,Nat.lt_irrefl,decide_false,cond_false];refine(Zyz _ _).trans ?_;simp only[cntS,Int.add_zero]
 ·rintro i k hi ⟨hk0,hk1,hk2⟩ f hf;rw[List.drop_eq_getElem_cons hi]at hk1 hk2;have hc:=Zag (n:=oneN) Zbh (a.drop (i+1));have hn:oneN a[i]=1:=rfl;simp only[cntS,hn]at hk1;have he:k+1=k+oneN a[i]:=by omega
  simp only[markS,List.cons.injEq]at hk2;obtain⟨hk2,hk3⟩:=hk2;refine(Z1d a _ _ _ f _).trans ?_;simp only[Zaa,Zac,Zap,Zaq,Zab _ hi,hi,Zae (show i<4611686018427387904 by omega),decide_true,cond_true,Bool.and_self]
  have hw1:IntKind.wrap IntKind.i64 (k+1)=k+1:=Zau (by omega) (by omega)
  simp only[hw1];rw[←hk2];refine Eq.trans (b:=f (S44_0 a (k+1) (Int.ofNat (i+1)))) ?_ ((hf (k+1) ⟨by omega,by omega,by rw[he];exact hk3⟩).trans ?_)
  ·simp only[Zmw,En.enc,byteMk,Leaf.fit,List.drop_succ_cons,List.drop_zero,List.getD_cons_zero,List.getD_cons_succ,D.num,D.flag,D.text,bne_self_eq_false,Bool.and_self,cond_true,cond_false,decide_true]
  ·show _=some ([[D.int .i64 (k+(oneN a[i]+cntS oneN (a.drop (i+1))))]],[]);rw[he,Int.add_assoc]
def T44:Table:=(44,c44)::T80
theorem Zq8:Table.Sound prog Hx T44:=sa Zr8 func44 (by kernel_rfl) (Zah λa=>Zah λk=>Zan λh=>⟨_,m44 a k h⟩)
def o125(a:List Int)(k:Int):Bool×List Row×List Row:=(sameB (markS intMk oneN a k) a&&(decide (0≤k)&&(decide (k+cntS oneN a≤4611686018427387904)&&decide (a.length≤1152921504606846976))),[[.int .i64 (k+cntS oneN a)]],[])
def c125:Contract:=(cp zp9 λa=>cp zp0 λk=>c0 (o125 a k)) true
def k125_0:KT:=λn↦kThen (λst↦rC 125 T44 n f125 [1,1] 16 [] 16 st (lV f125 [] [])) (lV f125 [] [])
def k125_1:KT:=λn↦kBlock (0) (k125_0 n)
def S125_0(a:List Int)(i0:Int)(i1:Int):St:=St.mk (V_ [C.d (D.sl false 1 (enS false a))]::I_ i0::U_::U_::U_::I_ i1::u_ 15 []) []
def B125_0:BT:=λn↦rC 125 T44 n f125 [1,0,1,0,0] 35 [(0,2)] 16
def X125_2:St:=St.mk (u_ 4 (I_ (Int.negSucc 0)::u_ 16 [])) []
def X125_3(i0:Int):St:=St.mk (U_::I_ i0::u_ 19 []) []
theorem Zwa(a:List Int)(n:Nat)(i0:Int)(i1:Int)(f:St→RR)(K:Ex→St→RR):B125_0 n (S125_0 a i0 i1) (kThen (λst↦f (St.head 0 35 1048562 st)) K)=bif decide (i1<ofNat (length (enS false a)))then bif decide (0≤i1)&&decide (i1<ofNat (length (enS false a)))then bif Leaf.fit false (Leaf.int i64) (getD (getD (enS false a) (toNat i1) []) 0 D.dead)&&true then bif D.num (getD (getD (enS false a) (toNat i1) []) 0 D.dead) !=i0 then K Ex.ret X125_2 else f (S125_0 a (wrap i64 (i0+1)) (wrap i64 (i1+1)))else none else none else K (Ex.exit 0) (X125_3 i0):=by kernel_rfl
theorem Z2w(n:Nat):k125_1 n Ex.ret X125_2=some ([[D.int i64 (Int.negSucc 0)]],[]):=by kernel_rfl
theorem Zw5(n:Nat)(i0:Int):k125_1 n (Ex.exit 0) (X125_3 i0)=some ([[D.int i64 i0]],[]):=by kernel_rfl
def e125(a:List Int)(k:Int)(n:Nat):=evFn ⟨prog,Hx,125⟩ T44.call n f125 [zp9.row a,zp0.row k]
theorem r125(a:List Int)(k:Int)(n:Nat):e125 a k n=loopRun (B125_0 n) 0 35 1048562 n (S125_0 a k (0)) (k125_1 n):=by kernel_rfl
theorem m125(a:List Int)(k:Int):(o125 a k).1=true→e125 a k (a.length+1)=some (o125 a k).2:=by
 refine pm λhpre=>(r125 a k _).trans ?_;rw[Bool.and_eq_true]at hpre;obtain⟨hsame,hpre⟩:=hpre;have hsame:=Zav hsame;simp only[Bool.and_eq_true,decide_eq_true_eq]at hpre;obtain⟨h0,h1,h2⟩:=hpre;refine Zai (xs:=a) (λi (k:Int)=>S125_0 a k (Int.ofNat i)) (λi k=>0≤k∧k+cntS oneN (a.drop i)≤4611686018427387904∧markS intMk oneN (a.drop i) k=a.drop i) (λ_ k rest=>some ([[D.int .i64 (k+cntS oneN rest)]],[])) ?_ ?_ (a.length+1) k (by omega) ⟨h0,h1,hsame⟩
 ·rintro k ⟨hk0,hk1,_⟩ f;refine(Zwa a _ _ _ f _).trans ?_;simp only[Zaa,Zap,Nat.lt_irrefl,decide_false,cond_false];refine(Zw5 _ _).trans ?_;simp only[cntS,Int.add_zero]
 ·rintro i k hi ⟨hk0,hk1,hk2⟩ f hf;rw[List.drop_eq_getElem_cons hi]at hk1 hk2;have hc:=Zag (n:=oneN) Zbh (a.drop (i+1));have hn:oneN a[i]=1:=rfl;simp only[cntS,hn]at hk1;have he:k+1=k+oneN a[i]:=by omega
  simp only[markS,List.cons.injEq]at hk2;obtain⟨hk2,hk3⟩:=hk2;refine(Zwa a _ _ _ f _).trans ?_;simp only[Zaa,Zac,Zap,Zaq,Zab _ hi,hi,Zae (show i<4611686018427387904 by omega),decide_true,cond_true,Bool.and_self]
  have hw1:IntKind.wrap IntKind.i64 (k+1)=k+1:=Zau (by omega) (by omega)
  simp only[hw1];rw[←hk2];refine Eq.trans (b:=f (S125_0 a (k+1) (Int.ofNat (i+1)))) ?_ ((hf (k+1) ⟨by omega,by omega,by rw[he];exact hk3⟩).trans ?_)
  ·simp only[En.enc,intMk,Leaf.fit,List.drop_succ_cons,List.drop_zero,List.getD_cons_zero,List.getD_cons_succ,D.num,D.flag,D.text,bne_self_eq_false,Bool.and_self,cond_true,cond_false,decide_true]
  ·show _=some ([[D.int .i64 (k+(oneN a[i]+cntS oneN (a.drop (i+1))))]],[]);rw[he,Int.add_assoc]
def T125:Table:=(125,c125)::T44
theorem Zoq:Table.Sound prog Hx T125:=sa Zq8 func125 (by kernel_rfl) (Zah λa=>Zah λk=>Zan λh=>⟨_,m125 a k h⟩)
def o83(a:List Member)(k:Int):Bool×List Row×List Row:=(sameB (markS Member.mk_ Member.n_ a k) a&&(decide (0≤k)&&(decide (k+cntS Member.n_ a≤4611686018427387904)&&(decide (a.length≤1152921504606846976)&&a.all (λx=>decide (x.In.length≤1152921504606846976))))),[[.int .i64 (k+cntS Member.n_ a)]],[])
def c83:Contract:=(cp zp11 λa=>cp zp0 λk=>c0 (o83 a k)) true
def k83_0:KT:=λn↦kThen (λst↦rC 83 T125 n f83 [1,1] 16 [] 16 st (lV f83 [] [])) (lV f83 [] [])
def k83_1:KT:=λn↦kBlock (0) (k83_0 n)
def S83_0(a:List Member)(i0:Int)(i1:Int):St:=St.mk (V_ [C.d (D.sl false 2 (enS false a))]::I_ i0::U_::U_::U_::I_ i1::u_ 25 []) []
def B83_0:BT:=λn↦rC 83 T125 n f83 [1,0,1,0,0] 35 [(0,2)] 16
def X83_2:St:=St.mk (u_ 4 (I_ (Int.negSucc 0)::u_ 26 [])) []
def X83_4(i0:Int):St:=St.mk (U_::I_ i0::u_ 29 []) []
def y83_0(a:List Member)(i1:Int):=D.rows (getD (drop 1 (getD (enS false a) (toNat i1) [])) 0 D.dead)
theorem Z16(a:List Member)(n:Nat)(i0:Int)(i1:Int)(f:St→RR)(K:Ex→St→RR):B83_0 n (S83_0 a i0 i1) (kThen (λst↦f (St.head 0 35 1073741810 st)) K)=bif decide (i1<ofNat (length (enS false a)))then bif decide (0≤i1)&&decide (i1<ofNat (length (enS false a)))then bif Leaf.fit false (Leaf.int i64) (getD (getD (enS false a) (toNat i1) []) 0 D.dead)&&true then bif D.num (getD (getD (enS false a) (toNat i1) []) 0 D.dead) !=i0 then K Ex.ret X83_2 else bif decide (0≤i1)&&decide (i1<ofNat (length (enS false a)))then bif Leaf.fit false (Leaf.sl 1 true) (getD (drop 1 (getD (enS false a) (toNat i1) [])) 0 D.dead)&&true then bif isS Int false (y83_0 a i1)&&(sameB (markS intMk oneN (deS Int (y83_0 a i1)) (wrap i64 (i0+1))) (deS Int (y83_0 a i1))&&(decide (0≤wrap i64 (i0+1))&&(decide (wrap i64 (i0+1)+cntS oneN (deS Int (y83_0 a i1))≤4611686018427387904)&&decide (length (deS Int (y83_0 a i1))≤1152921504606846976))))then bif decide (wrap i64 (i0+1)+cntS oneN (deS Int (y83_0 a i1))<0)then K Ex.ret X83_2 else f (S83_0 a (wrap i64 (i0+1)+cntS oneN (deS Int (y83_0 a i1))) (wrap i64 (i1+1)))else none else none else none else none else none else K (Ex.exit 0) (X83_4 i0):=by kernel_rfl
theorem aX83_2(n:Nat):k83_1 n Ex.ret X83_2=some ([[D.int i64 (Int.negSucc 0)]],[]):=by kernel_rfl
theorem Zz1(n:Nat)(i0:Int):k83_1 n (Ex.exit 0) (X83_4 i0)=some ([[D.int i64 i0]],[]):=by kernel_rfl
def e83(a:List Member)(k:Int)(n:Nat):=evFn ⟨prog,Hx,83⟩ T125.call n f83 [zp11.row a,zp0.row k]
theorem r83(a:List Member)(k:Int)(n:Nat):e83 a k n=loopRun (B83_0 n) 0 35 1073741810 n (S83_0 a k (0)) (k83_1 n):=by kernel_rfl
theorem m83(a:List Member)(k:Int):(o83 a k).1=true→e83 a k (a.length+1)=some (o83 a k).2:=by
 refine pm λhpre=>(r83 a k _).trans ?_;rw[Bool.and_eq_true]at hpre;obtain⟨hsame,hpre⟩:=hpre;have hsame:=Zav hsame;simp only[Bool.and_eq_true]at hpre;obtain⟨h0,h1,h2,h3⟩:=hpre;have h0:=of_decide_eq_true h0;have h1:=of_decide_eq_true h1;have h2:=of_decide_eq_true h2;refine Zai (xs:=a) (λi (k:Int)=>S83_0 a k (Int.ofNat i)) (λi k=>0≤k∧k+cntS Member.n_ (a.drop i)≤4611686018427387904∧markS Member.mk_ Member.n_ (a.drop i) k=a.drop i) (λ_ k rest=>some ([[D.int .i64 (k+cntS Member.n_ rest)]],[])) ?_ ?_ (a.length+1) k (by omega) ⟨h0,h1,hsame⟩
 ·rintro k ⟨hk0,hk1,_⟩ f;refine(Z16 a _ _ _ f _).trans ?_;delta y83_0;simp only[Zaa,Zap,Nat.lt_irrefl,decide_false,cond_false];refine(Zz1 _ _).trans ?_;simp only[cntS,Int.add_zero]
 ·rintro i k hi ⟨hk0,hk1,hk2⟩ f hf;rw[List.drop_eq_getElem_cons hi]at hk1 hk2;have hel:=List.all_eq_true.1 h3 _ (List.getElem_mem hi);have hc:=Zag (n:=Member.n_) Member.n_pos (a.drop (i+1));try simp only[Bool.and_eq_true]at hel
  simp only[cntS,Member.n_]at hk1;have p1:0≤cntS oneN a[i].In:=Zag Zbh a[i].In;have w0:IntKind.wrap IntKind.i64 (k+1)=k+1:=Zau (by omega) (by omega)
  have g1:decide (0≤k+1)=true:=decide_eq_true (by omega)
  have f1:decide (k+1+cntS oneN a[i].In≤4611686018427387904)=true:=decide_eq_true (by omega)
  have d1:decide (k+1+cntS oneN a[i].In<0)=false:=decide_eq_false (by omega)
  have he:k+1+cntS oneN a[i].In=k+Member.n_ a[i]:=by simp only[Member.n_];omega
  simp only[markS,List.cons.injEq]at hk2;obtain⟨hk2,hk3⟩:=hk2;have e0:a[i].Own=(k):=(congrArg (λy:Member=>y.Own) hk2).symm;have e1:sameB (markS intMk oneN a[i].In (k+1)) a[i].In=true:=by rw[show markS intMk oneN a[i].In (k+1)=a[i].In from congrArg (λy:Member=>y.In) hk2];exact Zas _
  refine(Z16 a _ _ _ f _).trans ?_;delta y83_0;simp only[Zaa,Zac,Zap,Zaq,Zab _ hi,hi,Zae (show i<4611686018427387904 by omega),decide_true,cond_true,Bool.and_self,Bool.and_true,Bool.true_and,En.enc,List.append_eq,List.take_succ_cons,List.take_zero,List.drop_succ_cons,List.drop_zero,List.cons_append,List.nil_append,List.getD_cons_zero,List.getD_cons_succ,D.num,D.flag,D.text,D.rows,Leaf.fit,beq_self_eq_true,Zak,Zad,hel,w0,g1,f1,d1]
  simp only[e0,e1,bne_self_eq_false,cond_true,cond_false,hel,w0,g1,f1,d1,Bool.and_self,Bool.and_true,Bool.true_and,Zaa];refine(hf (k+1+cntS oneN a[i].In) ⟨by omega,by omega,by rw[he];exact hk3⟩).trans ?_
  show _=some ([[D.int .i64 (k+(Member.n_ a[i]+cntS Member.n_ (a.drop (i+1))))]],[]);rw[he,Int.add_assoc]
def T83:Table:=(83,c83)::T125
theorem Zsb:Table.Sound prog Hx T83:=sa Zoq func83 (by kernel_rfl) (Zah λa=>Zah λk=>Zan λh=>⟨_,m83 a k h⟩)
def o84(a:List Heard)(k:Int):Bool×List Row×List Row:=(sameB (markS Heard.mk_ Heard.n_ a k) a&&(decide (0≤k)&&(decide (k+cntS Heard.n_ a≤4611686018427387904)&&decide (a.length≤1152921504606846976))),[[.int .i64 (k+cntS Heard.n_ a)]],[])
def c84:Contract:=(cp zp13 λa=>cp zp0 λk=>c0 (o84 a k)) true
def k84_0:KT:=λn↦kThen (λst↦rC 84 T83 n f84 [1,1] 16 [] 16 st (lV f84 [] [])) (lV f84 [] [])
def k84_1:KT:=λn↦kBlock (0) (k84_0 n)
def S84_0(a:List Heard)(i0:Int)(i1:Int):St:=St.mk (V_ [C.d (D.sl false 4 (enS false a))]::I_ i0::U_::U_::U_::I_ i1::u_ 43 []) []
def B84_0:BT:=λn↦rC 84 T83 n f84 [1,0,1,0,0] 35 [(0,2)] 16
def X84_2:St:=St.mk (u_ 4 (I_ (Int.negSucc 0)::u_ 44 [])) []
def X84_6(i0:Int):St:=St.mk (U_::I_ i0::u_ 47 []) []
theorem Z17(a:List Heard)(n:Nat)(i0:Int)(i1:Int)(f:St→RR)(K:Ex→St→RR):B84_0 n (S84_0 a i0 i1) (kThen (λst↦f (St.head 0 35 281474976710642 st)) K)=bif decide (i1<ofNat (length (enS false a)))then bif decide (0≤i1)&&decide (i1<ofNat (length (enS false a)))then bif Leaf.fit false (Leaf.int i64) (getD (getD (enS false a) (toNat i1) []) 0 D.dead)&&true then bif D.num (getD (getD (enS false a) (toNat i1) []) 0 D.dead) !=i0 then K Ex.ret X84_2 else bif decide (0≤i1)&&decide (i1<ofNat (length (enS false a)))then bif Leaf.fit false (Leaf.int i64) (getD (drop 1 (getD (enS false a) (toNat i1) [])) 0 D.dead)&&true then bif D.num (getD (drop 1 (getD (enS false a) (toNat i1) [])) 0 D.dead) !=wrap i64 (i0+1)then K Ex.ret X84_2 else bif decide (0≤i1)&&decide (i1<ofNat (length (enS false a)))then bif Leaf.fit false (Leaf.int i64) (getD (drop 2 (getD (enS false a) (toNat i1) [])) 0 D.dead)&&true then bif D.num (getD (drop 2 (getD (enS false a) (toNat i1) [])) 0 D.dead) !=wrap i64 (wrap i64 (i0+1)+1)then K Ex.ret X84_2 else bif decide (0≤i1)&&decide (i1<ofNat (length (enS false a)))then bif Leaf.fit false (Leaf.int i64) (getD (drop 3 (getD (enS false a) (toNat i1) [])) 0 D.dead)&&true then bif D.num (getD (drop 3 (getD (enS false a) (toNat i1) [])) 0 D.dead) !=wrap i64 (wrap i64 (wrap i64 (i0+1)+1)+1)then K Ex.ret X84_2 else f (S84_0 a (wrap i64 (wrap i64 (wrap i64 (wrap i64 (i0+1)+1)+1)+1)) (wrap i64 (i1+1)))else none else none else none else none else none else none else none else none else K (Ex.exit 0) (X84_6 i0):=by kernel_rfl
theorem aX84_2(n:Nat):k84_1 n Ex.ret X84_2=some ([[D.int i64 (Int.negSucc 0)]],[]):=by kernel_rfl
theorem Zz2(n:Nat)(i0:Int):k84_1 n (Ex.exit 0) (X84_6 i0)=some ([[D.int i64 i0]],[]):=by kernel_rfl
def e84(a:List Heard)(k:Int)(n:Nat):=evFn ⟨prog,Hx,84⟩ T83.call n f84 [zp13.row a,zp0.row k]
theorem r84(a:List Heard)(k:Int)(n:Nat):e84 a k n=loopRun (B84_0 n) 0 35 281474976710642 n (S84_0 a k (0)) (k84_1 n):=by kernel_rfl
theorem m84(a:List Heard)(k:Int):(o84 a k).1=true→e84 a k (a.length+1)=some (o84 a k).2:=by
 refine pm λhpre=>(r84 a k _).trans ?_;rw[Bool.and_eq_true]at hpre;obtain⟨hsame,hpre⟩:=hpre;have hsame:=Zav hsame;simp only[Bool.and_eq_true,decide_eq_true_eq]at hpre;obtain⟨h0,h1,h2⟩:=hpre;refine Zai (xs:=a) (λi (k:Int)=>S84_0 a k (Int.ofNat i)) (λi k=>0≤k∧k+cntS Heard.n_ (a.drop i)≤4611686018427387904∧markS Heard.mk_ Heard.n_ (a.drop i) k=a.drop i) (λ_ k rest=>some ([[D.int .i64 (k+cntS Heard.n_ rest)]],[])) ?_ ?_ (a.length+1) k (by omega) ⟨h0,h1,hsame⟩
 ·rintro k ⟨hk0,hk1,_⟩ f;refine(Z17 a _ _ _ f _).trans ?_;simp only[Zaa,Zap,Nat.lt_irrefl,decide_false,cond_false];refine(Zz2 _ _).trans ?_;simp only[cntS,Int.add_zero]
 ·rintro i k hi ⟨hk0,hk1,hk2⟩ f hf;rw[List.drop_eq_getElem_cons hi]at hk1 hk2;have hc:=Zag (n:=Heard.n_) Heard.n_pos (a.drop (i+1));have hn:Heard.n_ a[i]=4:=rfl;simp only[cntS,hn]at hk1;have he:k+1+1+1+1=k+Heard.n_ a[i]:=by omega
  simp only[markS,List.cons.injEq]at hk2;obtain⟨hk2,hk3⟩:=hk2;refine(Z17 a _ _ _ f _).trans ?_;simp only[Zaa,Zac,Zap,Zaq,Zab _ hi,hi,Zae (show i<4611686018427387904 by omega),decide_true,cond_true,Bool.and_self]
  have hw1:IntKind.wrap IntKind.i64 (k+1)=k+1:=Zau (by omega) (by omega)
  have hw2:IntKind.wrap IntKind.i64 (k+1+1)=k+1+1:=Zau (by omega) (by omega)
  have hw3:IntKind.wrap IntKind.i64 (k+1+1+1)=k+1+1+1:=Zau (by omega) (by omega)
  have hw4:IntKind.wrap IntKind.i64 (k+1+1+1+1)=k+1+1+1+1:=Zau (by omega) (by omega)
  simp only[hw1,hw2,hw3,hw4];rw[←hk2];refine Eq.trans (b:=f (S84_0 a (k+1+1+1+1) (Int.ofNat (i+1)))) ?_ ((hf (k+1+1+1+1) ⟨by omega,by omega,by rw[he];exact hk3⟩).trans ?_)
  ·simp only[En.enc,Heard.mk_,Leaf.fit,List.drop_succ_cons,List.drop_zero,List.getD_cons_zero,List.getD_cons_succ,D.num,D.flag,D.text,bne_self_eq_false,Bool.and_self,cond_true,cond_false,decide_true]
  ·show _=some ([[D.int .i64 (k+(Heard.n_ a[i]+cntS Heard.n_ (a.drop (i+1))))]],[]);rw[he,Int.add_assoc]
def T84:Table:=(84,c84)::T83
theorem Zsc:Table.Sound prog Hx T84:=sa Zsb func84 (by kernel_rfl) (Zah λa=>Zah λk=>Zan λh=>⟨_,m84 a k h⟩)
def o43(a:List Card)(k:Int):Bool×List Row×List Row:=(sameB (markS Card.mk_ Card.n_ a k) a&&(decide (0≤k)&&(decide (k+cntS Card.n_ a≤4611686018427387904)&&(decide (a.length≤1152921504606846976)&&a.all (λx=>(decide (x.Open.length≤1152921504606846976)&&(decide (x.Members.length≤1152921504606846976)&&x.Members.all (λx=>decide (x.In.length≤1152921504606846976)))&&decide (x.Table.length≤1152921504606846976)))))),[[.int .i64 (k+cntS Card.n_ a)]],[])
def c43:Contract:=(cp zp15 λa=>cp zp0 λk=>c0 (o43 a k)) true
def k43_0:KT:=λn↦kThen (λst↦rC 43 T84 n f43 [1,1] 16 [] 16 st (lV f43 [] [])) (lV f43 [] [])
def k43_1:KT:=λn↦kBlock (0) (k43_0 n)
def S43_0(a:List Card)(i0:Int)(i1:Int):St:=St.mk (V_ [C.d (D.sl false 3 (enS false a))]::I_ i0::U_::U_::U_::I_ i1::u_ 34 []) []
def B43_0:BT:=λn↦rC 43 T84 n f43 [1,0,1,0,0] 35 [(0,2)] 16
def X43_2:St:=St.mk (u_ 4 (I_ (Int.negSucc 0)::u_ 35 [])) []
def X43_5(i0:Int):St:=St.mk (U_::I_ i0::u_ 38 []) []
def y43_0(a:List Card)(i1:Int):=deS Bool (D.rows (getD (getD (enS false a) (toNat i1) []) 0 D.dead))
def y43_1(a:List Card)(i1:Int):=deS Member (D.rows (getD (drop 1 (getD (enS false a) (toNat i1) [])) 0 D.dead))
def y43_2(a:List Card)(i1:Int):=deS Heard (D.rows (getD (drop 2 (getD (enS false a) (toNat i1) [])) 0 D.dead))
theorem Z1c(a:List Card)(n:Nat)(i0:Int)(i1:Int)(f:St→RR)(K:Ex→St→RR):B43_0 n (S43_0 a i0 i1) (kThen (λst↦f (St.head 0 35 549755813874 st)) K)=bif decide (i1<ofNat (length (enS false a)))then bif decide (0≤i1)&&decide (i1<ofNat (length (enS false a)))then bif Leaf.fit false (Leaf.sl 1 true) (getD (getD (enS false a) (toNat i1) []) 0 D.dead)&&true then bif isS Bool false (D.rows (getD (getD (enS false a) (toNat i1) []) 0 D.dead))&&(sameB (markS boolMk oneN (y43_0 a i1) i0) (y43_0 a i1)&&(decide (0≤i0)&&(decide (i0+cntS oneN (y43_0 a i1)≤4611686018427387904)&&decide (length (y43_0 a i1)≤1152921504606846976))))then bif decide (i0+cntS oneN (y43_0 a i1)<0)then K Ex.ret X43_2 else bif decide (0≤i1)&&decide (i1<ofNat (length (enS false a)))then bif Leaf.fit false (Leaf.sl 2 false) (getD (drop 1 (getD (enS false a) (toNat i1) [])) 0 D.dead)&&true then bif isS Member false (D.rows (getD (drop 1 (getD (enS false a) (toNat i1) [])) 0 D.dead))&&(sameB (markS Member.mk_ Member.n_ (y43_1 a i1) (i0+cntS oneN (y43_0 a i1))) (y43_1 a i1)&&(decide (0≤i0+cntS oneN (y43_0 a i1))&&(decide (i0+cntS oneN (y43_0 a i1)+cntS Member.n_ (y43_1 a i1)≤4611686018427387904)&&(decide (length (y43_1 a i1)≤1152921504606846976)&&all (y43_1 a i1) λx↦decide (length (Member.In x)≤1152921504606846976)))))then bif decide (i0+cntS oneN (y43_0 a i1)+cntS Member.n_ (y43_1 a i1)<0)then K Ex.ret X43_2 else bif decide (0≤i1)&&decide (i1<ofNat (length (enS false a)))then bif Leaf.fit false (Leaf.sl 4 true) (getD (drop 2 (getD (enS false a) (toNat i1) [])) 0 D.dead)&&true then bif isS Heard false (D.rows (getD (drop 2 (getD (enS false a) (toNat i1) [])) 0 D.dead))&&(sameB (markS Heard.mk_ Heard.n_ (y43_2 a i1) (i0+cntS oneN (y43_0 a i1)+cntS Member.n_ (y43_1 a i1))) (y43_2 a i1)&&(decide (0≤i0+cntS oneN (y43_0 a i1)+cntS Member.n_ (y43_1 a i1))&&(decide (i0+cntS oneN (y43_0 a i1)+cntS Member.n_ (y43_1 a i1)+cntS Heard.n_ (y43_2 a i1)≤4611686018427387904)&&decide (length (y43_2 a i1)≤1152921504606846976))))then bif decide (i0+cntS oneN (y43_0 a i1)+cntS Member.n_ (y43_1 a i1)+cntS Heard.n_ (y43_2 a i1)<0)then K Ex.ret X43_2 else f (S43_0 a (i0+cntS oneN (y43_0 a i1)+cntS Member.n_ (y43_1 a i1)+cntS Heard.n_ (y43_2 a i1)) (wrap i64 (i1+1)))else none else none else none else none else none else none else none else none else none else K (Ex.exit 0) (X43_5 i0):=by kernel_rfl
theorem aX43_2(n:Nat):k43_1 n Ex.ret X43_2=some ([[D.int i64 (Int.negSucc 0)]],[]):=by kernel_rfl
theorem Zyy(n:Nat)(i0:Int):k43_1 n (Ex.exit 0) (X43_5 i0)=some ([[D.int i64 i0]],[]):=by kernel_rfl
def e43(a:List Card)(k:Int)(n:Nat):=evFn ⟨prog,Hx,43⟩ T84.call n f43 [zp15.row a,zp0.row k]
theorem r43(a:List Card)(k:Int)(n:Nat):e43 a k n=loopRun (B43_0 n) 0 35 549755813874 n (S43_0 a k (0)) (k43_1 n):=by kernel_rfl
theorem m43(a:List Card)(k:Int):(o43 a k).1=true→e43 a k (a.length+1)=some (o43 a k).2:=by
 refine pm λhpre=>(r43 a k _).trans ?_;rw[Bool.and_eq_true]at hpre;obtain⟨hsame,hpre⟩:=hpre;have hsame:=Zav hsame;simp only[Bool.and_eq_true]at hpre;obtain⟨h0,h1,h2,h3⟩:=hpre;have h0:=of_decide_eq_true h0;have h1:=of_decide_eq_true h1;have h2:=of_decide_eq_true h2;refine Zai (xs:=a) (λi (k:Int)=>S43_0 a k (Int.ofNat i)) (λi k=>0≤k∧k+cntS Card.n_ (a.drop i)≤4611686018427387904∧markS Card.mk_ Card.n_ (a.drop i) k=a.drop i) (λ_ k rest=>some ([[D.int .i64 (k+cntS Card.n_ rest)]],[])) ?_ ?_ (a.length+1) k (by omega) ⟨h0,h1,hsame⟩
 ·rintro k ⟨hk0,hk1,_⟩ f;refine(Z1c a _ _ _ f _).trans ?_;delta y43_0 y43_1 y43_2;simp only[Zaa,Zap,Nat.lt_irrefl,decide_false,cond_false];refine(Zyy _ _).trans ?_;simp only[cntS,Int.add_zero]
 ·rintro i k hi ⟨hk0,hk1,hk2⟩ f hf;rw[List.drop_eq_getElem_cons hi]at hk1 hk2;have hel:=List.all_eq_true.1 h3 _ (List.getElem_mem hi);have hc:=Zag (n:=Card.n_) Card.n_pos (a.drop (i+1));try simp only[Bool.and_eq_true]at hel
  simp only[cntS,Card.n_]at hk1;have p0:0≤cntS oneN a[i].Open:=Zag Zbh a[i].Open;have p1:0≤cntS Member.n_ a[i].Members:=Zag Member.n_pos a[i].Members;have p2:0≤cntS Heard.n_ a[i].Table:=Zag Heard.n_pos a[i].Table;have g0:decide (0≤k)=true:=decide_eq_true (by omega)
  have f0:decide (k+cntS oneN a[i].Open≤4611686018427387904)=true:=decide_eq_true (by omega)
  have d0:decide (k+cntS oneN a[i].Open<0)=false:=decide_eq_false (by omega)
  have g1:decide (0≤k+cntS oneN a[i].Open)=true:=decide_eq_true (by omega)
  have f1:decide (k+cntS oneN a[i].Open+cntS Member.n_ a[i].Members≤4611686018427387904)=true:=decide_eq_true (by omega)
  have d1:decide (k+cntS oneN a[i].Open+cntS Member.n_ a[i].Members<0)=false:=decide_eq_false (by omega)
  have g2:decide (0≤k+cntS oneN a[i].Open+cntS Member.n_ a[i].Members)=true:=decide_eq_true (by omega)
  have f2:decide (k+cntS oneN a[i].Open+cntS Member.n_ a[i].Members+cntS Heard.n_ a[i].Table≤4611686018427387904)=true:=decide_eq_true (by omega)
  have d2:decide (k+cntS oneN a[i].Open+cntS Member.n_ a[i].Members+cntS Heard.n_ a[i].Table<0)=false:=decide_eq_false (by omega)
  have he:k+cntS oneN a[i].Open+cntS Member.n_ a[i].Members+cntS Heard.n_ a[i].Table=k+Card.n_ a[i]:=by simp only[Card.n_];omega
  simp only[markS,List.cons.injEq]at hk2;obtain⟨hk2,hk3⟩:=hk2;have e0:sameB (markS boolMk oneN a[i].Open (k)) a[i].Open=true:=by rw[show markS boolMk oneN a[i].Open (k)=a[i].Open from congrArg (λy:Card=>y.Open) hk2];exact Zas _
  have e1:sameB (markS Member.mk_ Member.n_ a[i].Members (k+cntS oneN a[i].Open)) a[i].Members=true:=by rw[show markS Member.mk_ Member.n_ a[i].Members (k+cntS oneN a[i].Open)=a[i].Members from congrArg (λy:Card=>y.Members) hk2];exact Zas _
  have e2:sameB (markS Heard.mk_ Heard.n_ a[i].Table (k+cntS oneN a[i].Open+cntS Member.n_ a[i].Members)) a[i].Table=true:=by rw[show markS Heard.mk_ Heard.n_ a[i].Table (k+cntS oneN a[i].Open+cntS Member.n_ a[i].Members)=a[i].Table from congrArg (λy:Card=>y.Table) hk2];exact Zas _
  refine(Z1c a _ _ _ f _).trans ?_;delta y43_0 y43_1 y43_2;simp only[Zaa,Zac,Zap,Zaq,Zab _ hi,hi,Zae (show i<4611686018427387904 by omega),decide_true,cond_true,Bool.and_self,Bool.and_true,Bool.true_and,En.enc,List.append_eq,List.take_succ_cons,List.take_zero,List.drop_succ_cons,List.drop_zero,List.cons_append,List.nil_append,List.getD_cons_zero,List.getD_cons_succ,D.num,D.flag,D.text,D.rows,Leaf.fit,beq_self_eq_true,Zak,Zad,hel,g0,f0,d0,g1,f1,d1,g2,f2,d2]
  simp only[e0,e1,e2,bne_self_eq_false,cond_true,cond_false,hel,g0,f0,d0,g1,f1,d1,g2,f2,d2,Bool.and_self,Bool.and_true,Bool.true_and,Zaa];refine(hf (k+cntS oneN a[i].Open+cntS Member.n_ a[i].Members+cntS Heard.n_ a[i].Table) ⟨by omega,by omega,by rw[he];exact hk3⟩).trans ?_
  show _=some ([[D.int .i64 (k+(Card.n_ a[i]+cntS Card.n_ (a.drop (i+1))))]],[]);rw[he,Int.add_assoc]
def T43:Table:=(43,c43)::T84
theorem Zq7:Table.Sound prog Hx T43:=sa Zsc func43 (by kernel_rfl) (Zah λa=>Zah λk=>Zan λh=>⟨_,m43 a k h⟩)
def o81(a:List Link)(k:Int):Bool×List Row×List Row:=(sameB (markS Link.mk_ Link.n_ a k) a&&(decide (0≤k)&&(decide (k+cntS Link.n_ a≤4611686018427387904)&&decide (a.length≤1152921504606846976))),[[.int .i64 (k+cntS Link.n_ a)]],[])
def c81:Contract:=(cp zp17 λa=>cp zp0 λk=>c0 (o81 a k)) true
def k81_0:KT:=λn↦kThen (λst↦rC 81 T43 n f81 [1,1] 16 [] 16 st (lV f81 [] [])) (lV f81 [] [])
def k81_1:KT:=λn↦kBlock (0) (k81_0 n)
def S81_0(a:List Link)(i0:Int)(i1:Int):St:=St.mk (V_ [C.d (D.sl false 4 (enS false a))]::I_ i0::U_::U_::U_::I_ i1::u_ 43 []) []
def B81_0:BT:=λn↦rC 81 T43 n f81 [1,0,1,0,0] 35 [(0,2)] 16
def X81_2:St:=St.mk (u_ 4 (I_ (Int.negSucc 0)::u_ 44 [])) []
def X81_6(i0:Int):St:=St.mk (U_::I_ i0::u_ 47 []) []
theorem Z14(a:List Link)(n:Nat)(i0:Int)(i1:Int)(f:St→RR)(K:Ex→St→RR):B81_0 n (S81_0 a i0 i1) (kThen (λst↦f (St.head 0 35 281474976710642 st)) K)=bif decide (i1<ofNat (length (enS false a)))then bif decide (0≤i1)&&decide (i1<ofNat (length (enS false a)))then bif Leaf.fit false (Leaf.int i64) (getD (getD (enS false a) (toNat i1) []) 0 D.dead)&&true then bif D.num (getD (getD (enS false a) (toNat i1) []) 0 D.dead) !=i0 then K Ex.ret X81_2 else bif decide (0≤i1)&&decide (i1<ofNat (length (enS false a)))then bif Leaf.fit false (Leaf.int i64) (getD (drop 1 (getD (enS false a) (toNat i1) [])) 0 D.dead)&&true then bif D.num (getD (drop 1 (getD (enS false a) (toNat i1) [])) 0 D.dead) !=wrap i64 (i0+1)then K Ex.ret X81_2 else bif decide (0≤i1)&&decide (i1<ofNat (length (enS false a)))then bif Leaf.fit false (Leaf.int i64) (getD (drop 2 (getD (enS false a) (toNat i1) [])) 0 D.dead)&&true then bif D.num (getD (drop 2 (getD (enS false a) (toNat i1) [])) 0 D.dead) !=wrap i64 (wrap i64 (i0+1)+1)then K Ex.ret X81_2 else bif decide (0≤i1)&&decide (i1<ofNat (length (enS false a)))then bif Leaf.fit false (Leaf.int i64) (getD (drop 3 (getD (enS false a) (toNat i1) [])) 0 D.dead)&&true then bif D.num (getD (drop 3 (getD (enS false a) (toNat i1) [])) 0 D.dead) !=wrap i64 (wrap i64 (wrap i64 (i0+1)+1)+1)then K Ex.ret X81_2 else f (S81_0 a (wrap i64 (wrap i64 (wrap i64 (wrap i64 (i0+1)+1)+1)+1)) (wrap i64 (i1+1)))else none else none else none else none else none else none else none else none else K (Ex.exit 0) (X81_6 i0):=by kernel_rfl
theorem aX81_2(n:Nat):k81_1 n Ex.ret X81_2=some ([[D.int i64 (Int.negSucc 0)]],[]):=by kernel_rfl
theorem Zzz(n:Nat)(i0:Int):k81_1 n (Ex.exit 0) (X81_6 i0)=some ([[D.int i64 i0]],[]):=by kernel_rfl
def e81(a:List Link)(k:Int)(n:Nat):=evFn ⟨prog,Hx,81⟩ T43.call n f81 [zp17.row a,zp0.row k]
theorem r81(a:List Link)(k:Int)(n:Nat):e81 a k n=loopRun (B81_0 n) 0 35 281474976710642 n (S81_0 a k (0)) (k81_1 n):=by kernel_rfl
theorem m81(a:List Link)(k:Int):(o81 a k).1=true→e81 a k (a.length+1)=some (o81 a k).2:=by
 refine pm λhpre=>(r81 a k _).trans ?_;rw[Bool.and_eq_true]at hpre;obtain⟨hsame,hpre⟩:=hpre;have hsame:=Zav hsame;simp only[Bool.and_eq_true,decide_eq_true_eq]at hpre;obtain⟨h0,h1,h2⟩:=hpre;refine Zai (xs:=a) (λi (k:Int)=>S81_0 a k (Int.ofNat i)) (λi k=>0≤k∧k+cntS Link.n_ (a.drop i)≤4611686018427387904∧markS Link.mk_ Link.n_ (a.drop i) k=a.drop i) (λ_ k rest=>some ([[D.int .i64 (k+cntS Link.n_ rest)]],[])) ?_ ?_ (a.length+1) k (by omega) ⟨h0,h1,hsame⟩
 ·rintro k ⟨hk0,hk1,_⟩ f;refine(Z14 a _ _ _ f _).trans ?_;simp only[Zaa,Zap,Nat.lt_irrefl,decide_false,cond_false];refine(Zzz _ _).trans ?_;simp only[cntS,Int.add_zero]
 ·rintro i k hi ⟨hk0,hk1,hk2⟩ f hf;rw[List.drop_eq_getElem_cons hi]at hk1 hk2;have hc:=Zag (n:=Link.n_) Link.n_pos (a.drop (i+1));have hn:Link.n_ a[i]=4:=rfl;simp only[cntS,hn]at hk1;have he:k+1+1+1+1=k+Link.n_ a[i]:=by omega
  simp only[markS,List.cons.injEq]at hk2;obtain⟨hk2,hk3⟩:=hk2;refine(Z14 a _ _ _ f _).trans ?_;simp only[Zaa,Zac,Zap,Zaq,Zab _ hi,hi,Zae (show i<4611686018427387904 by omega),decide_true,cond_true,Bool.and_self]
  have hw1:IntKind.wrap IntKind.i64 (k+1)=k+1:=Zau (by omega) (by omega)
  have hw2:IntKind.wrap IntKind.i64 (k+1+1)=k+1+1:=Zau (by omega) (by omega)
  have hw3:IntKind.wrap IntKind.i64 (k+1+1+1)=k+1+1+1:=Zau (by omega) (by omega)
  have hw4:IntKind.wrap IntKind.i64 (k+1+1+1+1)=k+1+1+1+1:=Zau (by omega) (by omega)
  simp only[hw1,hw2,hw3,hw4];rw[←hk2];refine Eq.trans (b:=f (S81_0 a (k+1+1+1+1) (Int.ofNat (i+1)))) ?_ ((hf (k+1+1+1+1) ⟨by omega,by omega,by rw[he];exact hk3⟩).trans ?_)
  ·simp only[En.enc,Link.mk_,Leaf.fit,List.drop_succ_cons,List.drop_zero,List.getD_cons_zero,List.getD_cons_succ,D.num,D.flag,D.text,bne_self_eq_false,Bool.and_self,cond_true,cond_false,decide_true]
  ·show _=some ([[D.int .i64 (k+(Link.n_ a[i]+cntS Link.n_ (a.drop (i+1))))]],[]);rw[he,Int.add_assoc]
def T81:Table:=(81,c81)::T43
theorem Zr9:Table.Sound prog Hx T81:=sa Zq7 func81 (by kernel_rfl) (Zah λa=>Zah λk=>Zan λh=>⟨_,m81 a k h⟩)
def o42(a:Net)(k:Int):Bool×List Row×List Row:=(sameB (Net.mkTop a k) a&&(decide (0≤k)&&(decide (k+Net.nTop a≤4611686018427387904)&&((decide (a.Bridges.length≤1152921504606846976)&&a.Bridges.all (λx=>decide (x.Ports.length≤1152921504606846976)))&&decide (a.Links.length≤1152921504606846976)))),[[.int .i64 (k+Net.nTop a)]],[])
def c42:Contract:=(cp zp18 λa=>cp zp0 λk=>c0 (o42 a k)) true
def e42(a:Net)(k:Int)(n:Nat):=evFn ⟨prog,Hx,42⟩ T81.call n f42 [zp18.row a,zp0.row k]
def y42_0(a:Net):=deS Bridge (enS false (Net.Bridges a))
theorem r42(a:Net)(k:Int)(n:Nat):e42 a k n=bif isS Bridge false (enS false (Net.Bridges a))&&(sameB (markS Bridge.mk_ Bridge.n_ (y42_0 a) k) (y42_0 a)&&(decide (0≤k)&&(decide (k+cntS Bridge.n_ (y42_0 a)≤4611686018427387904)&&(decide (length (y42_0 a)≤1152921504606846976)&&all (y42_0 a) λx↦decide (length (Bridge.Ports x)≤1152921504606846976)))))then bif decide (k+cntS Bridge.n_ (y42_0 a)<0)then some ([[D.int i64 (Int.negSucc 0)]],[])else bif isS Link false (enS false (Net.Links a))&&(sameB (markS Link.mk_ Link.n_ (deS Link (enS false (Net.Links a))) (k+cntS Bridge.n_ (y42_0 a))) (deS Link (enS false (Net.Links a)))&&(decide (0≤k+cntS Bridge.n_ (y42_0 a))&&(decide (k+cntS Bridge.n_ (y42_0 a)+cntS Link.n_ (deS Link (enS false (Net.Links a)))≤4611686018427387904)&&decide (length (deS Link (enS false (Net.Links a)))≤1152921504606846976))))then bif decide (k+cntS Bridge.n_ (y42_0 a)+cntS Link.n_ (deS Link (enS false (Net.Links a)))<0)then some ([[D.int i64 (Int.negSucc 0)]],[])else some ([[D.int i64 (k+cntS Bridge.n_ (y42_0 a)+cntS Link.n_ (deS Link (enS false (Net.Links a))))]],[])else none else none:=by kernel_rfl
theorem m42(a:Net)(k:Int):(o42 a k).1=true→e42 a k 0=some (o42 a k).2:=by
 refine pm λhpre=>(r42 a k _).trans ?_;delta y42_0;rw[Bool.and_eq_true]at hpre;obtain⟨hsame,hpre⟩:=hpre;have hsame:=Zav hsame;unfold Net.mkTop at hsame;simp only[Bool.and_eq_true]at hpre;obtain⟨h0,h1,h2⟩:=hpre;have h0':=of_decide_eq_true h0;have h1':=of_decide_eq_true h1;unfold Net.nTop at h1';have p0:0≤cntS Bridge.n_ a.Bridges:=Zag Bridge.n_pos a.Bridges;have p1:0≤cntS Link.n_ a.Links:=Zag Link.n_pos a.Links;have g0:decide (0≤k)=true:=decide_eq_true (by omega)
 have f0:decide (k+cntS Bridge.n_ a.Bridges≤4611686018427387904)=true:=decide_eq_true (by omega)
 have d0:decide (k+cntS Bridge.n_ a.Bridges<0)=false:=decide_eq_false (by omega)
 have g1:decide (0≤k+cntS Bridge.n_ a.Bridges)=true:=decide_eq_true (by omega)
 have f1:decide (k+cntS Bridge.n_ a.Bridges+cntS Link.n_ a.Links≤4611686018427387904)=true:=decide_eq_true (by omega)
 have d1:decide (k+cntS Bridge.n_ a.Bridges+cntS Link.n_ a.Links<0)=false:=decide_eq_false (by omega)
 have s0:=congrArg Net.Bridges hsame;simp only at s0;have s1:=congrArg Net.Links hsame;simp only at s1;simp only[g0,f0,d0,g1,f1,d1,s0,s1,h2,Zak,Zad,Zas,cond_true,cond_false,Bool.and_self,Bool.and_true,Bool.true_and,Net.mkTop,Net.nTop];try rfl
 try simp only[Int.add_assoc]
def T42:Table:=(42,c42)::T81
theorem Zq6:Table.Sound prog Hx T42:=sa Zr9 func42 (by kernel_rfl) (Zah λa=>Zah λk=>Zan λh=>⟨_,m42 a k h⟩)
def o16(a:Fabric)(k:Int):Bool×List Row×List Row:=(sameB (Fabric.mkTop a k) a&&(decide (0≤k)&&(decide (k+Fabric.nTop a≤4611686018427387904)&&(((decide (a.Net.Bridges.length≤1152921504606846976)&&a.Net.Bridges.all (λx=>decide (x.Ports.length≤1152921504606846976)))&&decide (a.Net.Links.length≤1152921504606846976))&&(decide (a.Cards.length≤1152921504606846976)&&a.Cards.all (λx=>(decide (x.Open.length≤1152921504606846976)&&(decide (x.Members.length≤1152921504606846976)&&x.Members.all (λx=>decide (x.In.length≤1152921504606846976)))&&decide (x.Table.length≤1152921504606846976))))))),[[.int .i64 (k+Fabric.nTop a)]],[])
def c16:Contract:=(cp zp19 λa=>cp zp0 λk=>c0 (o16 a k)) true
def e16(a:Fabric)(k:Int)(n:Nat):=evFn ⟨prog,Hx,16⟩ T42.call n f16 [zp19.row a,zp0.row k]
def y16_0(a:Fabric):=Net.mk (deS Bridge (enS false (Net.Bridges (Fabric.Net a)))) (deS Link (enS false (Net.Links (Fabric.Net a))))
theorem r16(a:Fabric)(k:Int)(n:Nat):e16 a k n=bif isS Bridge false (enS false (Net.Bridges (Fabric.Net a)))&&isS Link false (enS false (Net.Links (Fabric.Net a)))&&(sameB (Net.mkTop (y16_0 a) k) (y16_0 a)&&(decide (0≤k)&&(decide (k+Net.nTop (y16_0 a)≤4611686018427387904)&&((decide (length (deS Bridge (enS false (Net.Bridges (Fabric.Net a))))≤1152921504606846976)&&all (deS Bridge (enS false (Net.Bridges (Fabric.Net a)))) λx↦decide (length (Bridge.Ports x)≤1152921504606846976))&&decide (length (deS Link (enS false (Net.Links (Fabric.Net a))))≤1152921504606846976)))))then bif decide (k+Net.nTop (y16_0 a)<0)then some ([[D.int i64 (Int.negSucc 0)]],[])else bif isS Card false (enS false (Fabric.Cards a))&&(sameB (markS Card.mk_ Card.n_ (deS Card (enS false (Fabric.Cards a))) (k+Net.nTop (y16_0 a))) (deS Card (enS false (Fabric.Cards a)))&&(decide (0≤k+Net.nTop (y16_0 a))&&(decide (k+Net.nTop (y16_0 a)+cntS Card.n_ (deS Card (enS false (Fabric.Cards a)))≤4611686018427387904)&&(decide (length (deS Card (enS false (Fabric.Cards a)))≤1152921504606846976)&&all (deS Card (enS false (Fabric.Cards a))) λx↦decide (length (Card.Open x)≤1152921504606846976)&&(decide (length (Card.Members x)≤1152921504606846976)&&all (Card.Members x) λx_1↦decide (length (Member.In x_1)≤1152921504606846976))&&decide (length (Card.Table x)≤1152921504606846976)))))then bif decide (k+Net.nTop (y16_0 a)+cntS Card.n_ (deS Card (enS false (Fabric.Cards a)))<0)then some ([[D.int i64 (Int.negSucc 0)]],[])else some ([[D.int i64 (k+Net.nTop (y16_0 a)+cntS Card.n_ (deS Card (enS false (Fabric.Cards a))))]],[])else none else none:=by kernel_rfl
theorem m16(a:Fabric)(k:Int):(o16 a k).1=true→e16 a k 0=some (o16 a k).2:=by
 refine pm λhpre=>(r16 a k _).trans ?_;delta y16_0;rw[Bool.and_eq_true]at hpre;obtain⟨hsame,hpre⟩:=hpre;have hsame:=Zav hsame;unfold Fabric.mkTop at hsame;simp only[Bool.and_eq_true]at hpre;obtain⟨h0,h1,h2⟩:=hpre;have h0':=of_decide_eq_true h0;have h1':=of_decide_eq_true h1;unfold Fabric.nTop at h1';have p0:0≤Net.nTop a.Net:=Net.nTop_pos a.Net;have p1:0≤cntS Card.n_ a.Cards:=Zag Card.n_pos a.Cards;have g0:decide (0≤k)=true:=decide_eq_true (by omega)
 have f0:decide (k+Net.nTop a.Net≤4611686018427387904)=true:=decide_eq_true (by omega)
 have d0:decide (k+Net.nTop a.Net<0)=false:=decide_eq_false (by omega)
 have g1:decide (0≤k+Net.nTop a.Net)=true:=decide_eq_true (by omega)
 have f1:decide (k+Net.nTop a.Net+cntS Card.n_ a.Cards≤4611686018427387904)=true:=decide_eq_true (by omega)
 have d1:decide (k+Net.nTop a.Net+cntS Card.n_ a.Cards<0)=false:=decide_eq_false (by omega)
 have s0:=congrArg Fabric.Net hsame;simp only at s0;have s1:=congrArg Fabric.Cards hsame;simp only at s1;simp only[g0,f0,d0,g1,f1,d1,s0,s1,h2,Zak,Zad,Zas,cond_true,cond_false,Bool.and_self,Bool.and_true,Bool.true_and,Fabric.mkTop,Fabric.nTop];try rfl
 try simp only[Int.add_assoc]
def T16:Table:=(16,c16)::T42
theorem Zqg:Table.Sound prog Hx T16:=sa Zq6 func16 (by kernel_rfl) (Zah λa=>Zah λk=>Zan λh=>⟨_,m16 a k h⟩)
def o17(a:List Got)(k:Int):Bool×List Row×List Row:=(sameB (markS Got.mk_ Got.n_ a k) a&&(decide (0≤k)&&(decide (k+cntS Got.n_ a≤4611686018427387904)&&(decide (a.length≤1152921504606846976)&&a.all (λx=>decide (x.Frame.Load.length≤1152921504606846976))))),[[.int .i64 (k+cntS Got.n_ a)]],[])
def c17:Contract:=(cp zp22 λa=>cp zp0 λk=>c0 (o17 a k)) true
def k17_0:KT:=λn↦kThen (λst↦rC 17 T16 n f17 [1,1] 16 [] 16 st (lV f17 [] [])) (lV f17 [] [])
def k17_1:KT:=λn↦kBlock (0) (k17_0 n)
def S17_0(a:List Got)(i0:Int)(i1:Int):St:=St.mk (V_ [C.d (D.sl false 5 (enS false a))]::I_ i0::U_::U_::U_::I_ i1::u_ 56 []) []
def B17_0:BT:=λn↦rC 17 T16 n f17 [1,0,1,0,0] 35 [(0,2)] 16
def X17_2:St:=St.mk (u_ 4 (I_ (Int.negSucc 0)::u_ 57 [])) []
def X17_7(i0:Int):St:=St.mk (U_::I_ i0::u_ 60 []) []
def y17_0(a:List Got)(i1:Int):=drop 1 (getD (enS false a) (toNat i1) [])
def y17_1(a:List Got)(i1:Int):=deS UInt8 (D.rows (getD (drop 3 (y17_0 a i1)) 0 D.dead))
def y17_2(i0:Int):=wrap i64 (wrap i64 (wrap i64 (i0+1)+1)+1)+1
theorem Z0v(a:List Got)(n:Nat)(i0:Int)(i1:Int)(f:St→RR)(K:Ex→St→RR):B17_0 n (S17_0 a i0 i1) (kThen (λst↦f (St.head 0 35 2305843009213693938 st)) K)=bif decide (i1<ofNat (length (enS false a)))then bif decide (0≤i1)&&decide (i1<ofNat (length (enS false a)))then bif Leaf.fit false (Leaf.int i64) (getD (getD (enS false a) (toNat i1) []) 0 D.dead)&&true then bif D.num (getD (getD (enS false a) (toNat i1) []) 0 D.dead) !=i0 then K Ex.ret X17_2 else bif decide (0≤i1)&&decide (i1<ofNat (length (enS false a)))then bif Leaf.fit false (Leaf.int i64) (getD (y17_0 a i1) 0 D.dead)&&true then bif D.num (getD (y17_0 a i1) 0 D.dead) !=wrap i64 (i0+1)then K Ex.ret X17_2 else bif decide (0≤i1)&&decide (i1<ofNat (length (enS false a)))then bif Leaf.fit false (Leaf.int i64) (getD (drop 1 (y17_0 a i1)) 0 D.dead)&&true then bif D.num (getD (drop 1 (y17_0 a i1)) 0 D.dead) !=wrap i64 (wrap i64 (i0+1)+1)then K Ex.ret X17_2 else bif decide (0≤i1)&&decide (i1<ofNat (length (enS false a)))then bif Leaf.fit false (Leaf.int i64) (getD (drop 2 (y17_0 a i1)) 0 D.dead)&&true then bif D.num (getD (drop 2 (y17_0 a i1)) 0 D.dead) !=wrap i64 (wrap i64 (wrap i64 (i0+1)+1)+1)then K Ex.ret X17_2 else bif decide (0≤i1)&&decide (i1<ofNat (length (enS false a)))then bif Leaf.fit false (Leaf.sl 1 true) (getD (drop 3 (y17_0 a i1)) 0 D.dead)&&true then bif isS UInt8 false (D.rows (getD (drop 3 (y17_0 a i1)) 0 D.dead))&&(sameB (markS byteMk oneN (y17_1 a i1) (wrap i64 (y17_2 i0))) (y17_1 a i1)&&(decide (0≤wrap i64 (y17_2 i0))&&(decide (wrap i64 (y17_2 i0)+cntS oneN (y17_1 a i1)≤4611686018427387904)&&decide (length (y17_1 a i1)≤1152921504606846976))))then bif decide (wrap i64 (y17_2 i0)+cntS oneN (y17_1 a i1)<0)then K Ex.ret X17_2 else f (S17_0 a (wrap i64 (y17_2 i0)+cntS oneN (y17_1 a i1)) (wrap i64 (i1+1)))else none else none else none else none else none else none else none else none else none else none else none else K (Ex.exit 0) (X17_7 i0):=by kernel_rfl
theorem aX17_2(n:Nat):k17_1 n Ex.ret X17_2=some ([[D.int i64 (Int.negSucc 0)]],[]):=by kernel_rfl
theorem Zyg(n:Nat)(i0:Int):k17_1 n (Ex.exit 0) (X17_7 i0)=some ([[D.int i64 i0]],[]):=by kernel_rfl
def e17(a:List Got)(k:Int)(n:Nat):=evFn ⟨prog,Hx,17⟩ T16.call n f17 [zp22.row a,zp0.row k]
theorem r17(a:List Got)(k:Int)(n:Nat):e17 a k n=loopRun (B17_0 n) 0 35 2305843009213693938 n (S17_0 a k (0)) (k17_1 n):=by kernel_rfl
theorem m17(a:List Got)(k:Int):(o17 a k).1=true→e17 a k (a.length+1)=some (o17 a k).2:=by
 refine pm λhpre=>(r17 a k _).trans ?_;rw[Bool.and_eq_true]at hpre;obtain⟨hsame,hpre⟩:=hpre;have hsame:=Zav hsame;simp only[Bool.and_eq_true]at hpre;obtain⟨h0,h1,h2,h3⟩:=hpre;have h0:=of_decide_eq_true h0;have h1:=of_decide_eq_true h1;have h2:=of_decide_eq_true h2;refine Zai (xs:=a) (λi (k:Int)=>S17_0 a k (Int.ofNat i)) (λi k=>0≤k∧k+cntS Got.n_ (a.drop i)≤4611686018427387904∧markS Got.mk_ Got.n_ (a.drop i) k=a.drop i) (λ_ k rest=>some ([[D.int .i64 (k+cntS Got.n_ rest)]],[])) ?_ ?_ (a.length+1) k (by omega) ⟨h0,h1,hsame⟩
 ·rintro k ⟨hk0,hk1,_⟩ f;refine(Z0v a _ _ _ f _).trans ?_;delta y17_0 y17_1 y17_2;simp only[Zaa,Zap,Nat.lt_irrefl,decide_false,cond_false];refine(Zyg _ _).trans ?_;simp only[cntS,Int.add_zero]
 ·rintro i k hi ⟨hk0,hk1,hk2⟩ f hf;rw[List.drop_eq_getElem_cons hi]at hk1 hk2;have hel:=List.all_eq_true.1 h3 _ (List.getElem_mem hi);have hc:=Zag (n:=Got.n_) Got.n_pos (a.drop (i+1));try simp only[Bool.and_eq_true]at hel
  simp only[cntS,Got.n_,TFrame.n_]at hk1;have p4:0≤cntS oneN a[i].Frame.Load:=Zag Zbh a[i].Frame.Load;have w0:IntKind.wrap IntKind.i64 (k+1)=k+1:=Zau (by omega) (by omega)
  have w1:IntKind.wrap IntKind.i64 (k+1+1)=k+1+1:=Zau (by omega) (by omega)
  have w2:IntKind.wrap IntKind.i64 (k+1+1+1)=k+1+1+1:=Zau (by omega) (by omega)
  have w3:IntKind.wrap IntKind.i64 (k+1+1+1+1)=k+1+1+1+1:=Zau (by omega) (by omega)
  have g4:decide (0≤k+1+1+1+1)=true:=decide_eq_true (by omega)
  have f4:decide (k+1+1+1+1+cntS oneN a[i].Frame.Load≤4611686018427387904)=true:=decide_eq_true (by omega)
  have d4:decide (k+1+1+1+1+cntS oneN a[i].Frame.Load<0)=false:=decide_eq_false (by omega)
  have he:k+1+1+1+1+cntS oneN a[i].Frame.Load=k+Got.n_ a[i]:=by simp only[Got.n_,TFrame.n_];omega
  simp only[markS,List.cons.injEq]at hk2;obtain⟨hk2,hk3⟩:=hk2;have e0:a[i].Bridge=(k):=(congrArg (λy:Got=>y.Bridge) hk2).symm;have e1:a[i].Frame.To=(k+1):=(congrArg (λy:Got=>y.Frame.To) hk2).symm;have e2:a[i].Frame.From=(k+1+1):=(congrArg (λy:Got=>y.Frame.From) hk2).symm;have e3:a[i].Frame.Vlan=(k+1+1+1):=(congrArg (λy:Got=>y.Frame.Vlan) hk2).symm;have e4:sameB (markS byteMk oneN a[i].Frame.Load (k+1+1+1+1)) a[i].Frame.Load=true:=by rw[show markS byteMk oneN a[i].Frame.Load (k+1+1+1+1)=a[i].Frame.Load from congrArg (λy:Got=>y.Frame.Load) hk2];exact Zas _
  refine(Z0v a _ _ _ f _).trans ?_;delta y17_0 y17_1 y17_2;simp only[Zaa,Zac,Zap,Zaq,Zab _ hi,hi,Zae (show i<4611686018427387904 by omega),decide_true,cond_true,Bool.and_self,Bool.and_true,Bool.true_and,En.enc,List.append_eq,List.take_succ_cons,List.take_zero,List.drop_succ_cons,List.drop_zero,List.cons_append,List.nil_append,List.getD_cons_zero,List.getD_cons_succ,D.num,D.flag,D.text,D.rows,Leaf.fit,beq_self_eq_true,Zak,Zad,hel,w0,w1,w2,w3,g4,f4,d4]
  simp only[e0,e1,e2,e3,e4,bne_self_eq_false,cond_true,cond_false,hel,w0,w1,w2,w3,g4,f4,d4,Bool.and_self,Bool.and_true,Bool.true_and,Zaa];refine(hf (k+1+1+1+1+cntS oneN a[i].Frame.Load) ⟨by omega,by omega,by rw[he];exact hk3⟩).trans ?_
  show _=some ([[D.int .i64 (k+(Got.n_ a[i]+cntS Got.n_ (a.drop (i+1))))]],[]);rw[he,Int.add_assoc]
def T17:Table:=(17,c17)::T16
theorem Zqh:Table.Sound prog Hx T17:=sa Zqg func17 (by kernel_rfl) (Zah λa=>Zah λk=>Zan λh=>⟨_,m17 a k h⟩)
def o77(a:List Bool)(k:Int):Bool×List Row×List Row:=(decide (0≤k)&&(decide (k+cntS oneN a≤4611686018427387904)&&decide (a.length≤1152921504606846976)),[[.int .i64 (k+cntS oneN a)]],[[.sl true 1 (enS true (markS boolMk oneN a k))]])
def zp26:Pa (List Bool):=⟨λa=>[.sl true 1 (enS true a)],λr=>match r with|[.sl true 1 a]=>some (λt=>t&&isS Bool true a,(deS Bool a))|_=>none,by
 intro r f x h t ht;split at h
 ·cases h;simp only[Bool.and_eq_true]at ht;obtain⟨ht,h0⟩:=ht;obtain⟨_,rfl⟩:=Zay h0;exact⟨ht,by simp only[Zad]⟩
 ·cases h⟩
def c77:Contract:=(cp zp26 λa=>cp zp0 λk=>c0 (o77 a k)) true
def k77_0:KT:=λn↦kThen (λst↦rC 77 T17 n f77 [1,1] 16 [] 16 st (lV f77 [] [C.view 0 0 0 [] 1 none])) (lV f77 [] [C.view 0 0 0 [] 1 none])
def k77_1:KT:=λn↦kBlock (0) (k77_0 n)
def S77_0(i0:Int)(i1:Int)(es2:List (List D)):St:=St.mk (V_ [C.view 0 0 0 [] 1 none]::I_ i0::U_::U_::U_::I_ i1::u_ 15 []) [Root.mk false 1 es2 0 0 true true false [] 0 []]
def B77_0:BT:=λn↦rC 77 T17 n f77 [1,0,1,0,0] 35 [(0,2)] 16
def X77_2(i0:Int)(es2:List (List D)):St:=St.mk (U_::I_ i0::u_ 19 []) [Root.mk false 1 es2 0 0 true true false [] 0 []]
theorem Z10(n:Nat)(i0:Int)(i1:Int)(es2:List (List D))(f:St→RR)(K:Ex→St→RR):B77_0 n (S77_0 i0 i1 es2) (kThen (λst↦f (St.head 1 35 1048546 st)) K)=bif decide (i1<ofNat (length es2))then bif decide (0≤i1)&&decide (i1<ofNat (length es2))then f (S77_0 (wrap i64 (i0+1)) (wrap i64 (i1+1)) (set es2 (0+toNat i1) [D.bool (Int.tmod i0 (3)==0)]))else none else K (Ex.exit 0) (X77_2 i0 es2):=by kernel_rfl
theorem Zzv(n:Nat)(i0:Int)(es2:List (List D)):k77_1 n (Ex.exit 0) (X77_2 i0 es2)=some ([[D.int i64 i0]],[[D.sl true 1 es2]]):=by kernel_rfl
def e77(a:List Bool)(k:Int)(n:Nat):=evFn ⟨prog,Hx,77⟩ T17.call n f77 [zp26.row a,zp0.row k]
theorem r77(a:List Bool)(k:Int)(n:Nat):e77 a k n=loopRun (B77_0 n) 1 35 1048546 n (S77_0 k (0) (enS true a)) (k77_1 n):=by kernel_rfl
theorem m77(a:List Bool)(k:Int):(o77 a k).1=true→e77 a k (a.length+1)=some (o77 a k).2:=by
 refine pm λhpre=>(r77 a k _).trans ?_;simp only[Bool.and_eq_true,decide_eq_true_eq]at hpre;obtain⟨h0,h1,h2⟩:=hpre;refine Zai (xs:=a) (λi (v:List Bool×Int)=>S77_0 v.2 (Int.ofNat i) (enS true (v.1++a.drop i))) (λi v=>v.1.length=i∧0≤v.2∧v.2+cntS oneN (a.drop i)≤4611686018427387904) (λ_ v rest=>some ([[D.int .i64 (v.2+cntS oneN rest)]],[[D.sl true 1 (enS true (v.1++markS boolMk oneN rest v.2))]])) ?_ ?_ (a.length+1) ([],k) (by omega) ⟨rfl,h0,h1⟩
 ·rintro⟨pre,k⟩ ⟨hl,hk0,hk1⟩ f;refine(Z10 _ _ _ _ f _).trans ?_;simp only[Zaa,List.drop_length,List.append_nil,hl,Zap,Nat.lt_irrefl,decide_false,cond_false];refine(Zzv _ _ _).trans ?_;simp only[List.append_nil,cntS,markS,Int.add_zero]
 ·rintro i ⟨pre,k⟩ hi ⟨hl,hk0,hk1⟩ f hf;simp only at hl hk0 hk1;rw[List.drop_eq_getElem_cons hi]at hk1;generalize hx:a[i]=x at hk1⊢;have hc:=Zag (n:=oneN) Zbh (a.drop (i+1));have hn:oneN x=1:=rfl;simp only[cntS,hn]at hk1;refine(Z10 _ _ _ _ f _).trans ?_;rw[List.drop_eq_getElem_cons hi,hx];have hm:=Zdn pre x (a.drop (i+1)) hl;have hat:=Zfa pre x (a.drop (i+1)) hl hm;have hs:∀R,((enS true (pre++x::a.drop (i+1))).set i R).getD i []=R:=λR=>Zat _ _ _ _ (by rw[Zaa];exact hm)
  simp only[List.length_set,Zaa,Zac,Nat.zero_add,Zap,Zaq,hm,hs,List.set_set,Zab _ hm,hat,decide_true,cond_true,Bool.and_self,Zae (show i<4611686018427387904 by omega),En.enc,List.append_eq,List.take_succ_cons,List.take_zero,List.drop_succ_cons,List.drop_zero,List.cons_append,List.nil_append]
  have hw1:IntKind.wrap IntKind.i64 (k+1)=k+1:=Zau (by omega) (by omega)
  simp only[hw1];have he:k+1=k+oneN x:=by omega
  skip;refine(congrArg f (congrArg (S77_0 _ _) ((Za9 true _ i (boolMk x k)).trans (congrArg (enS true) (Zda pre x _ _ hl))))).trans ?_;refine(hf (pre++[boolMk x k],k+1) ⟨by simp[hl],by simp only;omega,by simp only;omega⟩).trans ?_
  show _=some ([[D.int .i64 (k+(oneN x+cntS oneN (a.drop (i+1))))]],[[D.sl true 1 (enS true (pre++(boolMk x k::markS boolMk oneN (a.drop (i+1)) (k+oneN x))))]]);rw[he,List.append_assoc,List.singleton_append,Int.add_assoc]
def T77:Table:=(77,c77)::T17
theorem Zr5:Table.Sound prog Hx T77:=sa Zqh func77 (by kernel_rfl) (Zah λa=>Zah λk=>Zan λh=>⟨_,m77 a k h⟩)
def o122(a:List Port)(k:Int):Bool×List Row×List Row:=(decide (0≤k)&&(decide (k+cntS Port.n_ a≤4611686018427387904)&&decide (a.length≤1152921504606846976)),[[.int .i64 (k+cntS Port.n_ a)]],[[.sl true 11 (enS true (markS Port.mk_ Port.n_ a k))]])
def zp27:Pa (List Port):=⟨λa=>[.sl true 11 (enS true a)],λr=>match r with|[.sl true 11 a]=>some (λt=>t&&isS Port true a,(deS Port a))|_=>none,by
 intro r f x h t ht;split at h
 ·cases h;simp only[Bool.and_eq_true]at ht;obtain⟨ht,h0⟩:=ht;obtain⟨_,rfl⟩:=Zay h0;exact⟨ht,by simp only[Zad]⟩
 ·cases h⟩
def c122:Contract:=(cp zp27 λa=>cp zp0 λk=>c0 (o122 a k)) true
def k122_0:KT:=λn↦kThen (λst↦rC 122 T77 n f122 [1,1] 16 [] 16 st (lV f122 [] [C.view 0 0 0 [] 11 none])) (lV f122 [] [C.view 0 0 0 [] 11 none])
def k122_1:KT:=λn↦kBlock (0) (k122_0 n)
def S122_0(i0:Int)(i1:Int)(es2:List (List D)):St:=St.mk (V_ [C.view 0 0 0 [] 11 none]::I_ i0::U_::U_::U_::I_ i1::u_ 94 []) [Root.mk false 11 es2 0 0 true true false [] 0 []]
def B122_0:BT:=λn↦rC 122 T77 n f122 [1,0,1,0,0] 35 [(0,2)] 16
def X122_2(i0:Int)(es2:List (List D)):St:=St.mk (U_::I_ i0::u_ 98 []) [Root.mk false 11 es2 0 0 true true false [] 0 []]
def w122_3(i0:Int)(i1:Int)(es2:List (List D)):List (List D):=set es2 (0+toNat i1) (D.bool (Int.tmod i0 (3)==0)::drop 1 (getD es2 (0+toNat i1) []))
def w122_4(i0:Int)(i1:Int)(es2:List (List D)):List (List D):=set (w122_3 i0 i1 es2) (0+toNat i1) (append (append (take 1 (getD (w122_3 i0 i1 es2) (0+toNat i1) [])) [D.bool (Int.tmod (wrap i64 (i0+1)) (3)==0)]) (drop 2 (getD (w122_3 i0 i1 es2) (0+toNat i1) [])))
def w122_5(i0:Int)(i1:Int)(es2:List (List D)):List (List D):=set (w122_4 i0 i1 es2) (0+toNat i1) (append (append (take 2 (getD (w122_4 i0 i1 es2) (0+toNat i1) [])) [D.int i64 (wrap i64 (wrap i64 (i0+1)+1))]) (drop 3 (getD (w122_4 i0 i1 es2) (0+toNat i1) [])))
def w122_6(i0:Int)(i1:Int)(es2:List (List D)):List (List D):=set (w122_5 i0 i1 es2) (0+toNat i1) (append (append (take 3 (getD (w122_5 i0 i1 es2) (0+toNat i1) [])) [D.int i64 (wrap i64 (wrap i64 (wrap i64 (i0+1)+1)+1))]) (drop 4 (getD (w122_5 i0 i1 es2) (0+toNat i1) [])))
def w122_7(i0:Int)(i1:Int)(es2:List (List D)):List (List D):=set (w122_6 i0 i1 es2) (0+toNat i1) (append (append (take 4 (getD (w122_6 i0 i1 es2) (0+toNat i1) [])) [D.int i64 (wrap i64 (wrap i64 (wrap i64 (wrap i64 (i0+1)+1)+1)+1))]) (drop 5 (getD (w122_6 i0 i1 es2) (0+toNat i1) [])))
def w122_8(i0:Int)(i1:Int)(es2:List (List D)):List (List D):=set (w122_7 i0 i1 es2) (0+toNat i1) (append (append (take 5 (getD (w122_7 i0 i1 es2) (0+toNat i1) [])) [D.int i64 (wrap i64 (wrap i64 (wrap i64 (wrap i64 (wrap i64 (i0+1)+1)+1)+1)+1))]) (drop 6 (getD (w122_7 i0 i1 es2) (0+toNat i1) [])))
def w122_9(i0:Int)(i1:Int)(es2:List (List D)):List (List D):=set (w122_8 i0 i1 es2) (0+toNat i1) (append (append (take 6 (getD (w122_8 i0 i1 es2) (0+toNat i1) [])) [D.int i64 (wrap i64 (wrap i64 (wrap i64 (wrap i64 (wrap i64 (wrap i64 (i0+1)+1)+1)+1)+1)+1))]) (drop 7 (getD (w122_8 i0 i1 es2) (0+toNat i1) [])))
def w122_10(i0:Int)(i1:Int)(es2:List (List D)):List (List D):=set (w122_9 i0 i1 es2) (0+toNat i1) (append (append (take 7 (getD (w122_9 i0 i1 es2) (0+toNat i1) [])) [D.int i64 (wrap i64 (wrap i64 (wrap i64 (wrap i64 (wrap i64 (wrap i64 (wrap i64 (i0+1)+1)+1)+1)+1)+1)+1))]) (drop 8 (getD (w122_9 i0 i1 es2) (0+toNat i1) [])))
def w122_11(i0:Int)(i1:Int)(es2:List (List D)):List (List D):=set (w122_10 i0 i1 es2) (0+toNat i1) (append (append (take 8 (getD (w122_10 i0 i1 es2) (0+toNat i1) [])) [D.int i64 (wrap i64 (wrap i64 (wrap i64 (wrap i64 (wrap i64 (wrap i64 (wrap i64 (wrap i64 (i0+1)+1)+1)+1)+1)+1)+1)+1))]) (drop 9 (getD (w122_10 i0 i1 es2) (0+toNat i1) [])))
def w122_12(i0:Int)(i1:Int)(es2:List (List D)):List (List D):=set (w122_11 i0 i1 es2) (0+toNat i1) (append (append (take 9 (getD (w122_11 i0 i1 es2) (0+toNat i1) [])) [D.int i64 (wrap i64 (wrap i64 (wrap i64 (wrap i64 (wrap i64 (wrap i64 (wrap i64 (wrap i64 (wrap i64 (i0+1)+1)+1)+1)+1)+1)+1)+1)+1))]) (drop 10 (getD (w122_11 i0 i1 es2) (0+toNat i1) [])))
def y122_0(i0:Int):=wrap i64 (wrap i64 (wrap i64 (wrap i64 (wrap i64 (wrap i64 (wrap i64 (wrap i64 (wrap i64 (i0+1)+1)+1)+1)+1)+1)+1)+1)+1)+1
theorem Zv7(n:Nat)(i0:Int)(i1:Int)(es2:List (List D))(f:St→RR)(K:Ex→St→RR):B122_0 n (S122_0 i0 i1 es2) (kThen (λst↦f (St.head 1 35 633825300114114700748351602658 st)) K)=bif decide (i1<ofNat (length es2))then bif decide (0≤i1)&&decide (i1<ofNat (length es2))then bif decide (0≤i1)&&decide (i1<ofNat (length (w122_3 i0 i1 es2)))then bif decide (0≤i1)&&decide (i1<ofNat (length (w122_4 i0 i1 es2)))then bif decide (0≤i1)&&decide (i1<ofNat (length (w122_5 i0 i1 es2)))then bif decide (0≤i1)&&decide (i1<ofNat (length (w122_6 i0 i1 es2)))then bif decide (0≤i1)&&decide (i1<ofNat (length (w122_7 i0 i1 es2)))then bif decide (0≤i1)&&decide (i1<ofNat (length (w122_8 i0 i1 es2)))then bif decide (0≤i1)&&decide (i1<ofNat (length (w122_9 i0 i1 es2)))then bif decide (0≤i1)&&decide (i1<ofNat (length (w122_10 i0 i1 es2)))then bif decide (0≤i1)&&decide (i1<ofNat (length (w122_11 i0 i1 es2)))then bif decide (0≤i1)&&decide (i1<ofNat (length (w122_12 i0 i1 es2)))then f (S122_0 (wrap i64 (wrap i64 (y122_0 i0)+1)) (wrap i64 (i1+1)) (set (w122_12 i0 i1 es2) (0+toNat i1) (append (append (take 10 (getD (w122_12 i0 i1 es2) (0+toNat i1) [])) [D.bool (Int.tmod (wrap i64 (y122_0 i0)) (3)==0)]) (drop 11 (getD (w122_12 i0 i1 es2) (0+toNat i1) [])))))else none else none else none else none else none else none else none else none else none else none else none else K (Ex.exit 0) (X122_2 i0 es2):=by kernel_rfl
theorem Zw3(n:Nat)(i0:Int)(es2:List (List D)):k122_1 n (Ex.exit 0) (X122_2 i0 es2)=some ([[D.int i64 i0]],[[D.sl true 11 es2]]):=by kernel_rfl
def e122(a:List Port)(k:Int)(n:Nat):=evFn ⟨prog,Hx,122⟩ T77.call n f122 [zp27.row a,zp0.row k]
theorem r122(a:List Port)(k:Int)(n:Nat):e122 a k n=loopRun (B122_0 n) 1 35 633825300114114700748351602658 n (S122_0 k (0) (enS true a)) (k122_1 n):=by kernel_rfl
theorem m122(a:List Port)(k:Int):(o122 a k).1=true→e122 a k (a.length+1)=some (o122 a k).2:=by
 refine pm λhpre=>(r122 a k _).trans ?_;simp only[Bool.and_eq_true,decide_eq_true_eq]at hpre;obtain⟨h0,h1,h2⟩:=hpre;refine Zai (xs:=a) (λi (v:List Port×Int)=>S122_0 v.2 (Int.ofNat i) (enS true (v.1++a.drop i))) (λi v=>v.1.length=i∧0≤v.2∧v.2+cntS Port.n_ (a.drop i)≤4611686018427387904) (λ_ v rest=>some ([[D.int .i64 (v.2+cntS Port.n_ rest)]],[[D.sl true 11 (enS true (v.1++markS Port.mk_ Port.n_ rest v.2))]])) ?_ ?_ (a.length+1) ([],k) (by omega) ⟨rfl,h0,h1⟩
 ·rintro⟨pre,k⟩ ⟨hl,hk0,hk1⟩ f;refine(Zv7 _ _ _ _ f _).trans ?_;delta y122_0;simp only[Zaa,List.drop_length,List.append_nil,hl,Zap,Nat.lt_irrefl,decide_false,cond_false];refine(Zw3 _ _ _).trans ?_;simp only[List.append_nil,cntS,markS,Int.add_zero]
 ·rintro i ⟨pre,k⟩ hi ⟨hl,hk0,hk1⟩ f hf;simp only at hl hk0 hk1;rw[List.drop_eq_getElem_cons hi]at hk1;generalize hx:a[i]=x at hk1⊢;have hc:=Zag (n:=Port.n_) Port.n_pos (a.drop (i+1));have hn:Port.n_ x=11:=rfl;simp only[cntS,hn]at hk1;refine(Zv7 _ _ _ _ f _).trans ?_;delta y122_0;rw[List.drop_eq_getElem_cons hi,hx];have hm:=Zdn pre x (a.drop (i+1)) hl;have hat:=Zfa pre x (a.drop (i+1)) hl hm;have hs:∀R,((enS true (pre++x::a.drop (i+1))).set i R).getD i []=R:=λR=>Zat _ _ _ _ (by rw[Zaa];exact hm)
  simp only[w122_3,w122_4,w122_5,w122_6,w122_7,w122_8,w122_9,w122_10,w122_11,w122_12,List.length_set,Zaa,Zac,Nat.zero_add,Zap,Zaq,hm,hs,List.set_set,Zab _ hm,hat,decide_true,cond_true,Bool.and_self,Zae (show i<4611686018427387904 by omega),En.enc,List.append_eq,List.take_succ_cons,List.take_zero,List.drop_succ_cons,List.drop_zero,List.cons_append,List.nil_append]
  have hw1:IntKind.wrap IntKind.i64 (k+1)=k+1:=Zau (by omega) (by omega)
  have hw2:IntKind.wrap IntKind.i64 (k+1+1)=k+1+1:=Zau (by omega) (by omega)
  have hw3:IntKind.wrap IntKind.i64 (k+1+1+1)=k+1+1+1:=Zau (by omega) (by omega)
  have hw4:IntKind.wrap IntKind.i64 (k+1+1+1+1)=k+1+1+1+1:=Zau (by omega) (by omega)
  have hw5:IntKind.wrap IntKind.i64 (k+1+1+1+1+1)=k+1+1+1+1+1:=Zau (by omega) (by omega)
  have hw6:IntKind.wrap IntKind.i64 (k+1+1+1+1+1+1)=k+1+1+1+1+1+1:=Zau (by omega) (by omega)
  have hw7:IntKind.wrap IntKind.i64 (k+1+1+1+1+1+1+1)=k+1+1+1+1+1+1+1:=Zau (by omega) (by omega)
  have hw8:IntKind.wrap IntKind.i64 (k+1+1+1+1+1+1+1+1)=k+1+1+1+1+1+1+1+1:=Zau (by omega) (by omega)
  have hw9:IntKind.wrap IntKind.i64 (k+1+1+1+1+1+1+1+1+1)=k+1+1+1+1+1+1+1+1+1:=Zau (by omega) (by omega)
  have hw10:IntKind.wrap IntKind.i64 (k+1+1+1+1+1+1+1+1+1+1)=k+1+1+1+1+1+1+1+1+1+1:=Zau (by omega) (by omega)
  have hw11:IntKind.wrap IntKind.i64 (k+1+1+1+1+1+1+1+1+1+1+1)=k+1+1+1+1+1+1+1+1+1+1+1:=Zau (by omega) (by omega)
  simp only[hw1,hw2,hw3,hw4,hw5,hw6,hw7,hw8,hw9,hw10,hw11];have he:k+1+1+1+1+1+1+1+1+1+1+1=k+Port.n_ x:=by omega
  skip;refine(congrArg f (congrArg (S122_0 _ _) ((Za9 true _ i (Port.mk_ x k)).trans (congrArg (enS true) (Zda pre x _ _ hl))))).trans ?_;refine(hf (pre++[Port.mk_ x k],k+1+1+1+1+1+1+1+1+1+1+1) ⟨by simp[hl],by simp only;omega,by simp only;omega⟩).trans ?_
  show _=some ([[D.int .i64 (k+(Port.n_ x+cntS Port.n_ (a.drop (i+1))))]],[[D.sl true 11 (enS true (pre++(Port.mk_ x k::markS Port.mk_ Port.n_ (a.drop (i+1)) (k+Port.n_ x))))]]);rw[he,List.append_assoc,List.singleton_append,Int.add_assoc]
def T122:Table:=(122,c122)::T77
theorem Zon:Table.Sound prog Hx T122:=sa Zr5 func122 (by kernel_rfl) (Zah λa=>Zah λk=>Zan λh=>⟨_,m122 a k h⟩)
def o75(a:List Bridge)(k:Int):Bool×List Row×List Row:=(decide (0≤k)&&(decide (k+cntS Bridge.n_ a≤4611686018427387904)&&(decide (a.length≤1152921504606846976)&&a.all (λx=>decide (x.Ports.length≤1152921504606846976)))),[[.int .i64 (k+cntS Bridge.n_ a)]],[[.sl true 2 (enS true (markS Bridge.mk_ Bridge.n_ a k))]])
def zp28:Pa (List Bridge):=⟨λa=>[.sl true 2 (enS true a)],λr=>match r with|[.sl true 2 a]=>some (λt=>t&&isS Bridge true a,(deS Bridge a))|_=>none,by
 intro r f x h t ht;split at h
 ·cases h;simp only[Bool.and_eq_true]at ht;obtain⟨ht,h0⟩:=ht;obtain⟨_,rfl⟩:=Zay h0;exact⟨ht,by simp only[Zad]⟩
 ·cases h⟩
def c75:Contract:=(cp zp28 λa=>cp zp0 λk=>c0 (o75 a k)) true
def k75_0:KT:=λn↦kThen (λst↦rC 75 T122 n f75 [1,1] 16 [] 16 st (lV f75 [] [C.view 0 0 0 [] 2 none])) (lV f75 [] [C.view 0 0 0 [] 2 none])
def k75_1:KT:=λn↦kBlock (0) (k75_0 n)
def S75_0(i0:Int)(i1:Int)(es2:List (List D)):St:=St.mk (V_ [C.view 0 0 0 [] 2 none]::I_ i0::U_::U_::U_::I_ i1::u_ 21 []) [Root.mk false 2 es2 0 0 true true false [] 0 []]
def B75_0:BT:=λn↦rC 75 T122 n f75 [1,0,1,0,0] 35 [(0,2)] 16
def X75_2(i0:Int)(es2:List (List D)):St:=St.mk (U_::I_ i0::u_ 25 []) [Root.mk false 2 es2 0 0 true true false [] 0 []]
def w75_3(i0:Int)(i1:Int)(es2:List (List D)):List (List D):=set es2 (0+toNat i1) (D.int i64 i0::drop 1 (getD es2 (0+toNat i1) []))
def w75_4(i0:Int)(i1:Int)(es2:List (List D)):List (List D):=set (w75_3 i0 i1 es2) (0+toNat i1) (set (getD (w75_3 i0 i1 es2) (0+toNat i1) []) 1 D.dead)
def y75_0(es2:List (List D))(i0:Int)(i1:Int):=getD (getD (w75_3 i0 i1 es2) (0+toNat i1) []) 1 D.dead
theorem Z1y(n:Nat)(i0:Int)(i1:Int)(es2:List (List D))(f:St→RR)(K:Ex→St→RR):B75_0 n (S75_0 i0 i1 es2) (kThen (λst↦f (St.head 1 35 67108834 st)) K)=bif decide (i1<ofNat (length es2))then bif decide (0≤i1)&&decide (i1<ofNat (length es2))then bif decide (0≤i1)&&decide (i1<ofNat (length (w75_3 i0 i1 es2)))then bif Leaf.fit true (Leaf.sl 11 true) (y75_0 es2 i0 i1)&&true then bif D.isOwn (y75_0 es2 i0 i1)&&true&&true&&true then bif isS Port true (D.rows (y75_0 es2 i0 i1))&&(decide (0≤wrap i64 (i0+1))&&(decide (wrap i64 (i0+1)+cntS Port.n_ (deS Port (D.rows (y75_0 es2 i0 i1)))≤4611686018427387904)&&decide (length (deS Port (D.rows (y75_0 es2 i0 i1)))≤1152921504606846976)))then bif D.isOwn (y75_0 es2 i0 i1)&&true&&true&&true then f (S75_0 (wrap i64 (i0+1)+cntS Port.n_ (deS Port (D.rows (y75_0 es2 i0 i1)))) (wrap i64 (i1+1)) (set (w75_4 i0 i1 es2) (0+toNat i1) (set (getD (w75_4 i0 i1 es2) (0+toNat i1) []) 1 (D.sl true 11 (enS true (markS Port.mk_ Port.n_ (deS Port (D.rows (y75_0 es2 i0 i1))) (wrap i64 (i0+1))))))))else none else none else none else none else none else none else K (Ex.exit 0) (X75_2 i0 es2):=by kernel_rfl
theorem Zzt(n:Nat)(i0:Int)(es2:List (List D)):k75_1 n (Ex.exit 0) (X75_2 i0 es2)=some ([[D.int i64 i0]],[[D.sl true 2 es2]]):=by kernel_rfl
def e75(a:List Bridge)(k:Int)(n:Nat):=evFn ⟨prog,Hx,75⟩ T122.call n f75 [zp28.row a,zp0.row k]
theorem r75(a:List Bridge)(k:Int)(n:Nat):e75 a k n=loopRun (B75_0 n) 1 35 67108834 n (S75_0 k (0) (enS true a)) (k75_1 n):=by kernel_rfl
theorem m75(a:List Bridge)(k:Int):(o75 a k).1=true→e75 a k (a.length+1)=some (o75 a k).2:=by
 refine pm λhpre=>(r75 a k _).trans ?_;simp only[Bool.and_eq_true]at hpre;obtain⟨h0,h1,h2,h3⟩:=hpre;have h0:=of_decide_eq_true h0;have h1:=of_decide_eq_true h1;have h2:=of_decide_eq_true h2;refine Zai (xs:=a) (λi (v:List Bridge×Int)=>S75_0 v.2 (Int.ofNat i) (enS true (v.1++a.drop i))) (λi v=>v.1.length=i∧0≤v.2∧v.2+cntS Bridge.n_ (a.drop i)≤4611686018427387904) (λ_ v rest=>some ([[D.int .i64 (v.2+cntS Bridge.n_ rest)]],[[D.sl true 2 (enS true (v.1++markS Bridge.mk_ Bridge.n_ rest v.2))]])) ?_ ?_ (a.length+1) ([],k) (by omega) ⟨rfl,h0,h1⟩
 ·rintro⟨pre,k⟩ ⟨hl,hk0,hk1⟩ f;refine(Z1y _ _ _ _ f _).trans ?_;delta y75_0;simp only[Zaa,List.drop_length,List.append_nil,hl,Zap,Nat.lt_irrefl,decide_false,cond_false];refine(Zzt _ _ _).trans ?_;simp only[List.append_nil,cntS,markS,Int.add_zero]
 ·rintro i ⟨pre,k⟩ hi ⟨hl,hk0,hk1⟩ f hf;simp only at hl hk0 hk1;rw[List.drop_eq_getElem_cons hi]at hk1;have hel:=List.all_eq_true.1 h3 _ (List.getElem_mem hi);generalize hx:a[i]=x at hk1 hel⊢;have hc:=Zag (n:=Bridge.n_) Bridge.n_pos (a.drop (i+1));try simp only[Bool.and_eq_true]at hel
  simp only[cntS,Bridge.n_]at hk1;have p1:0≤cntS Port.n_ x.Ports:=Zag Port.n_pos x.Ports;have w0:IntKind.wrap IntKind.i64 (k+1)=k+1:=Zau (by omega) (by omega)
  have g1:decide (0≤k+1)=true:=decide_eq_true (by omega)
  have f1:decide (k+1+cntS Port.n_ x.Ports≤4611686018427387904)=true:=decide_eq_true (by omega)
  refine(Z1y _ _ _ _ f _).trans ?_;delta y75_0;rw[List.drop_eq_getElem_cons hi,hx];have hm:=Zdn pre x (a.drop (i+1)) hl;have hat:=Zfa pre x (a.drop (i+1)) hl hm;have hs:∀R,((enS true (pre++x::a.drop (i+1))).set i R).getD i []=R:=λR=>Zat _ _ _ _ (by rw[Zaa];exact hm)
  simp only[w75_3,w75_4,List.length_set,Zaa,Zac,Nat.zero_add,Zap,Zaq,hm,hs,List.set_set,Zab _ hm,hat,decide_true,cond_true,Bool.and_self,Bool.and_true,Bool.true_and,Zae (show i<4611686018427387904 by omega),En.enc,List.append_eq,List.take_succ_cons,List.take_zero,List.drop_succ_cons,List.drop_zero,List.cons_append,List.nil_append,List.getD_cons_zero,List.getD_cons_succ,D.num,D.flag,D.text,D.rows,D.isOwn,pathOk,Leaf.fit,beq_self_eq_true,Zak,Zad,Zal,List.set_cons_zero,List.set_cons_succ,hel,w0,g1,f1]
  have he:k+1+cntS Port.n_ x.Ports=k+Bridge.n_ x:=by simp only[Bridge.n_];omega
  refine(congrArg f (congrArg (S75_0 _ _) ((Za9 true _ i (Bridge.mk_ x k)).trans (congrArg (enS true) (Zda pre x _ _ hl))))).trans ?_;refine(hf (pre++[Bridge.mk_ x k],k+1+cntS Port.n_ x.Ports) ⟨by simp[hl],by simp only;omega,by simp only;omega⟩).trans ?_
  show _=some ([[D.int .i64 (k+(Bridge.n_ x+cntS Bridge.n_ (a.drop (i+1))))]],[[D.sl true 2 (enS true (pre++(Bridge.mk_ x k::markS Bridge.mk_ Bridge.n_ (a.drop (i+1)) (k+Bridge.n_ x))))]]);rw[he,List.append_assoc,List.singleton_append,Int.add_assoc]
def T75:Table:=(75,c75)::T122
theorem Zr3:Table.Sound prog Hx T75:=sa Zon func75 (by kernel_rfl) (Zah λa=>Zah λk=>Zan λh=>⟨_,m75 a k h⟩)
def o41(a:List UInt8)(k:Int):Bool×List Row×List Row:=(decide (0≤k)&&(decide (k+cntS oneN a≤4611686018427387904)&&decide (a.length≤1152921504606846976)),[[.int .i64 (k+cntS oneN a)]],[[.sl true 1 (enS true (markS byteMk oneN a k))]])
def zp29:Pa (List UInt8):=⟨λa=>[.sl true 1 (enS true a)],λr=>match r with|[.sl true 1 a]=>some (λt=>t&&isS UInt8 true a,(deS UInt8 a))|_=>none,by
 intro r f x h t ht;split at h
 ·cases h;simp only[Bool.and_eq_true]at ht;obtain⟨ht,h0⟩:=ht;obtain⟨_,rfl⟩:=Zay h0;exact⟨ht,by simp only[Zad]⟩
 ·cases h⟩
def c41:Contract:=(cp zp29 λa=>cp zp0 λk=>c0 (o41 a k)) true
def k41_0:KT:=λn↦kThen (λst↦rC 41 T75 n f41 [1,1] 16 [] 16 st (lV f41 [] [C.view 0 0 0 [] 1 none])) (lV f41 [] [C.view 0 0 0 [] 1 none])
def k41_1:KT:=λn↦kBlock (0) (k41_0 n)
def S41_0(i0:Int)(i1:Int)(es2:List (List D)):St:=St.mk (V_ [C.view 0 0 0 [] 1 none]::I_ i0::U_::U_::U_::I_ i1::u_ 14 []) [Root.mk false 1 es2 0 0 true true false [] 0 []]
def B41_0:BT:=λn↦rC 41 T75 n f41 [1,0,1,0,0] 35 [(0,2)] 16
def X41_2(i0:Int)(es2:List (List D)):St:=St.mk (U_::I_ i0::u_ 18 []) [Root.mk false 1 es2 0 0 true true false [] 0 []]
theorem Z1b(n:Nat)(i0:Int)(i1:Int)(es2:List (List D))(f:St→RR)(K:Ex→St→RR):B41_0 n (S41_0 i0 i1 es2) (kThen (λst↦f (St.head 1 35 524258 st)) K)=bif decide (i1<ofNat (length es2))then bif decide (0≤i1)&&decide (i1<ofNat (length es2))then f (S41_0 (wrap i64 (i0+1)) (wrap i64 (i1+1)) (set es2 (0+toNat i1) [D.int IntKind.u8 (wrap IntKind.u8 i0)]))else none else K (Ex.exit 0) (X41_2 i0 es2):=by kernel_rfl
theorem Zyx(n:Nat)(i0:Int)(es2:List (List D)):k41_1 n (Ex.exit 0) (X41_2 i0 es2)=some ([[D.int i64 i0]],[[D.sl true 1 es2]]):=by kernel_rfl
def e41(a:List UInt8)(k:Int)(n:Nat):=evFn ⟨prog,Hx,41⟩ T75.call n f41 [zp29.row a,zp0.row k]
theorem r41(a:List UInt8)(k:Int)(n:Nat):e41 a k n=loopRun (B41_0 n) 1 35 524258 n (S41_0 k (0) (enS true a)) (k41_1 n):=by kernel_rfl
theorem m41(a:List UInt8)(k:Int):(o41 a k).1=true→e41 a k (a.length+1)=some (o41 a k).2:=by
 refine pm λhpre=>(r41 a k _).trans ?_;simp only[Bool.and_eq_true,decide_eq_true_eq]at hpre;obtain⟨h0,h1,h2⟩:=hpre;refine Zai (xs:=a) (λi (v:List UInt8×Int)=>S41_0 v.2 (Int.ofNat i) (enS true (v.1++a.drop i))) (λi v=>v.1.length=i∧0≤v.2∧v.2+cntS oneN (a.drop i)≤4611686018427387904) (λ_ v rest=>some ([[D.int .i64 (v.2+cntS oneN rest)]],[[D.sl true 1 (enS true (v.1++markS byteMk oneN rest v.2))]])) ?_ ?_ (a.length+1) ([],k) (by omega) ⟨rfl,h0,h1⟩
 ·rintro⟨pre,k⟩ ⟨hl,hk0,hk1⟩ f;refine(Z1b _ _ _ _ f _).trans ?_;simp only[Zaa,List.drop_length,List.append_nil,hl,Zap,Nat.lt_irrefl,decide_false,cond_false];refine(Zyx _ _ _).trans ?_;simp only[List.append_nil,cntS,markS,Int.add_zero]
 ·rintro i ⟨pre,k⟩ hi ⟨hl,hk0,hk1⟩ f hf;simp only at hl hk0 hk1;rw[List.drop_eq_getElem_cons hi]at hk1;generalize hx:a[i]=x at hk1⊢;have hc:=Zag (n:=oneN) Zbh (a.drop (i+1));have hn:oneN x=1:=rfl;simp only[cntS,hn]at hk1;refine(Z1b _ _ _ _ f _).trans ?_;rw[List.drop_eq_getElem_cons hi,hx];have hm:=Zdn pre x (a.drop (i+1)) hl;have hat:=Zfa pre x (a.drop (i+1)) hl hm;have hs:∀R,((enS true (pre++x::a.drop (i+1))).set i R).getD i []=R:=λR=>Zat _ _ _ _ (by rw[Zaa];exact hm)
  simp only[List.length_set,Zaa,Zac,Nat.zero_add,Zap,Zaq,hm,hs,List.set_set,Zab _ hm,hat,decide_true,cond_true,Bool.and_self,Zae (show i<4611686018427387904 by omega),En.enc,List.append_eq,List.take_succ_cons,List.take_zero,List.drop_succ_cons,List.drop_zero,List.cons_append,List.nil_append]
  have hw1:IntKind.wrap IntKind.i64 (k+1)=k+1:=Zau (by omega) (by omega)
  simp only[hw1];have he:k+1=k+oneN x:=by omega
  rw[←Zmw k];refine(congrArg f (congrArg (S41_0 _ _) ((Za9 true _ i (byteMk x k)).trans (congrArg (enS true) (Zda pre x _ _ hl))))).trans ?_;refine(hf (pre++[byteMk x k],k+1) ⟨by simp[hl],by simp only;omega,by simp only;omega⟩).trans ?_
  show _=some ([[D.int .i64 (k+(oneN x+cntS oneN (a.drop (i+1))))]],[[D.sl true 1 (enS true (pre++(byteMk x k::markS byteMk oneN (a.drop (i+1)) (k+oneN x))))]]);rw[he,List.append_assoc,List.singleton_append,Int.add_assoc]
def T41:Table:=(41,c41)::T75
theorem Zq5:Table.Sound prog Hx T41:=sa Zr3 func41 (by kernel_rfl) (Zah λa=>Zah λk=>Zan λh=>⟨_,m41 a k h⟩)
def o123(a:List Int)(k:Int):Bool×List Row×List Row:=(decide (0≤k)&&(decide (k+cntS oneN a≤4611686018427387904)&&decide (a.length≤1152921504606846976)),[[.int .i64 (k+cntS oneN a)]],[[.sl true 1 (enS true (markS intMk oneN a k))]])
def zp30:Pa (List Int):=⟨λa=>[.sl true 1 (enS true a)],λr=>match r with|[.sl true 1 a]=>some (λt=>t&&isS Int true a,(deS Int a))|_=>none,by
 intro r f x h t ht;split at h
 ·cases h;simp only[Bool.and_eq_true]at ht;obtain⟨ht,h0⟩:=ht;obtain⟨_,rfl⟩:=Zay h0;exact⟨ht,by simp only[Zad]⟩
 ·cases h⟩
def c123:Contract:=(cp zp30 λa=>cp zp0 λk=>c0 (o123 a k)) true
def k123_0:KT:=λn↦kThen (λst↦rC 123 T41 n f123 [1,1] 16 [] 16 st (lV f123 [] [C.view 0 0 0 [] 1 none])) (lV f123 [] [C.view 0 0 0 [] 1 none])
def k123_1:KT:=λn↦kBlock (0) (k123_0 n)
def S123_0(i0:Int)(i1:Int)(es2:List (List D)):St:=St.mk (V_ [C.view 0 0 0 [] 1 none]::I_ i0::U_::U_::U_::I_ i1::u_ 13 []) [Root.mk false 1 es2 0 0 true true false [] 0 []]
def B123_0:BT:=λn↦rC 123 T41 n f123 [1,0,1,0,0] 35 [(0,2)] 16
def X123_2(i0:Int)(es2:List (List D)):St:=St.mk (U_::I_ i0::u_ 17 []) [Root.mk false 1 es2 0 0 true true false [] 0 []]
theorem Zv8(n:Nat)(i0:Int)(i1:Int)(es2:List (List D))(f:St→RR)(K:Ex→St→RR):B123_0 n (S123_0 i0 i1 es2) (kThen (λst↦f (St.head 1 35 262114 st)) K)=bif decide (i1<ofNat (length es2))then bif decide (0≤i1)&&decide (i1<ofNat (length es2))then f (S123_0 (wrap i64 (i0+1)) (wrap i64 (i1+1)) (set es2 (0+toNat i1) [D.int i64 i0]))else none else K (Ex.exit 0) (X123_2 i0 es2):=by kernel_rfl
theorem Zw4(n:Nat)(i0:Int)(es2:List (List D)):k123_1 n (Ex.exit 0) (X123_2 i0 es2)=some ([[D.int i64 i0]],[[D.sl true 1 es2]]):=by kernel_rfl
def e123(a:List Int)(k:Int)(n:Nat):=evFn ⟨prog,Hx,123⟩ T41.call n f123 [zp30.row a,zp0.row k]
theorem r123(a:List Int)(k:Int)(n:Nat):e123 a k n=loopRun (B123_0 n) 1 35 262114 n (S123_0 k (0) (enS true a)) (k123_1 n):=by kernel_rfl
theorem m123(a:List Int)(k:Int):(o123 a k).1=true→e123 a k (a.length+1)=some (o123 a k).2:=by
 refine pm λhpre=>(r123 a k _).trans ?_;simp only[Bool.and_eq_true,decide_eq_true_eq]at hpre;obtain⟨h0,h1,h2⟩:=hpre;refine Zai (xs:=a) (λi (v:List Int×Int)=>S123_0 v.2 (Int.ofNat i) (enS true (v.1++a.drop i))) (λi v=>v.1.length=i∧0≤v.2∧v.2+cntS oneN (a.drop i)≤4611686018427387904) (λ_ v rest=>some ([[D.int .i64 (v.2+cntS oneN rest)]],[[D.sl true 1 (enS true (v.1++markS intMk oneN rest v.2))]])) ?_ ?_ (a.length+1) ([],k) (by omega) ⟨rfl,h0,h1⟩
 ·rintro⟨pre,k⟩ ⟨hl,hk0,hk1⟩ f;refine(Zv8 _ _ _ _ f _).trans ?_;simp only[Zaa,List.drop_length,List.append_nil,hl,Zap,Nat.lt_irrefl,decide_false,cond_false];refine(Zw4 _ _ _).trans ?_;simp only[List.append_nil,cntS,markS,Int.add_zero]
 ·rintro i ⟨pre,k⟩ hi ⟨hl,hk0,hk1⟩ f hf;simp only at hl hk0 hk1;rw[List.drop_eq_getElem_cons hi]at hk1;generalize hx:a[i]=x at hk1⊢;have hc:=Zag (n:=oneN) Zbh (a.drop (i+1));have hn:oneN x=1:=rfl;simp only[cntS,hn]at hk1;refine(Zv8 _ _ _ _ f _).trans ?_;rw[List.drop_eq_getElem_cons hi,hx];have hm:=Zdn pre x (a.drop (i+1)) hl;have hat:=Zfa pre x (a.drop (i+1)) hl hm;have hs:∀R,((enS true (pre++x::a.drop (i+1))).set i R).getD i []=R:=λR=>Zat _ _ _ _ (by rw[Zaa];exact hm)
  simp only[List.length_set,Zaa,Zac,Nat.zero_add,Zap,Zaq,hm,hs,List.set_set,Zab _ hm,hat,decide_true,cond_true,Bool.and_self,Zae (show i<4611686018427387904 by omega),En.enc,List.append_eq,List.take_succ_cons,List.take_zero,List.drop_succ_cons,List.drop_zero,List.cons_append,List.nil_append]
  have hw1:IntKind.wrap IntKind.i64 (k+1)=k+1:=Zau (by omega) (by omega)
  simp only[hw1];have he:k+1=k+oneN x:=by omega
  skip;refine(congrArg f (congrArg (S123_0 _ _) ((Za9 true _ i (intMk x k)).trans (congrArg (enS true) (Zda pre x _ _ hl))))).trans ?_;refine(hf (pre++[intMk x k],k+1) ⟨by simp[hl],by simp only;omega,by simp only;omega⟩).trans ?_
  show _=some ([[D.int .i64 (k+(oneN x+cntS oneN (a.drop (i+1))))]],[[D.sl true 1 (enS true (pre++(intMk x k::markS intMk oneN (a.drop (i+1)) (k+oneN x))))]]);rw[he,List.append_assoc,List.singleton_append,Int.add_assoc]
def T123:Table:=(123,c123)::T41
theorem Zoo:Table.Sound prog Hx T123:=sa Zq5 func123 (by kernel_rfl) (Zah λa=>Zah λk=>Zan λh=>⟨_,m123 a k h⟩)
def o78(a:List Member)(k:Int):Bool×List Row×List Row:=(decide (0≤k)&&(decide (k+cntS Member.n_ a≤4611686018427387904)&&(decide (a.length≤1152921504606846976)&&a.all (λx=>decide (x.In.length≤1152921504606846976)))),[[.int .i64 (k+cntS Member.n_ a)]],[[.sl true 2 (enS true (markS Member.mk_ Member.n_ a k))]])
def zp31:Pa (List Member):=⟨λa=>[.sl true 2 (enS true a)],λr=>match r with|[.sl true 2 a]=>some (λt=>t&&isS Member true a,(deS Member a))|_=>none,by
 intro r f x h t ht;split at h
 ·cases h;simp only[Bool.and_eq_true]at ht;obtain⟨ht,h0⟩:=ht;obtain⟨_,rfl⟩:=Zay h0;exact⟨ht,by simp only[Zad]⟩
 ·cases h⟩
def c78:Contract:=(cp zp31 λa=>cp zp0 λk=>c0 (o78 a k)) true
def k78_0:KT:=λn↦kThen (λst↦rC 78 T123 n f78 [1,1] 16 [] 16 st (lV f78 [] [C.view 0 0 0 [] 2 none])) (lV f78 [] [C.view 0 0 0 [] 2 none])
def k78_1:KT:=λn↦kBlock (0) (k78_0 n)
def S78_0(i0:Int)(i1:Int)(es2:List (List D)):St:=St.mk (V_ [C.view 0 0 0 [] 2 none]::I_ i0::U_::U_::U_::I_ i1::u_ 21 []) [Root.mk false 2 es2 0 0 true true false [] 0 []]
def B78_0:BT:=λn↦rC 78 T123 n f78 [1,0,1,0,0] 35 [(0,2)] 16
def X78_2(i0:Int)(es2:List (List D)):St:=St.mk (U_::I_ i0::u_ 25 []) [Root.mk false 2 es2 0 0 true true false [] 0 []]
def w78_3(i0:Int)(i1:Int)(es2:List (List D)):List (List D):=set es2 (0+toNat i1) (D.int i64 i0::drop 1 (getD es2 (0+toNat i1) []))
def w78_4(i0:Int)(i1:Int)(es2:List (List D)):List (List D):=set (w78_3 i0 i1 es2) (0+toNat i1) (set (getD (w78_3 i0 i1 es2) (0+toNat i1) []) 1 D.dead)
def y78_0(es2:List (List D))(i0:Int)(i1:Int):=getD (getD (w78_3 i0 i1 es2) (0+toNat i1) []) 1 D.dead
theorem Z11(n:Nat)(i0:Int)(i1:Int)(es2:List (List D))(f:St→RR)(K:Ex→St→RR):B78_0 n (S78_0 i0 i1 es2) (kThen (λst↦f (St.head 1 35 67108834 st)) K)=bif decide (i1<ofNat (length es2))then bif decide (0≤i1)&&decide (i1<ofNat (length es2))then bif decide (0≤i1)&&decide (i1<ofNat (length (w78_3 i0 i1 es2)))then bif Leaf.fit true (Leaf.sl 1 true) (y78_0 es2 i0 i1)&&true then bif D.isOwn (y78_0 es2 i0 i1)&&true&&true&&true then bif isS Int true (D.rows (y78_0 es2 i0 i1))&&(decide (0≤wrap i64 (i0+1))&&(decide (wrap i64 (i0+1)+cntS oneN (deS Int (D.rows (y78_0 es2 i0 i1)))≤4611686018427387904)&&decide (length (deS Int (D.rows (y78_0 es2 i0 i1)))≤1152921504606846976)))then bif D.isOwn (y78_0 es2 i0 i1)&&true&&true&&true then f (S78_0 (wrap i64 (i0+1)+cntS oneN (deS Int (D.rows (y78_0 es2 i0 i1)))) (wrap i64 (i1+1)) (set (w78_4 i0 i1 es2) (0+toNat i1) (set (getD (w78_4 i0 i1 es2) (0+toNat i1) []) 1 (D.sl true 1 (enS true (markS intMk oneN (deS Int (D.rows (y78_0 es2 i0 i1))) (wrap i64 (i0+1))))))))else none else none else none else none else none else none else K (Ex.exit 0) (X78_2 i0 es2):=by kernel_rfl
theorem Zzw(n:Nat)(i0:Int)(es2:List (List D)):k78_1 n (Ex.exit 0) (X78_2 i0 es2)=some ([[D.int i64 i0]],[[D.sl true 2 es2]]):=by kernel_rfl
def e78(a:List Member)(k:Int)(n:Nat):=evFn ⟨prog,Hx,78⟩ T123.call n f78 [zp31.row a,zp0.row k]
theorem r78(a:List Member)(k:Int)(n:Nat):e78 a k n=loopRun (B78_0 n) 1 35 67108834 n (S78_0 k (0) (enS true a)) (k78_1 n):=by kernel_rfl
theorem m78(a:List Member)(k:Int):(o78 a k).1=true→e78 a k (a.length+1)=some (o78 a k).2:=by
 refine pm λhpre=>(r78 a k _).trans ?_;simp only[Bool.and_eq_true]at hpre;obtain⟨h0,h1,h2,h3⟩:=hpre;have h0:=of_decide_eq_true h0;have h1:=of_decide_eq_true h1;have h2:=of_decide_eq_true h2;refine Zai (xs:=a) (λi (v:List Member×Int)=>S78_0 v.2 (Int.ofNat i) (enS true (v.1++a.drop i))) (λi v=>v.1.length=i∧0≤v.2∧v.2+cntS Member.n_ (a.drop i)≤4611686018427387904) (λ_ v rest=>some ([[D.int .i64 (v.2+cntS Member.n_ rest)]],[[D.sl true 2 (enS true (v.1++markS Member.mk_ Member.n_ rest v.2))]])) ?_ ?_ (a.length+1) ([],k) (by omega) ⟨rfl,h0,h1⟩
 ·rintro⟨pre,k⟩ ⟨hl,hk0,hk1⟩ f;refine(Z11 _ _ _ _ f _).trans ?_;delta y78_0;simp only[Zaa,List.drop_length,List.append_nil,hl,Zap,Nat.lt_irrefl,decide_false,cond_false];refine(Zzw _ _ _).trans ?_;simp only[List.append_nil,cntS,markS,Int.add_zero]
 ·rintro i ⟨pre,k⟩ hi ⟨hl,hk0,hk1⟩ f hf;simp only at hl hk0 hk1;rw[List.drop_eq_getElem_cons hi]at hk1;have hel:=List.all_eq_true.1 h3 _ (List.getElem_mem hi);generalize hx:a[i]=x at hk1 hel⊢;have hc:=Zag (n:=Member.n_) Member.n_pos (a.drop (i+1));try simp only[Bool.and_eq_true]at hel
  simp only[cntS,Member.n_]at hk1;have p1:0≤cntS oneN x.In:=Zag Zbh x.In;have w0:IntKind.wrap IntKind.i64 (k+1)=k+1:=Zau (by omega) (by omega)
  have g1:decide (0≤k+1)=true:=decide_eq_true (by omega)
  have f1:decide (k+1+cntS oneN x.In≤4611686018427387904)=true:=decide_eq_true (by omega)
  refine(Z11 _ _ _ _ f _).trans ?_;delta y78_0;rw[List.drop_eq_getElem_cons hi,hx];have hm:=Zdn pre x (a.drop (i+1)) hl;have hat:=Zfa pre x (a.drop (i+1)) hl hm;have hs:∀R,((enS true (pre++x::a.drop (i+1))).set i R).getD i []=R:=λR=>Zat _ _ _ _ (by rw[Zaa];exact hm)
  simp only[w78_3,w78_4,List.length_set,Zaa,Zac,Nat.zero_add,Zap,Zaq,hm,hs,List.set_set,Zab _ hm,hat,decide_true,cond_true,Bool.and_self,Bool.and_true,Bool.true_and,Zae (show i<4611686018427387904 by omega),En.enc,List.append_eq,List.take_succ_cons,List.take_zero,List.drop_succ_cons,List.drop_zero,List.cons_append,List.nil_append,List.getD_cons_zero,List.getD_cons_succ,D.num,D.flag,D.text,D.rows,D.isOwn,pathOk,Leaf.fit,beq_self_eq_true,Zak,Zad,Zal,List.set_cons_zero,List.set_cons_succ,hel,w0,g1,f1]
  have he:k+1+cntS oneN x.In=k+Member.n_ x:=by simp only[Member.n_];omega
  refine(congrArg f (congrArg (S78_0 _ _) ((Za9 true _ i (Member.mk_ x k)).trans (congrArg (enS true) (Zda pre x _ _ hl))))).trans ?_;refine(hf (pre++[Member.mk_ x k],k+1+cntS oneN x.In) ⟨by simp[hl],by simp only;omega,by simp only;omega⟩).trans ?_
  show _=some ([[D.int .i64 (k+(Member.n_ x+cntS Member.n_ (a.drop (i+1))))]],[[D.sl true 2 (enS true (pre++(Member.mk_ x k::markS Member.mk_ Member.n_ (a.drop (i+1)) (k+Member.n_ x))))]]);rw[he,List.append_assoc,List.singleton_append,Int.add_assoc]
def T78:Table:=(78,c78)::T123
theorem Zr6:Table.Sound prog Hx T78:=sa Zoo func78 (by kernel_rfl) (Zah λa=>Zah λk=>Zan λh=>⟨_,m78 a k h⟩)
def o79(a:List Heard)(k:Int):Bool×List Row×List Row:=(decide (0≤k)&&(decide (k+cntS Heard.n_ a≤4611686018427387904)&&decide (a.length≤1152921504606846976)),[[.int .i64 (k+cntS Heard.n_ a)]],[[.sl true 4 (enS true (markS Heard.mk_ Heard.n_ a k))]])
def zp32:Pa (List Heard):=⟨λa=>[.sl true 4 (enS true a)],λr=>match r with|[.sl true 4 a]=>some (λt=>t&&isS Heard true a,(deS Heard a))|_=>none,by
 intro r f x h t ht;split at h
 ·cases h;simp only[Bool.and_eq_true]at ht;obtain⟨ht,h0⟩:=ht;obtain⟨_,rfl⟩:=Zay h0;exact⟨ht,by simp only[Zad]⟩
 ·cases h⟩
def c79:Contract:=(cp zp32 λa=>cp zp0 λk=>c0 (o79 a k)) true
def k79_0:KT:=λn↦kThen (λst↦rC 79 T78 n f79 [1,1] 16 [] 16 st (lV f79 [] [C.view 0 0 0 [] 4 none])) (lV f79 [] [C.view 0 0 0 [] 4 none])
def k79_1:KT:=λn↦kBlock (0) (k79_0 n)
def S79_0(i0:Int)(i1:Int)(es2:List (List D)):St:=St.mk (V_ [C.view 0 0 0 [] 4 none]::I_ i0::U_::U_::U_::I_ i1::u_ 35 []) [Root.mk false 4 es2 0 0 true true false [] 0 []]
def B79_0:BT:=λn↦rC 79 T78 n f79 [1,0,1,0,0] 35 [(0,2)] 16
def X79_2(i0:Int)(es2:List (List D)):St:=St.mk (U_::I_ i0::u_ 39 []) [Root.mk false 4 es2 0 0 true true false [] 0 []]
def w79_3(i0:Int)(i1:Int)(es2:List (List D)):List (List D):=set es2 (0+toNat i1) (D.int i64 i0::drop 1 (getD es2 (0+toNat i1) []))
def w79_4(i0:Int)(i1:Int)(es2:List (List D)):List (List D):=set (w79_3 i0 i1 es2) (0+toNat i1) (append (append (take 1 (getD (w79_3 i0 i1 es2) (0+toNat i1) [])) [D.int i64 (wrap i64 (i0+1))]) (drop 2 (getD (w79_3 i0 i1 es2) (0+toNat i1) [])))
def w79_5(i0:Int)(i1:Int)(es2:List (List D)):List (List D):=set (w79_4 i0 i1 es2) (0+toNat i1) (append (append (take 2 (getD (w79_4 i0 i1 es2) (0+toNat i1) [])) [D.int i64 (wrap i64 (wrap i64 (i0+1)+1))]) (drop 3 (getD (w79_4 i0 i1 es2) (0+toNat i1) [])))
theorem Z12(n:Nat)(i0:Int)(i1:Int)(es2:List (List D))(f:St→RR)(K:Ex→St→RR):B79_0 n (S79_0 i0 i1 es2) (kThen (λst↦f (St.head 1 35 1099511627746 st)) K)=bif decide (i1<ofNat (length es2))then bif decide (0≤i1)&&decide (i1<ofNat (length es2))then bif decide (0≤i1)&&decide (i1<ofNat (length (w79_3 i0 i1 es2)))then bif decide (0≤i1)&&decide (i1<ofNat (length (w79_4 i0 i1 es2)))then bif decide (0≤i1)&&decide (i1<ofNat (length (w79_5 i0 i1 es2)))then f (S79_0 (wrap i64 (wrap i64 (wrap i64 (wrap i64 (i0+1)+1)+1)+1)) (wrap i64 (i1+1)) (set (w79_5 i0 i1 es2) (0+toNat i1) (append (append (take 3 (getD (w79_5 i0 i1 es2) (0+toNat i1) [])) [D.int i64 (wrap i64 (wrap i64 (wrap i64 (i0+1)+1)+1))]) (drop 4 (getD (w79_5 i0 i1 es2) (0+toNat i1) [])))))else none else none else none else none else K (Ex.exit 0) (X79_2 i0 es2):=by kernel_rfl
theorem Zzx(n:Nat)(i0:Int)(es2:List (List D)):k79_1 n (Ex.exit 0) (X79_2 i0 es2)=some ([[D.int i64 i0]],[[D.sl true 4 es2]]):=by kernel_rfl
def e79(a:List Heard)(k:Int)(n:Nat):=evFn ⟨prog,Hx,79⟩ T78.call n f79 [zp32.row a,zp0.row k]
theorem r79(a:List Heard)(k:Int)(n:Nat):e79 a k n=loopRun (B79_0 n) 1 35 1099511627746 n (S79_0 k (0) (enS true a)) (k79_1 n):=by kernel_rfl
theorem m79(a:List Heard)(k:Int):(o79 a k).1=true→e79 a k (a.length+1)=some (o79 a k).2:=by
 refine pm λhpre=>(r79 a k _).trans ?_;simp only[Bool.and_eq_true,decide_eq_true_eq]at hpre;obtain⟨h0,h1,h2⟩:=hpre;refine Zai (xs:=a) (λi (v:List Heard×Int)=>S79_0 v.2 (Int.ofNat i) (enS true (v.1++a.drop i))) (λi v=>v.1.length=i∧0≤v.2∧v.2+cntS Heard.n_ (a.drop i)≤4611686018427387904) (λ_ v rest=>some ([[D.int .i64 (v.2+cntS Heard.n_ rest)]],[[D.sl true 4 (enS true (v.1++markS Heard.mk_ Heard.n_ rest v.2))]])) ?_ ?_ (a.length+1) ([],k) (by omega) ⟨rfl,h0,h1⟩
 ·rintro⟨pre,k⟩ ⟨hl,hk0,hk1⟩ f;refine(Z12 _ _ _ _ f _).trans ?_;simp only[Zaa,List.drop_length,List.append_nil,hl,Zap,Nat.lt_irrefl,decide_false,cond_false];refine(Zzx _ _ _).trans ?_;simp only[List.append_nil,cntS,markS,Int.add_zero]
 ·rintro i ⟨pre,k⟩ hi ⟨hl,hk0,hk1⟩ f hf;simp only at hl hk0 hk1;rw[List.drop_eq_getElem_cons hi]at hk1;generalize hx:a[i]=x at hk1⊢;have hc:=Zag (n:=Heard.n_) Heard.n_pos (a.drop (i+1));have hn:Heard.n_ x=4:=rfl;simp only[cntS,hn]at hk1;refine(Z12 _ _ _ _ f _).trans ?_;rw[List.drop_eq_getElem_cons hi,hx];have hm:=Zdn pre x (a.drop (i+1)) hl;have hat:=Zfa pre x (a.drop (i+1)) hl hm;have hs:∀R,((enS true (pre++x::a.drop (i+1))).set i R).getD i []=R:=λR=>Zat _ _ _ _ (by rw[Zaa];exact hm)
  simp only[w79_3,w79_4,w79_5,List.length_set,Zaa,Zac,Nat.zero_add,Zap,Zaq,hm,hs,List.set_set,Zab _ hm,hat,decide_true,cond_true,Bool.and_self,Zae (show i<4611686018427387904 by omega),En.enc,List.append_eq,List.take_succ_cons,List.take_zero,List.drop_succ_cons,List.drop_zero,List.cons_append,List.nil_append]
  have hw1:IntKind.wrap IntKind.i64 (k+1)=k+1:=Zau (by omega) (by omega)
  have hw2:IntKind.wrap IntKind.i64 (k+1+1)=k+1+1:=Zau (by omega) (by omega)
  have hw3:IntKind.wrap IntKind.i64 (k+1+1+1)=k+1+1+1:=Zau (by omega) (by omega)
  have hw4:IntKind.wrap IntKind.i64 (k+1+1+1+1)=k+1+1+1+1:=Zau (by omega) (by omega)
  simp only[hw1,hw2,hw3,hw4];have he:k+1+1+1+1=k+Heard.n_ x:=by omega
  skip;refine(congrArg f (congrArg (S79_0 _ _) ((Za9 true _ i (Heard.mk_ x k)).trans (congrArg (enS true) (Zda pre x _ _ hl))))).trans ?_;refine(hf (pre++[Heard.mk_ x k],k+1+1+1+1) ⟨by simp[hl],by simp only;omega,by simp only;omega⟩).trans ?_
  show _=some ([[D.int .i64 (k+(Heard.n_ x+cntS Heard.n_ (a.drop (i+1))))]],[[D.sl true 4 (enS true (pre++(Heard.mk_ x k::markS Heard.mk_ Heard.n_ (a.drop (i+1)) (k+Heard.n_ x))))]]);rw[he,List.append_assoc,List.singleton_append,Int.add_assoc]
def T79:Table:=(79,c79)::T78
theorem Zr7:Table.Sound prog Hx T79:=sa Zr6 func79 (by kernel_rfl) (Zah λa=>Zah λk=>Zan λh=>⟨_,m79 a k h⟩)
def o40(a:List Card)(k:Int):Bool×List Row×List Row:=(decide (0≤k)&&(decide (k+cntS Card.n_ a≤4611686018427387904)&&(decide (a.length≤1152921504606846976)&&a.all (λx=>(decide (x.Open.length≤1152921504606846976)&&(decide (x.Members.length≤1152921504606846976)&&x.Members.all (λx=>decide (x.In.length≤1152921504606846976)))&&decide (x.Table.length≤1152921504606846976))))),[[.int .i64 (k+cntS Card.n_ a)]],[[.sl true 3 (enS true (markS Card.mk_ Card.n_ a k))]])
def zp33:Pa (List Card):=⟨λa=>[.sl true 3 (enS true a)],λr=>match r with|[.sl true 3 a]=>some (λt=>t&&isS Card true a,(deS Card a))|_=>none,by
 intro r f x h t ht;split at h
 ·cases h;simp only[Bool.and_eq_true]at ht;obtain⟨ht,h0⟩:=ht;obtain⟨_,rfl⟩:=Zay h0;exact⟨ht,by simp only[Zad]⟩
 ·cases h⟩
def c40:Contract:=(cp zp33 λa=>cp zp0 λk=>c0 (o40 a k)) true
def k40_0:KT:=λn↦kThen (λst↦rC 40 T79 n f40 [1,1] 16 [] 16 st (lV f40 [] [C.view 0 0 0 [] 3 none])) (lV f40 [] [C.view 0 0 0 [] 3 none])
def k40_1:KT:=λn↦kBlock (0) (k40_0 n)
def S40_0(i0:Int)(i1:Int)(es2:List (List D)):St:=St.mk (V_ [C.view 0 0 0 [] 3 none]::I_ i0::U_::U_::U_::I_ i1::u_ 28 []) [Root.mk false 3 es2 0 0 true true false [] 0 []]
def B40_0:BT:=λn↦rC 40 T79 n f40 [1,0,1,0,0] 35 [(0,2)] 16
def X40_2(i0:Int)(es2:List (List D)):St:=St.mk (U_::I_ i0::u_ 32 []) [Root.mk false 3 es2 0 0 true true false [] 0 []]
def w40_3(i1:Int)(es2:List (List D)):List (List D):=set es2 (0+toNat i1) (set (getD es2 (0+toNat i1) []) 0 D.dead)
def w40_4(i0:Int)(i1:Int)(es2:List (List D)):List (List D):=set (w40_3 i1 es2) (0+toNat i1) (set (getD (w40_3 i1 es2) (0+toNat i1) []) 0 (D.sl true 1 (enS true (markS boolMk oneN (deS Bool (D.rows (getD (getD es2 (0+toNat i1) []) 0 D.dead))) i0))))
def w40_5(i0:Int)(i1:Int)(es2:List (List D)):List (List D):=set (w40_4 i0 i1 es2) (0+toNat i1) (set (getD (w40_4 i0 i1 es2) (0+toNat i1) []) 1 D.dead)
def w40_6(i0:Int)(i1:Int)(es2:List (List D)):List (List D):=set (w40_5 i0 i1 es2) (0+toNat i1) (set (getD (w40_5 i0 i1 es2) (0+toNat i1) []) 1 (D.sl true 2 (enS true (markS Member.mk_ Member.n_ (deS Member (D.rows (getD (getD (w40_4 i0 i1 es2) (0+toNat i1) []) 1 D.dead))) (i0+cntS oneN (deS Bool (D.rows (getD (getD es2 (0+toNat i1) []) 0 D.dead))))))))
def w40_7(i0:Int)(i1:Int)(es2:List (List D)):List (List D):=set (w40_6 i0 i1 es2) (0+toNat i1) (set (getD (w40_6 i0 i1 es2) (0+toNat i1) []) 2 D.dead)
def y40_0(es2:List (List D))(i0:Int)(i1:Int):=getD (getD (w40_4 i0 i1 es2) (0+toNat i1) []) 1 D.dead
def y40_1(es2:List (List D))(i1:Int):=deS Bool (D.rows (getD (getD es2 (0+toNat i1) []) 0 D.dead))
def y40_2(es2:List (List D))(i0:Int)(i1:Int):=getD (getD (w40_6 i0 i1 es2) (0+toNat i1) []) 2 D.dead
theorem Z1a(n:Nat)(i0:Int)(i1:Int)(es2:List (List D))(f:St→RR)(K:Ex→St→RR):B40_0 n (S40_0 i0 i1 es2) (kThen (λst↦f (St.head 1 35 8589934562 st)) K)=bif decide (i1<ofNat (length es2))then bif decide (0≤i1)&&decide (i1<ofNat (length es2))then bif Leaf.fit true (Leaf.sl 1 true) (getD (getD es2 (0+toNat i1) []) 0 D.dead)&&true then bif D.isOwn (getD (getD es2 (0+toNat i1) []) 0 D.dead)&&true&&true&&true then bif isS Bool true (D.rows (getD (getD es2 (0+toNat i1) []) 0 D.dead))&&(decide (0≤i0)&&(decide (i0+cntS oneN (y40_1 es2 i1)≤4611686018427387904)&&decide (length (y40_1 es2 i1)≤1152921504606846976)))then bif D.isOwn (getD (getD es2 (0+toNat i1) []) 0 D.dead)&&true&&true&&true then bif decide (0≤i1)&&decide (i1<ofNat (length (w40_4 i0 i1 es2)))then bif Leaf.fit true (Leaf.sl 2 true) (y40_0 es2 i0 i1)&&true then bif D.isOwn (y40_0 es2 i0 i1)&&true&&true&&true then bif isS Member true (D.rows (y40_0 es2 i0 i1))&&(decide (0≤i0+cntS oneN (y40_1 es2 i1))&&(decide (i0+cntS oneN (y40_1 es2 i1)+cntS Member.n_ (deS Member (D.rows (y40_0 es2 i0 i1)))≤4611686018427387904)&&(decide (length (deS Member (D.rows (y40_0 es2 i0 i1)))≤1152921504606846976)&&all (deS Member (D.rows (y40_0 es2 i0 i1))) λx↦decide (length (Member.In x)≤1152921504606846976))))then bif D.isOwn (y40_0 es2 i0 i1)&&true&&true&&true then bif decide (0≤i1)&&decide (i1<ofNat (length (w40_6 i0 i1 es2)))then bif Leaf.fit true (Leaf.sl 4 true) (y40_2 es2 i0 i1)&&true then bif D.isOwn (y40_2 es2 i0 i1)&&true&&true&&true then bif isS Heard true (D.rows (y40_2 es2 i0 i1))&&(decide (0≤i0+cntS oneN (y40_1 es2 i1)+cntS Member.n_ (deS Member (D.rows (y40_0 es2 i0 i1))))&&(decide (i0+cntS oneN (y40_1 es2 i1)+cntS Member.n_ (deS Member (D.rows (y40_0 es2 i0 i1)))+cntS Heard.n_ (deS Heard (D.rows (y40_2 es2 i0 i1)))≤4611686018427387904)&&decide (length (deS Heard (D.rows (y40_2 es2 i0 i1)))≤1152921504606846976)))then bif D.isOwn (y40_2 es2 i0 i1)&&true&&true&&true then f (S40_0 (i0+cntS oneN (y40_1 es2 i1)+cntS Member.n_ (deS Member (D.rows (y40_0 es2 i0 i1)))+cntS Heard.n_ (deS Heard (D.rows (y40_2 es2 i0 i1)))) (wrap i64 (i1+1)) (set (w40_7 i0 i1 es2) (0+toNat i1) (set (getD (w40_7 i0 i1 es2) (0+toNat i1) []) 2 (D.sl true 4 (enS true (markS Heard.mk_ Heard.n_ (deS Heard (D.rows (y40_2 es2 i0 i1))) (i0+cntS oneN (y40_1 es2 i1)+cntS Member.n_ (deS Member (D.rows (y40_0 es2 i0 i1))))))))))else none else none else none else none else none else none else none else none else none else none else none else none else none else none else none else K (Ex.exit 0) (X40_2 i0 es2):=by kernel_rfl
theorem Zyw(n:Nat)(i0:Int)(es2:List (List D)):k40_1 n (Ex.exit 0) (X40_2 i0 es2)=some ([[D.int i64 i0]],[[D.sl true 3 es2]]):=by kernel_rfl
def e40(a:List Card)(k:Int)(n:Nat):=evFn ⟨prog,Hx,40⟩ T79.call n f40 [zp33.row a,zp0.row k]
theorem r40(a:List Card)(k:Int)(n:Nat):e40 a k n=loopRun (B40_0 n) 1 35 8589934562 n (S40_0 k (0) (enS true a)) (k40_1 n):=by kernel_rfl
theorem m40(a:List Card)(k:Int):(o40 a k).1=true→e40 a k (a.length+1)=some (o40 a k).2:=by
 refine pm λhpre=>(r40 a k _).trans ?_;simp only[Bool.and_eq_true]at hpre;obtain⟨h0,h1,h2,h3⟩:=hpre;have h0:=of_decide_eq_true h0;have h1:=of_decide_eq_true h1;have h2:=of_decide_eq_true h2;refine Zai (xs:=a) (λi (v:List Card×Int)=>S40_0 v.2 (Int.ofNat i) (enS true (v.1++a.drop i))) (λi v=>v.1.length=i∧0≤v.2∧v.2+cntS Card.n_ (a.drop i)≤4611686018427387904) (λ_ v rest=>some ([[D.int .i64 (v.2+cntS Card.n_ rest)]],[[D.sl true 3 (enS true (v.1++markS Card.mk_ Card.n_ rest v.2))]])) ?_ ?_ (a.length+1) ([],k) (by omega) ⟨rfl,h0,h1⟩
 ·rintro⟨pre,k⟩ ⟨hl,hk0,hk1⟩ f;refine(Z1a _ _ _ _ f _).trans ?_;delta y40_0 y40_1 y40_2;simp only[Zaa,List.drop_length,List.append_nil,hl,Zap,Nat.lt_irrefl,decide_false,cond_false];refine(Zyw _ _ _).trans ?_;simp only[List.append_nil,cntS,markS,Int.add_zero]
 ·rintro i ⟨pre,k⟩ hi ⟨hl,hk0,hk1⟩ f hf;simp only at hl hk0 hk1;rw[List.drop_eq_getElem_cons hi]at hk1;have hel:=List.all_eq_true.1 h3 _ (List.getElem_mem hi);generalize hx:a[i]=x at hk1 hel⊢;have hc:=Zag (n:=Card.n_) Card.n_pos (a.drop (i+1));try simp only[Bool.and_eq_true]at hel
  simp only[cntS,Card.n_]at hk1;have p0:0≤cntS oneN x.Open:=Zag Zbh x.Open;have p1:0≤cntS Member.n_ x.Members:=Zag Member.n_pos x.Members;have p2:0≤cntS Heard.n_ x.Table:=Zag Heard.n_pos x.Table;have g0:decide (0≤k)=true:=decide_eq_true (by omega)
  have f0:decide (k+cntS oneN x.Open≤4611686018427387904)=true:=decide_eq_true (by omega)
  have g1:decide (0≤k+cntS oneN x.Open)=true:=decide_eq_true (by omega)
  have f1:decide (k+cntS oneN x.Open+cntS Member.n_ x.Members≤4611686018427387904)=true:=decide_eq_true (by omega)
  have g2:decide (0≤k+cntS oneN x.Open+cntS Member.n_ x.Members)=true:=decide_eq_true (by omega)
  have f2:decide (k+cntS oneN x.Open+cntS Member.n_ x.Members+cntS Heard.n_ x.Table≤4611686018427387904)=true:=decide_eq_true (by omega)
  refine(Z1a _ _ _ _ f _).trans ?_;delta y40_0 y40_1 y40_2;rw[List.drop_eq_getElem_cons hi,hx];have hm:=Zdn pre x (a.drop (i+1)) hl;have hat:=Zfa pre x (a.drop (i+1)) hl hm;have hs:∀R,((enS true (pre++x::a.drop (i+1))).set i R).getD i []=R:=λR=>Zat _ _ _ _ (by rw[Zaa];exact hm)
  simp only[w40_3,w40_4,w40_5,w40_6,w40_7,List.length_set,Zaa,Zac,Nat.zero_add,Zap,Zaq,hm,hs,List.set_set,Zab _ hm,hat,decide_true,cond_true,Bool.and_self,Bool.and_true,Bool.true_and,Zae (show i<4611686018427387904 by omega),En.enc,List.append_eq,List.take_succ_cons,List.take_zero,List.drop_succ_cons,List.drop_zero,List.cons_append,List.nil_append,List.getD_cons_zero,List.getD_cons_succ,D.num,D.flag,D.text,D.rows,D.isOwn,pathOk,Leaf.fit,beq_self_eq_true,Zak,Zad,Zal,List.set_cons_zero,List.set_cons_succ,hel,g0,f0,g1,f1,g2,f2]
  have he:k+cntS oneN x.Open+cntS Member.n_ x.Members+cntS Heard.n_ x.Table=k+Card.n_ x:=by simp only[Card.n_];omega
  refine(congrArg f (congrArg (S40_0 _ _) ((Za9 true _ i (Card.mk_ x k)).trans (congrArg (enS true) (Zda pre x _ _ hl))))).trans ?_;refine(hf (pre++[Card.mk_ x k],k+cntS oneN x.Open+cntS Member.n_ x.Members+cntS Heard.n_ x.Table) ⟨by simp[hl],by simp only;omega,by simp only;omega⟩).trans ?_
  show _=some ([[D.int .i64 (k+(Card.n_ x+cntS Card.n_ (a.drop (i+1))))]],[[D.sl true 3 (enS true (pre++(Card.mk_ x k::markS Card.mk_ Card.n_ (a.drop (i+1)) (k+Card.n_ x))))]]);rw[he,List.append_assoc,List.singleton_append,Int.add_assoc]
def T40:Table:=(40,c40)::T79
theorem Zq4:Table.Sound prog Hx T40:=sa Zr7 func40 (by kernel_rfl) (Zah λa=>Zah λk=>Zan λh=>⟨_,m40 a k h⟩)
def o76(a:List Link)(k:Int):Bool×List Row×List Row:=(decide (0≤k)&&(decide (k+cntS Link.n_ a≤4611686018427387904)&&decide (a.length≤1152921504606846976)),[[.int .i64 (k+cntS Link.n_ a)]],[[.sl true 4 (enS true (markS Link.mk_ Link.n_ a k))]])
def zp34:Pa (List Link):=⟨λa=>[.sl true 4 (enS true a)],λr=>match r with|[.sl true 4 a]=>some (λt=>t&&isS Link true a,(deS Link a))|_=>none,by
 intro r f x h t ht;split at h
 ·cases h;simp only[Bool.and_eq_true]at ht;obtain⟨ht,h0⟩:=ht;obtain⟨_,rfl⟩:=Zay h0;exact⟨ht,by simp only[Zad]⟩
 ·cases h⟩
def c76:Contract:=(cp zp34 λa=>cp zp0 λk=>c0 (o76 a k)) true
def k76_0:KT:=λn↦kThen (λst↦rC 76 T40 n f76 [1,1] 16 [] 16 st (lV f76 [] [C.view 0 0 0 [] 4 none])) (lV f76 [] [C.view 0 0 0 [] 4 none])
def k76_1:KT:=λn↦kBlock (0) (k76_0 n)
def S76_0(i0:Int)(i1:Int)(es2:List (List D)):St:=St.mk (V_ [C.view 0 0 0 [] 4 none]::I_ i0::U_::U_::U_::I_ i1::u_ 35 []) [Root.mk false 4 es2 0 0 true true false [] 0 []]
def B76_0:BT:=λn↦rC 76 T40 n f76 [1,0,1,0,0] 35 [(0,2)] 16
def X76_2(i0:Int)(es2:List (List D)):St:=St.mk (U_::I_ i0::u_ 39 []) [Root.mk false 4 es2 0 0 true true false [] 0 []]
def w76_3(i0:Int)(i1:Int)(es2:List (List D)):List (List D):=set es2 (0+toNat i1) (D.int i64 i0::drop 1 (getD es2 (0+toNat i1) []))
def w76_4(i0:Int)(i1:Int)(es2:List (List D)):List (List D):=set (w76_3 i0 i1 es2) (0+toNat i1) (append (append (take 1 (getD (w76_3 i0 i1 es2) (0+toNat i1) [])) [D.int i64 (wrap i64 (i0+1))]) (drop 2 (getD (w76_3 i0 i1 es2) (0+toNat i1) [])))
def w76_5(i0:Int)(i1:Int)(es2:List (List D)):List (List D):=set (w76_4 i0 i1 es2) (0+toNat i1) (append (append (take 2 (getD (w76_4 i0 i1 es2) (0+toNat i1) [])) [D.int i64 (wrap i64 (wrap i64 (i0+1)+1))]) (drop 3 (getD (w76_4 i0 i1 es2) (0+toNat i1) [])))
theorem Z1z(n:Nat)(i0:Int)(i1:Int)(es2:List (List D))(f:St→RR)(K:Ex→St→RR):B76_0 n (S76_0 i0 i1 es2) (kThen (λst↦f (St.head 1 35 1099511627746 st)) K)=bif decide (i1<ofNat (length es2))then bif decide (0≤i1)&&decide (i1<ofNat (length es2))then bif decide (0≤i1)&&decide (i1<ofNat (length (w76_3 i0 i1 es2)))then bif decide (0≤i1)&&decide (i1<ofNat (length (w76_4 i0 i1 es2)))then bif decide (0≤i1)&&decide (i1<ofNat (length (w76_5 i0 i1 es2)))then f (S76_0 (wrap i64 (wrap i64 (wrap i64 (wrap i64 (i0+1)+1)+1)+1)) (wrap i64 (i1+1)) (set (w76_5 i0 i1 es2) (0+toNat i1) (append (append (take 3 (getD (w76_5 i0 i1 es2) (0+toNat i1) [])) [D.int i64 (wrap i64 (wrap i64 (wrap i64 (i0+1)+1)+1))]) (drop 4 (getD (w76_5 i0 i1 es2) (0+toNat i1) [])))))else none else none else none else none else K (Ex.exit 0) (X76_2 i0 es2):=by kernel_rfl
theorem Zzu(n:Nat)(i0:Int)(es2:List (List D)):k76_1 n (Ex.exit 0) (X76_2 i0 es2)=some ([[D.int i64 i0]],[[D.sl true 4 es2]]):=by kernel_rfl
def e76(a:List Link)(k:Int)(n:Nat):=evFn ⟨prog,Hx,76⟩ T40.call n f76 [zp34.row a,zp0.row k]
theorem r76(a:List Link)(k:Int)(n:Nat):e76 a k n=loopRun (B76_0 n) 1 35 1099511627746 n (S76_0 k (0) (enS true a)) (k76_1 n):=by kernel_rfl
theorem m76(a:List Link)(k:Int):(o76 a k).1=true→e76 a k (a.length+1)=some (o76 a k).2:=by
 refine pm λhpre=>(r76 a k _).trans ?_;simp only[Bool.and_eq_true,decide_eq_true_eq]at hpre;obtain⟨h0,h1,h2⟩:=hpre;refine Zai (xs:=a) (λi (v:List Link×Int)=>S76_0 v.2 (Int.ofNat i) (enS true (v.1++a.drop i))) (λi v=>v.1.length=i∧0≤v.2∧v.2+cntS Link.n_ (a.drop i)≤4611686018427387904) (λ_ v rest=>some ([[D.int .i64 (v.2+cntS Link.n_ rest)]],[[D.sl true 4 (enS true (v.1++markS Link.mk_ Link.n_ rest v.2))]])) ?_ ?_ (a.length+1) ([],k) (by omega) ⟨rfl,h0,h1⟩
 ·rintro⟨pre,k⟩ ⟨hl,hk0,hk1⟩ f;refine(Z1z _ _ _ _ f _).trans ?_;simp only[Zaa,List.drop_length,List.append_nil,hl,Zap,Nat.lt_irrefl,decide_false,cond_false];refine(Zzu _ _ _).trans ?_;simp only[List.append_nil,cntS,markS,Int.add_zero]
 ·rintro i ⟨pre,k⟩ hi ⟨hl,hk0,hk1⟩ f hf;simp only at hl hk0 hk1;rw[List.drop_eq_getElem_cons hi]at hk1;generalize hx:a[i]=x at hk1⊢;have hc:=Zag (n:=Link.n_) Link.n_pos (a.drop (i+1));have hn:Link.n_ x=4:=rfl;simp only[cntS,hn]at hk1;refine(Z1z _ _ _ _ f _).trans ?_;rw[List.drop_eq_getElem_cons hi,hx];have hm:=Zdn pre x (a.drop (i+1)) hl;have hat:=Zfa pre x (a.drop (i+1)) hl hm;have hs:∀R,((enS true (pre++x::a.drop (i+1))).set i R).getD i []=R:=λR=>Zat _ _ _ _ (by rw[Zaa];exact hm)
  simp only[w76_3,w76_4,w76_5,List.length_set,Zaa,Zac,Nat.zero_add,Zap,Zaq,hm,hs,List.set_set,Zab _ hm,hat,decide_true,cond_true,Bool.and_self,Zae (show i<4611686018427387904 by omega),En.enc,List.append_eq,List.take_succ_cons,List.take_zero,List.drop_succ_cons,List.drop_zero,List.cons_append,List.nil_append]
  have hw1:IntKind.wrap IntKind.i64 (k+1)=k+1:=Zau (by omega) (by omega)
  have hw2:IntKind.wrap IntKind.i64 (k+1+1)=k+1+1:=Zau (by omega) (by omega)
  have hw3:IntKind.wrap IntKind.i64 (k+1+1+1)=k+1+1+1:=Zau (by omega) (by omega)
  have hw4:IntKind.wrap IntKind.i64 (k+1+1+1+1)=k+1+1+1+1:=Zau (by omega) (by omega)
  simp only[hw1,hw2,hw3,hw4];have he:k+1+1+1+1=k+Link.n_ x:=by omega
  skip;refine(congrArg f (congrArg (S76_0 _ _) ((Za9 true _ i (Link.mk_ x k)).trans (congrArg (enS true) (Zda pre x _ _ hl))))).trans ?_;refine(hf (pre++[Link.mk_ x k],k+1+1+1+1) ⟨by simp[hl],by simp only;omega,by simp only;omega⟩).trans ?_
  show _=some ([[D.int .i64 (k+(Link.n_ x+cntS Link.n_ (a.drop (i+1))))]],[[D.sl true 4 (enS true (pre++(Link.mk_ x k::markS Link.mk_ Link.n_ (a.drop (i+1)) (k+Link.n_ x))))]]);rw[he,List.append_assoc,List.singleton_append,Int.add_assoc]
def T76:Table:=(76,c76)::T40
theorem Zr4:Table.Sound prog Hx T76:=sa Zq4 func76 (by kernel_rfl) (Zah λa=>Zah λk=>Zan λh=>⟨_,m76 a k h⟩)
def o39(a:Net)(k:Int):Bool×List Row×List Row:=(decide (0≤k)&&(decide (k+Net.nTop a≤4611686018427387904)&&((decide (a.Bridges.length≤1152921504606846976)&&a.Bridges.all (λx=>decide (x.Ports.length≤1152921504606846976)))&&decide (a.Links.length≤1152921504606846976))),[[.int .i64 (k+Net.nTop a)]],[[.sl true 2 (enS true (Net.mkTop a k).Bridges),.sl true 4 (enS true (Net.mkTop a k).Links)]])
def zp35:Pa (Net):=⟨λa=>[.sl true 2 (enS true a.Bridges),.sl true 4 (enS true a.Links)],λr=>match r with|[.sl true 2 a_Bridges,.sl true 4 a_Links]=>some (λt=>t&&isS Bridge true a_Bridges&&isS Link true a_Links,⟨(deS Bridge a_Bridges),(deS Link a_Links)⟩)|_=>none,by
 intro r f x h t ht;split at h
 ·cases h;simp only[Bool.and_eq_true]at ht;obtain⟨⟨ht,h0⟩,h1⟩:=ht;obtain⟨_,rfl⟩:=Zay h0;obtain⟨_,rfl⟩:=Zay h1;exact⟨ht,by simp only[Zad]⟩
 ·cases h⟩
def c39:Contract:=(cp zp35 λa=>cp zp0 λk=>c0 (o39 a k)) true
def e39(a:Net)(k:Int)(n:Nat):=evFn ⟨prog,Hx,39⟩ T76.call n f39 [zp35.row a,zp0.row k]
theorem r39(a:Net)(k:Int)(n:Nat):e39 a k n=bif isS Bridge true (enS true (Net.Bridges a))&&(decide (0≤k)&&(decide (k+cntS Bridge.n_ (deS Bridge (enS true (Net.Bridges a)))≤4611686018427387904)&&(decide (length (deS Bridge (enS true (Net.Bridges a)))≤1152921504606846976)&&all (deS Bridge (enS true (Net.Bridges a))) λx↦decide (length (Bridge.Ports x)≤1152921504606846976))))then bif isS Link true (enS true (Net.Links a))&&(decide (0≤k+cntS Bridge.n_ (deS Bridge (enS true (Net.Bridges a))))&&(decide (k+cntS Bridge.n_ (deS Bridge (enS true (Net.Bridges a)))+cntS Link.n_ (deS Link (enS true (Net.Links a)))≤4611686018427387904)&&decide (length (deS Link (enS true (Net.Links a)))≤1152921504606846976)))then some ([[D.int i64 (k+cntS Bridge.n_ (deS Bridge (enS true (Net.Bridges a)))+cntS Link.n_ (deS Link (enS true (Net.Links a))))]],[[D.sl true 2 (enS true (markS Bridge.mk_ Bridge.n_ (deS Bridge (enS true (Net.Bridges a))) k)),D.sl true 4 (enS true (markS Link.mk_ Link.n_ (deS Link (enS true (Net.Links a))) (k+cntS Bridge.n_ (deS Bridge (enS true (Net.Bridges a))))))]])else none else none:=by kernel_rfl
theorem m39(a:Net)(k:Int):(o39 a k).1=true→e39 a k 0=some (o39 a k).2:=by
 refine pm λhpre=>(r39 a k _).trans ?_;simp only[Bool.and_eq_true]at hpre;obtain⟨h0,h1,h2⟩:=hpre;have h0':=of_decide_eq_true h0;have h1':=of_decide_eq_true h1;unfold Net.nTop at h1';have p0:0≤cntS Bridge.n_ a.Bridges:=Zag Bridge.n_pos a.Bridges;have p1:0≤cntS Link.n_ a.Links:=Zag Link.n_pos a.Links;have g0:decide (0≤k)=true:=decide_eq_true (by omega)
 have f0:decide (k+cntS Bridge.n_ a.Bridges≤4611686018427387904)=true:=decide_eq_true (by omega)
 have d0:decide (k+cntS Bridge.n_ a.Bridges<0)=false:=decide_eq_false (by omega)
 have g1:decide (0≤k+cntS Bridge.n_ a.Bridges)=true:=decide_eq_true (by omega)
 have f1:decide (k+cntS Bridge.n_ a.Bridges+cntS Link.n_ a.Links≤4611686018427387904)=true:=decide_eq_true (by omega)
 have d1:decide (k+cntS Bridge.n_ a.Bridges+cntS Link.n_ a.Links<0)=false:=decide_eq_false (by omega)
 simp only[g0,f0,d0,g1,f1,d1,h2,Zak,Zad,Zas,cond_true,cond_false,Bool.and_self,Bool.and_true,Bool.true_and,Net.mkTop,Net.nTop];try rfl
 try simp only[Int.add_assoc]
def T39:Table:=(39,c39)::T76
theorem Zq3:Table.Sound prog Hx T39:=sa Zr4 func39 (by kernel_rfl) (Zah λa=>Zah λk=>Zan λh=>⟨_,m39 a k h⟩)
def o13(a:Fabric)(k:Int):Bool×List Row×List Row:=(decide (0≤k)&&(decide (k+Fabric.nTop a≤4611686018427387904)&&(((decide (a.Net.Bridges.length≤1152921504606846976)&&a.Net.Bridges.all (λx=>decide (x.Ports.length≤1152921504606846976)))&&decide (a.Net.Links.length≤1152921504606846976))&&(decide (a.Cards.length≤1152921504606846976)&&a.Cards.all (λx=>(decide (x.Open.length≤1152921504606846976)&&(decide (x.Members.length≤1152921504606846976)&&x.Members.all (λx=>decide (x.In.length≤1152921504606846976)))&&decide (x.Table.length≤1152921504606846976)))))),[[.int .i64 (k+Fabric.nTop a)]],[[.sl true 2 (enS true (Fabric.mkTop a k).Net.Bridges),.sl true 4 (enS true (Fabric.mkTop a k).Net.Links),.sl true 3 (enS true (Fabric.mkTop a k).Cards)]])
def zp36:Pa (Fabric):=⟨λa=>[.sl true 2 (enS true a.Net.Bridges),.sl true 4 (enS true a.Net.Links),.sl true 3 (enS true a.Cards)],λr=>match r with|[.sl true 2 a_Net_Bridges,.sl true 4 a_Net_Links,.sl true 3 a_Cards]=>some (λt=>t&&isS Bridge true a_Net_Bridges&&isS Link true a_Net_Links&&isS Card true a_Cards,⟨⟨(deS Bridge a_Net_Bridges),(deS Link a_Net_Links)⟩,(deS Card a_Cards)⟩)|_=>none,by
 intro r f x h t ht;split at h
 ·cases h;simp only[Bool.and_eq_true]at ht;obtain⟨⟨⟨ht,h0⟩,h1⟩,h2⟩:=ht;obtain⟨_,rfl⟩:=Zay h0;obtain⟨_,rfl⟩:=Zay h1;obtain⟨_,rfl⟩:=Zay h2;exact⟨ht,by simp only[Zad]⟩
 ·cases h⟩
def c13:Contract:=(cp zp36 λa=>cp zp0 λk=>c0 (o13 a k)) true
def e13(a:Fabric)(k:Int)(n:Nat):=evFn ⟨prog,Hx,13⟩ T39.call n f13 [zp36.row a,zp0.row k]
def y13_0(a:Fabric):=Net.mk (deS Bridge (enS true (Net.Bridges (Fabric.Net a)))) (deS Link (enS true (Net.Links (Fabric.Net a))))
theorem r13(a:Fabric)(k:Int)(n:Nat):e13 a k n=bif isS Bridge true (enS true (Net.Bridges (Fabric.Net a)))&&isS Link true (enS true (Net.Links (Fabric.Net a)))&&(decide (0≤k)&&(decide (k+Net.nTop (y13_0 a)≤4611686018427387904)&&((decide (length (deS Bridge (enS true (Net.Bridges (Fabric.Net a))))≤1152921504606846976)&&all (deS Bridge (enS true (Net.Bridges (Fabric.Net a)))) λx↦decide (length (Bridge.Ports x)≤1152921504606846976))&&decide (length (deS Link (enS true (Net.Links (Fabric.Net a))))≤1152921504606846976))))then bif isS Card true (enS true (Fabric.Cards a))&&(decide (0≤k+Net.nTop (y13_0 a))&&(decide (k+Net.nTop (y13_0 a)+cntS Card.n_ (deS Card (enS true (Fabric.Cards a)))≤4611686018427387904)&&(decide (length (deS Card (enS true (Fabric.Cards a)))≤1152921504606846976)&&all (deS Card (enS true (Fabric.Cards a))) λx↦decide (length (Card.Open x)≤1152921504606846976)&&(decide (length (Card.Members x)≤1152921504606846976)&&all (Card.Members x) λx_1↦decide (length (Member.In x_1)≤1152921504606846976))&&decide (length (Card.Table x)≤1152921504606846976))))then some ([[D.int i64 (k+Net.nTop (y13_0 a)+cntS Card.n_ (deS Card (enS true (Fabric.Cards a))))]],[[D.sl true 2 (enS true (Net.Bridges (Net.mkTop (y13_0 a) k))),D.sl true 4 (enS true (Net.Links (Net.mkTop (y13_0 a) k))),D.sl true 3 (enS true (markS Card.mk_ Card.n_ (deS Card (enS true (Fabric.Cards a))) (k+Net.nTop (y13_0 a))))]])else none else none:=by kernel_rfl
theorem m13(a:Fabric)(k:Int):(o13 a k).1=true→e13 a k 0=some (o13 a k).2:=by
 refine pm λhpre=>(r13 a k _).trans ?_;delta y13_0;simp only[Bool.and_eq_true]at hpre;obtain⟨h0,h1,h2⟩:=hpre;have h0':=of_decide_eq_true h0;have h1':=of_decide_eq_true h1;unfold Fabric.nTop at h1';have p0:0≤Net.nTop a.Net:=Net.nTop_pos a.Net;have p1:0≤cntS Card.n_ a.Cards:=Zag Card.n_pos a.Cards;have g0:decide (0≤k)=true:=decide_eq_true (by omega)
 have f0:decide (k+Net.nTop a.Net≤4611686018427387904)=true:=decide_eq_true (by omega)
 have d0:decide (k+Net.nTop a.Net<0)=false:=decide_eq_false (by omega)
 have g1:decide (0≤k+Net.nTop a.Net)=true:=decide_eq_true (by omega)
 have f1:decide (k+Net.nTop a.Net+cntS Card.n_ a.Cards≤4611686018427387904)=true:=decide_eq_true (by omega)
 have d1:decide (k+Net.nTop a.Net+cntS Card.n_ a.Cards<0)=false:=decide_eq_false (by omega)
 simp only[g0,f0,d0,g1,f1,d1,h2,Zak,Zad,Zas,cond_true,cond_false,Bool.and_self,Bool.and_true,Bool.true_and,Fabric.mkTop,Fabric.nTop];try rfl
 try simp only[Int.add_assoc]
def T13:Table:=(13,c13)::T39
theorem Zqd:Table.Sound prog Hx T13:=sa Zq3 func13 (by kernel_rfl) (Zah λa=>Zah λk=>Zan λh=>⟨_,m13 a k h⟩)
def o14(a:TFrame)(k:Int):Bool×List Row×List Row:=(decide (0≤k)&&(decide (k+TFrame.nTop a≤4611686018427387904)&&(decide (a.Load.length≤1152921504606846976))),[[.int .i64 (k+TFrame.nTop a)]],[[.int .i64 (TFrame.mkTop a k).To,.int .i64 (TFrame.mkTop a k).From,.int .i64 (TFrame.mkTop a k).Vlan,.sl true 1 (enS true (TFrame.mkTop a k).Load)]])
def zp37:Pa (TFrame):=⟨λa=>[.int .i64 a.To,.int .i64 a.From,.int .i64 a.Vlan,.sl true 1 (enS true a.Load)],λr=>match r with|[.int .i64 a_To,.int .i64 a_From,.int .i64 a_Vlan,.sl true 1 a_Load]=>some (λt=>t&&isS UInt8 true a_Load,⟨a_To,a_From,a_Vlan,(deS UInt8 a_Load)⟩)|_=>none,by
 intro r f x h t ht;split at h
 ·cases h;simp only[Bool.and_eq_true]at ht;obtain⟨ht,h0⟩:=ht;obtain⟨_,rfl⟩:=Zay h0;exact⟨ht,by simp only[Zad]⟩
 ·cases h⟩
def c14:Contract:=(cp zp37 λa=>cp zp0 λk=>c0 (o14 a k)) true
def e14(a:TFrame)(k:Int)(n:Nat):=evFn ⟨prog,Hx,14⟩ T13.call n f14 [zp37.row a,zp0.row k]
theorem r14(a:TFrame)(k:Int)(n:Nat):e14 a k n=bif isS UInt8 true (enS true (TFrame.Load a))&&(decide (0≤k)&&(decide (k+cntS oneN (deS UInt8 (enS true (TFrame.Load a)))≤4611686018427387904)&&decide (length (deS UInt8 (enS true (TFrame.Load a)))≤1152921504606846976)))then some ([[D.int i64 (k+cntS oneN (deS UInt8 (enS true (TFrame.Load a))))]],[[D.int i64 (TFrame.To a),D.int i64 (TFrame.From a),D.int i64 (TFrame.Vlan a),D.sl true 1 (enS true (markS byteMk oneN (deS UInt8 (enS true (TFrame.Load a))) k))]])else none:=by kernel_rfl
theorem m14(a:TFrame)(k:Int):(o14 a k).1=true→e14 a k 0=some (o14 a k).2:=by
 refine pm λhpre=>(r14 a k _).trans ?_;simp only[Bool.and_eq_true]at hpre;obtain⟨h0,h1,h2⟩:=hpre;have h0':=of_decide_eq_true h0;have h1':=of_decide_eq_true h1;unfold TFrame.nTop at h1';have p0:0≤cntS oneN a.Load:=Zag Zbh a.Load;have g0:decide (0≤k)=true:=decide_eq_true (by omega)
 have f0:decide (k+cntS oneN a.Load≤4611686018427387904)=true:=decide_eq_true (by omega)
 have d0:decide (k+cntS oneN a.Load<0)=false:=decide_eq_false (by omega)
 simp only[g0,f0,d0,h2,Zak,Zad,Zas,cond_true,cond_false,Bool.and_self,Bool.and_true,Bool.true_and,TFrame.mkTop,TFrame.nTop];try rfl
def T14:Table:=(14,c14)::T13
theorem Zqe:Table.Sound prog Hx T14:=sa Zqd func14 (by kernel_rfl) (Zah λa=>Zah λk=>Zan λh=>⟨_,m14 a k h⟩)
def o15(a:List Got)(k:Int):Bool×List Row×List Row:=(decide (0≤k)&&(decide (k+cntS Got.n_ a≤4611686018427387904)&&(decide (a.length≤1152921504606846976)&&a.all (λx=>decide (x.Frame.Load.length≤1152921504606846976)))),[[.int .i64 (k+cntS Got.n_ a)]],[[.sl true 5 (enS true (markS Got.mk_ Got.n_ a k))]])
def zp38:Pa (List Got):=⟨λa=>[.sl true 5 (enS true a)],λr=>match r with|[.sl true 5 a]=>some (λt=>t&&isS Got true a,(deS Got a))|_=>none,by
 intro r f x h t ht;split at h
 ·cases h;simp only[Bool.and_eq_true]at ht;obtain⟨ht,h0⟩:=ht;obtain⟨_,rfl⟩:=Zay h0;exact⟨ht,by simp only[Zad]⟩
 ·cases h⟩
def c15:Contract:=(cp zp38 λa=>cp zp0 λk=>c0 (o15 a k)) true
def k15_0:KT:=λn↦kThen (λst↦rC 15 T14 n f15 [1,1] 16 [] 16 st (lV f15 [] [C.view 0 0 0 [] 5 none])) (lV f15 [] [C.view 0 0 0 [] 5 none])
def k15_1:KT:=λn↦kBlock (0) (k15_0 n)
def S15_0(i0:Int)(i1:Int)(es2:List (List D)):St:=St.mk (V_ [C.view 0 0 0 [] 5 none]::I_ i0::U_::U_::U_::I_ i1::u_ 46 []) [Root.mk false 5 es2 0 0 true true false [] 0 []]
def B15_0:BT:=λn↦rC 15 T14 n f15 [1,0,1,0,0] 35 [(0,2)] 16
def X15_2(i0:Int)(es2:List (List D)):St:=St.mk (U_::I_ i0::u_ 50 []) [Root.mk false 5 es2 0 0 true true false [] 0 []]
def w15_3(i0:Int)(i1:Int)(es2:List (List D)):List (List D):=set es2 (0+toNat i1) (D.int i64 i0::drop 1 (getD es2 (0+toNat i1) []))
def w15_4(i0:Int)(i1:Int)(es2:List (List D)):List (List D):=set (w15_3 i0 i1 es2) (0+toNat i1) (append (append (take 1 (getD (w15_3 i0 i1 es2) (0+toNat i1) [])) [D.int i64 (wrap i64 (i0+1))]) (drop 2 (getD (w15_3 i0 i1 es2) (0+toNat i1) [])))
def w15_5(i0:Int)(i1:Int)(es2:List (List D)):List (List D):=set (w15_4 i0 i1 es2) (0+toNat i1) (append (append (take 2 (getD (w15_4 i0 i1 es2) (0+toNat i1) [])) [D.int i64 (wrap i64 (wrap i64 (i0+1)+1))]) (drop 3 (getD (w15_4 i0 i1 es2) (0+toNat i1) [])))
def w15_6(i0:Int)(i1:Int)(es2:List (List D)):List (List D):=set (w15_5 i0 i1 es2) (0+toNat i1) (append (append (take 3 (getD (w15_5 i0 i1 es2) (0+toNat i1) [])) [D.int i64 (wrap i64 (wrap i64 (wrap i64 (i0+1)+1)+1))]) (drop 4 (getD (w15_5 i0 i1 es2) (0+toNat i1) [])))
def w15_7(i0:Int)(i1:Int)(es2:List (List D)):List (List D):=set (w15_6 i0 i1 es2) (0+toNat i1) (set (getD (w15_6 i0 i1 es2) (0+toNat i1) []) 4 D.dead)
def y15_0(es2:List (List D))(i0:Int)(i1:Int):=getD (getD (w15_6 i0 i1 es2) (0+toNat i1) []) 4 D.dead
def y15_1(i0:Int):=wrap i64 (wrap i64 (wrap i64 (i0+1)+1)+1)+1
theorem Z0u(n:Nat)(i0:Int)(i1:Int)(es2:List (List D))(f:St→RR)(K:Ex→St→RR):B15_0 n (S15_0 i0 i1 es2) (kThen (λst↦f (St.head 1 35 2251799813685218 st)) K)=bif decide (i1<ofNat (length es2))then bif decide (0≤i1)&&decide (i1<ofNat (length es2))then bif decide (0≤i1)&&decide (i1<ofNat (length (w15_3 i0 i1 es2)))then bif decide (0≤i1)&&decide (i1<ofNat (length (w15_4 i0 i1 es2)))then bif decide (0≤i1)&&decide (i1<ofNat (length (w15_5 i0 i1 es2)))then bif decide (0≤i1)&&decide (i1<ofNat (length (w15_6 i0 i1 es2)))then bif Leaf.fit true (Leaf.sl 1 true) (y15_0 es2 i0 i1)&&true then bif D.isOwn (y15_0 es2 i0 i1)&&true&&true&&true then bif isS UInt8 true (D.rows (y15_0 es2 i0 i1))&&(decide (0≤wrap i64 (y15_1 i0))&&(decide (wrap i64 (y15_1 i0)+cntS oneN (deS UInt8 (D.rows (y15_0 es2 i0 i1)))≤4611686018427387904)&&decide (length (deS UInt8 (D.rows (y15_0 es2 i0 i1)))≤1152921504606846976)))then bif D.isOwn (y15_0 es2 i0 i1)&&true&&true&&true then f (S15_0 (wrap i64 (y15_1 i0)+cntS oneN (deS UInt8 (D.rows (y15_0 es2 i0 i1)))) (wrap i64 (i1+1)) (set (w15_7 i0 i1 es2) (0+toNat i1) (set (getD (w15_7 i0 i1 es2) (0+toNat i1) []) 4 (D.sl true 1 (enS true (markS byteMk oneN (deS UInt8 (D.rows (y15_0 es2 i0 i1))) (wrap i64 (y15_1 i0))))))))else none else none else none else none else none else none else none else none else none else K (Ex.exit 0) (X15_2 i0 es2):=by kernel_rfl
theorem Zyf(n:Nat)(i0:Int)(es2:List (List D)):k15_1 n (Ex.exit 0) (X15_2 i0 es2)=some ([[D.int i64 i0]],[[D.sl true 5 es2]]):=by kernel_rfl
def e15(a:List Got)(k:Int)(n:Nat):=evFn ⟨prog,Hx,15⟩ T14.call n f15 [zp38.row a,zp0.row k]
theorem r15(a:List Got)(k:Int)(n:Nat):e15 a k n=loopRun (B15_0 n) 1 35 2251799813685218 n (S15_0 k (0) (enS true a)) (k15_1 n):=by kernel_rfl
theorem m15(a:List Got)(k:Int):(o15 a k).1=true→e15 a k (a.length+1)=some (o15 a k).2:=by
 refine pm λhpre=>(r15 a k _).trans ?_;simp only[Bool.and_eq_true]at hpre;obtain⟨h0,h1,h2,h3⟩:=hpre;have h0:=of_decide_eq_true h0;have h1:=of_decide_eq_true h1;have h2:=of_decide_eq_true h2;refine Zai (xs:=a) (λi (v:List Got×Int)=>S15_0 v.2 (Int.ofNat i) (enS true (v.1++a.drop i))) (λi v=>v.1.length=i∧0≤v.2∧v.2+cntS Got.n_ (a.drop i)≤4611686018427387904) (λ_ v rest=>some ([[D.int .i64 (v.2+cntS Got.n_ rest)]],[[D.sl true 5 (enS true (v.1++markS Got.mk_ Got.n_ rest v.2))]])) ?_ ?_ (a.length+1) ([],k) (by omega) ⟨rfl,h0,h1⟩
 ·rintro⟨pre,k⟩ ⟨hl,hk0,hk1⟩ f;refine(Z0u _ _ _ _ f _).trans ?_;delta y15_0 y15_1;simp only[Zaa,List.drop_length,List.append_nil,hl,Zap,Nat.lt_irrefl,decide_false,cond_false];refine(Zyf _ _ _).trans ?_;simp only[List.append_nil,cntS,markS,Int.add_zero]
 ·rintro i ⟨pre,k⟩ hi ⟨hl,hk0,hk1⟩ f hf;simp only at hl hk0 hk1;rw[List.drop_eq_getElem_cons hi]at hk1;have hel:=List.all_eq_true.1 h3 _ (List.getElem_mem hi);generalize hx:a[i]=x at hk1 hel⊢;have hc:=Zag (n:=Got.n_) Got.n_pos (a.drop (i+1));try simp only[Bool.and_eq_true]at hel
  simp only[cntS,Got.n_,TFrame.n_]at hk1;have p4:0≤cntS oneN x.Frame.Load:=Zag Zbh x.Frame.Load;have w0:IntKind.wrap IntKind.i64 (k+1)=k+1:=Zau (by omega) (by omega)
  have w1:IntKind.wrap IntKind.i64 (k+1+1)=k+1+1:=Zau (by omega) (by omega)
  have w2:IntKind.wrap IntKind.i64 (k+1+1+1)=k+1+1+1:=Zau (by omega) (by omega)
  have w3:IntKind.wrap IntKind.i64 (k+1+1+1+1)=k+1+1+1+1:=Zau (by omega) (by omega)
  have g4:decide (0≤k+1+1+1+1)=true:=decide_eq_true (by omega)
  have f4:decide (k+1+1+1+1+cntS oneN x.Frame.Load≤4611686018427387904)=true:=decide_eq_true (by omega)
  refine(Z0u _ _ _ _ f _).trans ?_;delta y15_0 y15_1;rw[List.drop_eq_getElem_cons hi,hx];have hm:=Zdn pre x (a.drop (i+1)) hl;have hat:=Zfa pre x (a.drop (i+1)) hl hm;have hs:∀R,((enS true (pre++x::a.drop (i+1))).set i R).getD i []=R:=λR=>Zat _ _ _ _ (by rw[Zaa];exact hm)
  simp only[w15_3,w15_4,w15_5,w15_6,w15_7,List.length_set,Zaa,Zac,Nat.zero_add,Zap,Zaq,hm,hs,List.set_set,Zab _ hm,hat,decide_true,cond_true,Bool.and_self,Bool.and_true,Bool.true_and,Zae (show i<4611686018427387904 by omega),En.enc,List.append_eq,List.take_succ_cons,List.take_zero,List.drop_succ_cons,List.drop_zero,List.cons_append,List.nil_append,List.getD_cons_zero,List.getD_cons_succ,D.num,D.flag,D.text,D.rows,D.isOwn,pathOk,Leaf.fit,beq_self_eq_true,Zak,Zad,Zal,List.set_cons_zero,List.set_cons_succ,hel,w0,w1,w2,w3,g4,f4]
  have he:k+1+1+1+1+cntS oneN x.Frame.Load=k+Got.n_ x:=by simp only[Got.n_,TFrame.n_];omega
  refine(congrArg f (congrArg (S15_0 _ _) ((Za9 true _ i (Got.mk_ x k)).trans (congrArg (enS true) (Zda pre x _ _ hl))))).trans ?_;refine(hf (pre++[Got.mk_ x k],k+1+1+1+1+cntS oneN x.Frame.Load) ⟨by simp[hl],by simp only;omega,by simp only;omega⟩).trans ?_
  show _=some ([[D.int .i64 (k+(Got.n_ x+cntS Got.n_ (a.drop (i+1))))]],[[D.sl true 5 (enS true (pre++(Got.mk_ x k::markS Got.mk_ Got.n_ (a.drop (i+1)) (k+Got.n_ x))))]]);rw[he,List.append_assoc,List.singleton_append,Int.add_assoc]
def T15:Table:=(15,c15)::T14
theorem Zqf:Table.Sound prog Hx T15:=sa Zqe func15 (by kernel_rfl) (Zah λa=>Zah λk=>Zan λh=>⟨_,m15 a k h⟩)
end Go.Ev
end
