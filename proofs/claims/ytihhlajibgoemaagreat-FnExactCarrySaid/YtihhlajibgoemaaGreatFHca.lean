/- Contracts of functions, each by its evaluation. -/
import Derived.Test.YtihhlajibgoemaaGreatEvMd
import Derived.Test.YtihhlajibgoemaaGreatProg
import Derived.KernelRfl
import Derived.Test.YtihhlajibgoemaaGreatFBridgeok
set_option linter.unusedVariables false
set_option linter.unusedSimpArgs false
set_option maxRecDepth 100000
noncomputable section
open List (getD length drop take set append replicate all isEmpty)
open Int (toNat ofNat)
open Go.IntKind (i64 wrap)
open Go.Proofs.Tryz (prog f10 f100 f101 f11 f117 f118 f119 f12 f120 f121 f126 f127 f132 f133 f134 f144 f145 f146 f147 f149 f150 f154 f155 f157 f162 f18 f19 f20 f27 f28 f29 f35 f36 f37 f38 f4 f45 f46 f47 f5 f56 f57 f58 f7 f72 f73 f74 f8 f85 f86 f87 f88 f97 f98 f99 func10 func100 func101 func11 func117 func118 func119 func12 func120 func121 func126 func127 func132 func133 func134 func144 func145 func146 func147 func149 func150 func154 func155 func157 func162 func18 func19 func20 func27 func28 func29 func35 func36 func37 func38 func4 func45 func46 func47 func5 func56 func57 func58 func7 func72 func73 func74 func8 func85 func86 func87 func88 func97 func98 func99)
namespace Go.Ev
open Go.RowKit Go.Md
end Go.Ev
namespace Go.Md
open Go Go.Ev
def Bridge.wt(x:Bridge):Int:=(x.Ports.length:Int)
def Bridge.small(x:Bridge):Bool:=decide (x.Ports.length≤1048576)
def Bridge.big(x:Bridge):Bool:=decide (x.Ports.length≤9223372036854775807)
theorem Bridge.wt_pos(x:Bridge):0≤Bridge.wt x:=by
 unfold Bridge.wt;omega
theorem Bridge.small_of(x:Bridge)(h:Bridge.wt x≤1048576):Bridge.small x=true:=by
 unfold Bridge.wt at h;unfold Bridge.small;exact decide_eq_true (by omega)
def Member.wt(x:Member):Int:=(x.In.length:Int)
def Member.small(x:Member):Bool:=decide (x.In.length≤1048576)
def Member.big(x:Member):Bool:=decide (x.In.length≤9223372036854775807)
theorem Member.wt_pos(x:Member):0≤Member.wt x:=by
 unfold Member.wt;omega
theorem Member.small_of(x:Member)(h:Member.wt x≤1048576):Member.small x=true:=by
 unfold Member.wt at h;unfold Member.small;exact decide_eq_true (by omega)
def Card.wt(x:Card):Int:=(x.Open.length:Int)+((x.Members.length:Int)+cntS Member.wt x.Members)+(x.Table.length:Int)
def Card.small(x:Card):Bool:=decide (x.Open.length≤1048576)&&(decide (x.Members.length≤1048576)&&x.Members.all Member.small)&&decide (x.Table.length≤1048576)
def Card.big(x:Card):Bool:=decide (x.Open.length≤9223372036854775807)&&(decide (x.Members.length≤9223372036854775807)&&x.Members.all Member.big)&&decide (x.Table.length≤9223372036854775807)
theorem Card.wt_pos(x:Card):0≤Card.wt x:=by
 have h1:=Zag (n:=Member.wt) Member.wt_pos x.Members;unfold Card.wt;omega
theorem Card.small_of(x:Card)(h:Card.wt x≤1048576):Card.small x=true:=by
 have h1:=Zag (n:=Member.wt) Member.wt_pos x.Members;unfold Card.wt at h;unfold Card.small;exact Bool.and_eq_true_iff.2 ⟨Bool.and_eq_true_iff.2 ⟨decide_eq_true (by omega),Bool.and_eq_true_iff.2 ⟨decide_eq_true (by omega),Zdo Member.wt_pos Member.small_of _ (by omega)⟩⟩,decide_eq_true (by omega)⟩
def Net.wt(x:Net):Int:=((x.Bridges.length:Int)+cntS Bridge.wt x.Bridges)+(x.Links.length:Int)
def Net.small(x:Net):Bool:=(decide (x.Bridges.length≤1048576)&&x.Bridges.all Bridge.small)&&decide (x.Links.length≤1048576)
def Net.big(x:Net):Bool:=(decide (x.Bridges.length≤9223372036854775807)&&x.Bridges.all Bridge.big)&&decide (x.Links.length≤9223372036854775807)
theorem Net.wt_pos(x:Net):0≤Net.wt x:=by
 have h0:=Zag (n:=Bridge.wt) Bridge.wt_pos x.Bridges;unfold Net.wt;omega
theorem Net.small_of(x:Net)(h:Net.wt x≤1048576):Net.small x=true:=by
 have h0:=Zag (n:=Bridge.wt) Bridge.wt_pos x.Bridges;unfold Net.wt at h;unfold Net.small;exact Bool.and_eq_true_iff.2 ⟨Bool.and_eq_true_iff.2 ⟨decide_eq_true (by omega),Zdo Bridge.wt_pos Bridge.small_of _ (by omega)⟩,decide_eq_true (by omega)⟩
def Fabric.wt(x:Fabric):Int:=Net.wt x.Net+((x.Cards.length:Int)+cntS Card.wt x.Cards)
def Fabric.small(x:Fabric):Bool:=Net.small x.Net&&(decide (x.Cards.length≤1048576)&&x.Cards.all Card.small)
def Fabric.big(x:Fabric):Bool:=Net.big x.Net&&(decide (x.Cards.length≤9223372036854775807)&&x.Cards.all Card.big)
theorem Fabric.wt_pos(x:Fabric):0≤Fabric.wt x:=by
 have h0:=Net.wt_pos x.Net;have h1:=Zag (n:=Card.wt) Card.wt_pos x.Cards;unfold Fabric.wt;omega
theorem Fabric.small_of(x:Fabric)(h:Fabric.wt x≤1048576):Fabric.small x=true:=by
 have h0:=Net.wt_pos x.Net;have h1:=Zag (n:=Card.wt) Card.wt_pos x.Cards;unfold Fabric.wt at h;unfold Fabric.small;exact Bool.and_eq_true_iff.2 ⟨Net.small_of _ (by omega),Bool.and_eq_true_iff.2 ⟨decide_eq_true (by omega),Zdo Card.wt_pos Card.small_of _ (by omega)⟩⟩
def TFrame.wt(x:TFrame):Int:=(x.Load.length:Int)
def TFrame.small(x:TFrame):Bool:=decide (x.Load.length≤1048576)
def TFrame.big(x:TFrame):Bool:=decide (x.Load.length≤9223372036854775807)
theorem TFrame.wt_pos(x:TFrame):0≤TFrame.wt x:=by
 unfold TFrame.wt;omega
theorem TFrame.small_of(x:TFrame)(h:TFrame.wt x≤1048576):TFrame.small x=true:=by
 unfold TFrame.wt at h;unfold TFrame.small;exact decide_eq_true (by omega)
def Got.wt(x:Got):Int:=TFrame.wt x.Frame
def Got.small(x:Got):Bool:=TFrame.small x.Frame
def Got.big(x:Got):Bool:=TFrame.big x.Frame
theorem Got.wt_pos(x:Got):0≤Got.wt x:=by
 have h0:=TFrame.wt_pos x.Frame;unfold Got.wt;omega
theorem Got.small_of(x:Got)(h:Got.wt x≤1048576):Got.small x=true:=by
 have h0:=TFrame.wt_pos x.Frame;unfold Got.wt at h;unfold Got.small;exact TFrame.small_of _ (by omega)
end Go.Md
namespace Go.Ev
open Go.Md
def o119(a:List Bool)(b:List Bool):Bool×List Row×List Row:=(sameB a b&&(decide (a.length≤1048576)),[[.bool (true)]],[])
def zp5:Pa (List Bool):=⟨λa=>[.sl false 1 (enS false a)],λr=>match r with|[.sl false 1 a]=>some (λt=>t&&isS Bool false a,(deS Bool a))|_=>none,by
 intro r f x h t ht;split at h
 ·cases h;simp only[Bool.and_eq_true]at ht;obtain⟨ht,h0⟩:=ht;obtain⟨_,rfl⟩:=Zay h0;exact⟨ht,by simp only[Zad]⟩
 ·cases h⟩
def c119:Contract:=(cp zp5 λa=>cp zp5 λb=>c0 (o119 a b)) true
def k119_0:KT:=λn↦kThen (λst↦rC 119 T128 n f119 [1,1,1] 16 [] 16 st (lV f119 [] [])) (lV f119 [] [])
def k119_1:KT:=λn↦kBlock (0) (k119_0 n)
def S119_0(a:List Bool)(b:List Bool)(i0:Int):St:=St.mk (V_ [C.d (D.sl false 1 (enS false a))]::V_ [C.d (D.sl false 1 (enS false b))]::U_::U_::U_::I_ i0::u_ 20 []) []
def B119_0:BT:=λn↦rC 119 T128 n f119 [1,1,0,1,0,0] 35 [(0,0)] 16
def X119_2:St:=St.mk (u_ 4 (B_ false::u_ 21 [])) []
def X119_3:St:=St.mk (u_ 26 []) []
theorem Zv4(a:List Bool)(b:List Bool)(n:Nat)(i0:Int)(f:St→RR)(K:Ex→St→RR):B119_0 n (S119_0 a b i0) (kThen (λst↦f (St.head 0 35 67106864 st)) K)=bif decide (i0<ofNat (length (enS false a)))then bif decide (0≤i0)&&decide (i0<ofNat (length (enS false a)))then bif Leaf.fit false Leaf.bool (getD (getD (enS false a) (toNat i0) []) 0 D.dead)&&true then bif decide (0≤i0)&&decide (i0<ofNat (length (enS false b)))then bif Leaf.fit false Leaf.bool (getD (getD (enS false b) (toNat i0) []) 0 D.dead)&&true then bif D.flag (getD (getD (enS false a) (toNat i0) []) 0 D.dead) !=D.flag (getD (getD (enS false b) (toNat i0) []) 0 D.dead)then K Ex.ret X119_2 else f (S119_0 a b (wrap i64 (i0+1)))else none else none else none else none else K (Ex.exit 0) X119_3:=by kernel_rfl
theorem Z2u(n:Nat):k119_1 n Ex.ret X119_2=some ([[D.bool false]],[]):=by kernel_rfl
theorem Zw0(n:Nat):k119_1 n (Ex.exit 0) X119_3=some ([[D.bool true]],[]):=by kernel_rfl
def e119(a:List Bool)(b:List Bool)(n:Nat):=evFn ⟨prog,Hx,119⟩ T128.call n f119 [zp5.row a,zp5.row b]
theorem r119(a:List Bool)(b:List Bool)(n:Nat):e119 a b n=bif ofNat (length (enS false a)) !=ofNat (length (enS false b))then some ([[D.bool false]],[])else loopRun (B119_0 n) 0 35 67106864 n (S119_0 a b (0)) (k119_1 n):=by kernel_rfl
theorem m119(a:List Bool)(b:List Bool):(o119 a b).1=true→e119 a b (a.length+1)=some (o119 a b).2:=by
 refine pm λhpre=>(r119 a b _).trans ?_;rw[Bool.and_eq_true]at hpre;obtain⟨h0,h1⟩:=hpre;have hlen:a.length≤1048576:=of_decide_eq_true h1;have:=Zav h0;subst this;simp only[bne_self_eq_false,cond_false];refine Zai (xs:=a) (λi (_:Unit)=>S119_0 a a (Int.ofNat i)) (λ_ _=>True) (λ_ _ _=>some ([[D.bool true]],[])) ?_ ?_ (a.length+1) () (by omega) trivial
 ·rintro _ _ f;refine(Zv4 a a _ _ f _).trans ?_;simp only[Zaa,Zap,Nat.lt_irrefl,decide_false,cond_false];exact Zw0 _
 ·rintro i _ hi _ f hf;refine(Zv4 a a _ _ f _).trans ?_;simp only[Zaa,Zac,Zap,Zaq,Zab _ hi,hi,Zae (show i<4611686018427387904 by omega),decide_true,cond_true,Bool.and_self,Zas,bne_self_eq_false,cond_false]
  exact hf () trivial
def T119:Table:=(119,c119)::T128
theorem Zok:Table.Sound prog Hx T119:=sa Zot func119 (by kernel_rfl) (Zah λa=>Zah λb=>Zan λh=>⟨_,m119 a b h⟩)
def o162(a:Vec)(b:Vec):Bool×List Row×List Row:=(sameB a b,[[.bool (true)]],[])
def c162:Contract:=(cp zp1 λa=>cp zp1 λb=>c0 (o162 a b)) true
def e162(a:Vec)(b:Vec)(n:Nat):=evFn ⟨prog,Hx,162⟩ T119.call n f162 [zp1.row a,zp1.row b]
theorem r162(a:Vec)(b:Vec)(n:Nat):e162 a b n=bif Vec.Root a !=Vec.Root b then some ([[D.bool false]],[])else bif Vec.Cost a !=Vec.Cost b then some ([[D.bool false]],[])else bif Vec.Bridge a !=Vec.Bridge b then some ([[D.bool false]],[])else bif Vec.Port a !=Vec.Port b then some ([[D.bool false]],[])else some ([[D.bool true]],[]):=by kernel_rfl
theorem m162(a:Vec)(b:Vec):(o162 a b).1=true→e162 a b 0=some (o162 a b).2:=by
 refine pm λhpre=>(r162 a b _).trans ?_;have:=Zav hpre;subst this;simp only[bne_self_eq_false,cond_false,Zas,cond_true,Bool.not_true]
def T162:Table:=(162,c162)::T119
theorem Zpr:Table.Sound prog Hx T162:=sa Zok func162 (by kernel_rfl) (Zah λa=>Zah λb=>Zan λh=>⟨_,m162 a b h⟩)
def o154(a:Port)(b:Port):Bool×List Row×List Row:=(sameB a b,[[.bool (true)]],[])
def c154:Contract:=(cp zp3 λa=>cp zp3 λb=>c0 (o154 a b)) true
def e154(a:Port)(b:Port)(n:Nat):=evFn ⟨prog,Hx,154⟩ T162.call n f154 [zp3.row a,zp3.row b]
theorem r154(a:Port)(b:Port)(n:Nat):e154 a b n=bif Port.Up a !=Port.Up b then some ([[D.bool false]],[])else bif Port.Has a !=Port.Has b then some ([[D.bool false]],[])else bif sameB (Port.Vec a) (Port.Vec b)then bif Port.Hops a !=Port.Hops b then some ([[D.bool false]],[])else bif Port.Left a !=Port.Left b then some ([[D.bool false]],[])else bif Port.Role a !=Port.Role b then some ([[D.bool false]],[])else bif Port.Wait a !=Port.Wait b then some ([[D.bool false]],[])else bif Port.Open a !=Port.Open b then some ([[D.bool false]],[])else some ([[D.bool true]],[])else none:=by kernel_rfl
theorem m154(a:Port)(b:Port):(o154 a b).1=true→e154 a b 0=some (o154 a b).2:=by
 refine pm λhpre=>(r154 a b _).trans ?_;have:=Zav hpre;subst this;simp only[bne_self_eq_false,cond_false,Zas,cond_true,Bool.not_true]
def T154:Table:=(154,c154)::T162
theorem Zpj:Table.Sound prog Hx T154:=sa Zpr func154 (by kernel_rfl) (Zah λa=>Zah λb=>Zan λh=>⟨_,m154 a b h⟩)
def o144(a:List Port)(b:List Port):Bool×List Row×List Row:=(sameB a b&&(decide (a.length≤1048576)),[[.bool (true)]],[])
def zp6:Pa (List Port):=⟨λa=>[.sl false 11 (enS false a)],λr=>match r with|[.sl false 11 a]=>some (λt=>t&&isS Port false a,(deS Port a))|_=>none,by
 intro r f x h t ht;split at h
 ·cases h;simp only[Bool.and_eq_true]at ht;obtain⟨ht,h0⟩:=ht;obtain⟨_,rfl⟩:=Zay h0;exact⟨ht,by simp only[Zad]⟩
 ·cases h⟩
def c144:Contract:=(cp zp6 λa=>cp zp6 λb=>c0 (o144 a b)) true
def k144_0:KT:=λn↦kThen (λst↦rC 144 T154 n f144 [1,1,1] 16 [] 16 st (lV f144 [] [])) (lV f144 [] [])
def k144_1:KT:=λn↦kBlock (0) (k144_0 n)
def S144_0(a:List Port)(b:List Port)(i0:Int):St:=St.mk (V_ [C.d (D.sl false 11 (enS false a))]::V_ [C.d (D.sl false 11 (enS false b))]::U_::U_::U_::I_ i0::u_ 21 []) []
def B144_0:BT:=λn↦rC 144 T154 n f144 [1,1,0,1,0,0] 35 [(0,0)] 16
def X144_2:St:=St.mk (u_ 27 []) []
theorem Zwj(a:List Port)(b:List Port)(n:Nat)(i0:Int)(f:St→RR)(K:Ex→St→RR):B144_0 n (S144_0 a b i0) (kThen (λst↦f (St.head 0 35 134215728 st)) K)=bif decide (i0<ofNat (length (enS false a)))then bif decide (0≤i0)&&decide (i0<ofNat (length (enS false a)))then bif Leaf.fit false Leaf.bool (getD (getD (enS false a) (toNat i0) []) 0 D.dead)&&(Leaf.fit false Leaf.bool (getD (getD (enS false a) (toNat i0) []) 1 D.dead)&&(Leaf.fit false (Leaf.int i64) (getD (getD (enS false a) (toNat i0) []) 2 D.dead)&&(Leaf.fit false (Leaf.int i64) (getD (getD (enS false a) (toNat i0) []) 3 D.dead)&&(Leaf.fit false (Leaf.int i64) (getD (getD (enS false a) (toNat i0) []) 4 D.dead)&&(Leaf.fit false (Leaf.int i64) (getD (getD (enS false a) (toNat i0) []) 5 D.dead)&&(Leaf.fit false (Leaf.int i64) (getD (getD (enS false a) (toNat i0) []) 6 D.dead)&&(Leaf.fit false (Leaf.int i64) (getD (getD (enS false a) (toNat i0) []) 7 D.dead)&&(Leaf.fit false (Leaf.int i64) (getD (getD (enS false a) (toNat i0) []) 8 D.dead)&&(Leaf.fit false (Leaf.int i64) (getD (getD (enS false a) (toNat i0) []) 9 D.dead)&&(Leaf.fit false Leaf.bool (getD (getD (enS false a) (toNat i0) []) 10 D.dead)&&true))))))))))then bif decide (0≤i0)&&decide (i0<ofNat (length (enS false b)))then bif Leaf.fit false Leaf.bool (getD (getD (enS false b) (toNat i0) []) 0 D.dead)&&(Leaf.fit false Leaf.bool (getD (getD (enS false b) (toNat i0) []) 1 D.dead)&&(Leaf.fit false (Leaf.int i64) (getD (getD (enS false b) (toNat i0) []) 2 D.dead)&&(Leaf.fit false (Leaf.int i64) (getD (getD (enS false b) (toNat i0) []) 3 D.dead)&&(Leaf.fit false (Leaf.int i64) (getD (getD (enS false b) (toNat i0) []) 4 D.dead)&&(Leaf.fit false (Leaf.int i64) (getD (getD (enS false b) (toNat i0) []) 5 D.dead)&&(Leaf.fit false (Leaf.int i64) (getD (getD (enS false b) (toNat i0) []) 6 D.dead)&&(Leaf.fit false (Leaf.int i64) (getD (getD (enS false b) (toNat i0) []) 7 D.dead)&&(Leaf.fit false (Leaf.int i64) (getD (getD (enS false b) (toNat i0) []) 8 D.dead)&&(Leaf.fit false (Leaf.int i64) (getD (getD (enS false b) (toNat i0) []) 9 D.dead)&&(Leaf.fit false Leaf.bool (getD (getD (enS false b) (toNat i0) []) 10 D.dead)&&true))))))))))then bif sameB (Port.mk (D.flag (getD (getD (enS false a) (toNat i0) []) 0 D.dead)) (D.flag (getD (getD (enS false a) (toNat i0) []) 1 D.dead)) (Vec.mk (D.num (getD (getD (enS false a) (toNat i0) []) 2 D.dead)) (D.num (getD (getD (enS false a) (toNat i0) []) 3 D.dead)) (D.num (getD (getD (enS false a) (toNat i0) []) 4 D.dead)) (D.num (getD (getD (enS false a) (toNat i0) []) 5 D.dead))) (D.num (getD (getD (enS false a) (toNat i0) []) 6 D.dead)) (D.num (getD (getD (enS false a) (toNat i0) []) 7 D.dead)) (D.num (getD (getD (enS false a) (toNat i0) []) 8 D.dead)) (D.num (getD (getD (enS false a) (toNat i0) []) 9 D.dead)) (D.flag (getD (getD (enS false a) (toNat i0) []) 10 D.dead))) (Port.mk (D.flag (getD (getD (enS false b) (toNat i0) []) 0 D.dead)) (D.flag (getD (getD (enS false b) (toNat i0) []) 1 D.dead)) (Vec.mk (D.num (getD (getD (enS false b) (toNat i0) []) 2 D.dead)) (D.num (getD (getD (enS false b) (toNat i0) []) 3 D.dead)) (D.num (getD (getD (enS false b) (toNat i0) []) 4 D.dead)) (D.num (getD (getD (enS false b) (toNat i0) []) 5 D.dead))) (D.num (getD (getD (enS false b) (toNat i0) []) 6 D.dead)) (D.num (getD (getD (enS false b) (toNat i0) []) 7 D.dead)) (D.num (getD (getD (enS false b) (toNat i0) []) 8 D.dead)) (D.num (getD (getD (enS false b) (toNat i0) []) 9 D.dead)) (D.flag (getD (getD (enS false b) (toNat i0) []) 10 D.dead)))then f (S144_0 a b (wrap i64 (i0+1)))else none else none else none else none else none else K (Ex.exit 0) X144_2:=by kernel_rfl
theorem Zxf(n:Nat):k144_1 n (Ex.exit 0) X144_2=some ([[D.bool true]],[]):=by kernel_rfl
def e144(a:List Port)(b:List Port)(n:Nat):=evFn ⟨prog,Hx,144⟩ T154.call n f144 [zp6.row a,zp6.row b]
theorem r144(a:List Port)(b:List Port)(n:Nat):e144 a b n=bif ofNat (length (enS false a)) !=ofNat (length (enS false b))then some ([[D.bool false]],[])else loopRun (B144_0 n) 0 35 134215728 n (S144_0 a b (0)) (k144_1 n):=by kernel_rfl
theorem m144(a:List Port)(b:List Port):(o144 a b).1=true→e144 a b (a.length+1)=some (o144 a b).2:=by
 refine pm λhpre=>(r144 a b _).trans ?_;rw[Bool.and_eq_true]at hpre;obtain⟨h0,h1⟩:=hpre;have hlen:a.length≤1048576:=of_decide_eq_true h1;have:=Zav h0;subst this;simp only[bne_self_eq_false,cond_false];refine Zai (xs:=a) (λi (_:Unit)=>S144_0 a a (Int.ofNat i)) (λ_ _=>True) (λ_ _ _=>some ([[D.bool true]],[])) ?_ ?_ (a.length+1) () (by omega) trivial
 ·rintro _ _ f;refine(Zwj a a _ _ f _).trans ?_;simp only[Zaa,Zap,Nat.lt_irrefl,decide_false,cond_false];exact Zxf _
 ·rintro i _ hi _ f hf;refine(Zwj a a _ _ f _).trans ?_;simp only[Zaa,Zac,Zap,Zaq,Zab _ hi,hi,Zae (show i<4611686018427387904 by omega),decide_true,cond_true,Bool.and_self,Zas,bne_self_eq_false,cond_false]
  exact hf () trivial
def T144:Table:=(144,c144)::T154
theorem Zo9:Table.Sound prog Hx T144:=sa Zpj func144 (by kernel_rfl) (Zah λa=>Zah λb=>Zan λh=>⟨_,m144 a b h⟩)
def o117(a:Bridge)(b:Bridge):Bool×List Row×List Row:=(sameB a b&&(Bridge.small a),[[.bool (true)]],[])
def c117:Contract:=(cp zp4 λa=>cp zp4 λb=>c0 (o117 a b)) true
def e117(a:Bridge)(b:Bridge)(n:Nat):=evFn ⟨prog,Hx,117⟩ T144.call n f117 [zp4.row a,zp4.row b]
theorem r117(a:Bridge)(b:Bridge)(n:Nat):e117 a b n=bif Bridge.Id a !=Bridge.Id b then some ([[D.bool false]],[])else bif isS Port false (enS false (Bridge.Ports a))&&isS Port false (enS false (Bridge.Ports b))&&(sameB (deS Port (enS false (Bridge.Ports a))) (deS Port (enS false (Bridge.Ports b)))&&decide (length (deS Port (enS false (Bridge.Ports a)))≤1048576))then some ([[D.bool true]],[])else none:=by kernel_rfl
theorem m117(a:Bridge)(b:Bridge):(o117 a b).1=true→e117 a b 0=some (o117 a b).2:=by
 refine pm λhpre=>(r117 a b _).trans ?_;rw[Bool.and_eq_true]at hpre;obtain⟨h0,h1⟩:=hpre;have:=Zav h0;subst this;unfold Bridge.small at h1;try simp only[Bool.and_eq_true]at h1
 simp only[h1,bne_self_eq_false,cond_false,cond_true,Zas,Zak,Zad,Bool.and_self,Bool.and_true,Bool.true_and,Bool.not_true];try rfl
def T117:Table:=(117,c117)::T144
theorem Zoi:Table.Sound prog Hx T117:=sa Zo9 func117 (by kernel_rfl) (Zah λa=>Zah λb=>Zan λh=>⟨_,m117 a b h⟩)
def o72(a:List Bridge)(b:List Bridge):Bool×List Row×List Row:=(sameB a b&&((decide (a.length≤1048576)&&a.all Bridge.small)),[[.bool (true)]],[])
def zp7:Pa (List Bridge):=⟨λa=>[.sl false 2 (enS false a)],λr=>match r with|[.sl false 2 a]=>some (λt=>t&&isS Bridge false a,(deS Bridge a))|_=>none,by
 intro r f x h t ht;split at h
 ·cases h;simp only[Bool.and_eq_true]at ht;obtain⟨ht,h0⟩:=ht;obtain⟨_,rfl⟩:=Zay h0;exact⟨ht,by simp only[Zad]⟩
 ·cases h⟩
def c72:Contract:=(cp zp7 λa=>cp zp7 λb=>c0 (o72 a b)) true
def k72_0:KT:=λn↦kThen (λst↦rC 72 T117 n f72 [1,1,1] 16 [] 16 st (lV f72 [] [])) (lV f72 [] [])
def k72_1:KT:=λn↦kBlock (0) (k72_0 n)
def S72_0(a:List Bridge)(b:List Bridge)(i0:Int):St:=St.mk (V_ [C.d (D.sl false 2 (enS false a))]::V_ [C.d (D.sl false 2 (enS false b))]::U_::U_::U_::I_ i0::u_ 21 []) []
def B72_0:BT:=λn↦rC 72 T117 n f72 [1,1,0,1,0,0] 35 [(0,0)] 16
def X72_2:St:=St.mk (u_ 27 []) []
def y72_0(a:List Bridge)(i0:Int):=Bridge.mk (D.num (getD (getD (enS false a) (toNat i0) []) 0 D.dead)) (deS Port (D.rows (getD (getD (enS false a) (toNat i0) []) 1 D.dead)))
theorem Z1w(a:List Bridge)(b:List Bridge)(n:Nat)(i0:Int)(f:St→RR)(K:Ex→St→RR):B72_0 n (S72_0 a b i0) (kThen (λst↦f (St.head 0 35 134215728 st)) K)=bif decide (i0<ofNat (length (enS false a)))then bif decide (0≤i0)&&decide (i0<ofNat (length (enS false a)))then bif Leaf.fit false (Leaf.int i64) (getD (getD (enS false a) (toNat i0) []) 0 D.dead)&&(Leaf.fit false (Leaf.sl 11 true) (getD (getD (enS false a) (toNat i0) []) 1 D.dead)&&true)then bif decide (0≤i0)&&decide (i0<ofNat (length (enS false b)))then bif Leaf.fit false (Leaf.int i64) (getD (getD (enS false b) (toNat i0) []) 0 D.dead)&&(Leaf.fit false (Leaf.sl 11 true) (getD (getD (enS false b) (toNat i0) []) 1 D.dead)&&true)then bif isS Port false (D.rows (getD (getD (enS false a) (toNat i0) []) 1 D.dead))&&isS Port false (D.rows (getD (getD (enS false b) (toNat i0) []) 1 D.dead))&&(sameB (y72_0 a i0) (Bridge.mk (D.num (getD (getD (enS false b) (toNat i0) []) 0 D.dead)) (deS Port (D.rows (getD (getD (enS false b) (toNat i0) []) 1 D.dead))))&&Bridge.small (y72_0 a i0))then f (S72_0 a b (wrap i64 (i0+1)))else none else none else none else none else none else K (Ex.exit 0) X72_2:=by kernel_rfl
theorem Zzr(n:Nat):k72_1 n (Ex.exit 0) X72_2=some ([[D.bool true]],[]):=by kernel_rfl
def e72(a:List Bridge)(b:List Bridge)(n:Nat):=evFn ⟨prog,Hx,72⟩ T117.call n f72 [zp7.row a,zp7.row b]
theorem r72(a:List Bridge)(b:List Bridge)(n:Nat):e72 a b n=bif ofNat (length (enS false a)) !=ofNat (length (enS false b))then some ([[D.bool false]],[])else loopRun (B72_0 n) 0 35 134215728 n (S72_0 a b (0)) (k72_1 n):=by kernel_rfl
theorem m72(a:List Bridge)(b:List Bridge):(o72 a b).1=true→e72 a b (a.length+1)=some (o72 a b).2:=by
 refine pm λhpre=>(r72 a b _).trans ?_;rw[Bool.and_eq_true,Bool.and_eq_true]at hpre;obtain⟨h0,h1,h2⟩:=hpre;have hlen:=of_decide_eq_true h1;have:=Zav h0;subst this;simp only[bne_self_eq_false,cond_false];refine Zai (xs:=a) (λi (_:Unit)=>S72_0 a a (Int.ofNat i)) (λ_ _=>True) (λ_ _ _=>some ([[D.bool true]],[])) ?_ ?_ (a.length+1) () (by omega) trivial
 ·rintro _ _ f;refine(Z1w a a _ _ f _).trans ?_;delta y72_0;rw[Zaw,cond_false];exact Zzr _
 ·rintro i _ hi _ f hf;refine(Z1w a a _ _ f _).trans ?_;delta y72_0;have hel:=List.all_eq_true.1 h2 _ (List.getElem_mem hi);simp only[gos,En.enc,D.num,D.flag,D.text,D.rows,Leaf.fit,Zbo,Zab _ hi,hi,Zae (show i<4611686018427387904 by omega),hel,Zas]
  exact hf () trivial
def T72:Table:=(72,c72)::T117
theorem Zr0:Table.Sound prog Hx T72:=sa Zoi func72 (by kernel_rfl) (Zah λa=>Zah λb=>Zan λh=>⟨_,m72 a b h⟩)
def o38(a:List UInt8)(b:List UInt8):Bool×List Row×List Row:=(sameB a b&&(decide (a.length≤1048576)),[[.bool (true)]],[])
def zp8:Pa (List UInt8):=⟨λa=>[.sl false 1 (enS false a)],λr=>match r with|[.sl false 1 a]=>some (λt=>t&&isS UInt8 false a,(deS UInt8 a))|_=>none,by
 intro r f x h t ht;split at h
 ·cases h;simp only[Bool.and_eq_true]at ht;obtain⟨ht,h0⟩:=ht;obtain⟨_,rfl⟩:=Zay h0;exact⟨ht,by simp only[Zad]⟩
 ·cases h⟩
def c38:Contract:=(cp zp8 λa=>cp zp8 λb=>c0 (o38 a b)) true
def k38_0:KT:=λn↦kThen (λst↦rC 38 T72 n f38 [1,1,1] 16 [] 16 st (lV f38 [] [])) (lV f38 [] [])
def k38_1:KT:=λn↦kBlock (0) (k38_0 n)
def S38_0(a:List UInt8)(b:List UInt8)(i0:Int):St:=St.mk (V_ [C.d (D.sl false 1 (enS false a))]::V_ [C.d (D.sl false 1 (enS false b))]::U_::U_::U_::I_ i0::u_ 20 []) []
def B38_0:BT:=λn↦rC 38 T72 n f38 [1,1,0,1,0,0] 35 [(0,0)] 16
def X38_2:St:=St.mk (u_ 4 (B_ false::u_ 21 [])) []
def X38_3:St:=St.mk (u_ 26 []) []
theorem Z09(a:List UInt8)(b:List UInt8)(n:Nat)(i0:Int)(f:St→RR)(K:Ex→St→RR):B38_0 n (S38_0 a b i0) (kThen (λst↦f (St.head 0 35 67106864 st)) K)=bif decide (i0<ofNat (length (enS false a)))then bif decide (0≤i0)&&decide (i0<ofNat (length (enS false a)))then bif Leaf.fit false (Leaf.int IntKind.u8) (getD (getD (enS false a) (toNat i0) []) 0 D.dead)&&true then bif decide (0≤i0)&&decide (i0<ofNat (length (enS false b)))then bif Leaf.fit false (Leaf.int IntKind.u8) (getD (getD (enS false b) (toNat i0) []) 0 D.dead)&&true then bif D.num (getD (getD (enS false a) (toNat i0) []) 0 D.dead) !=D.num (getD (getD (enS false b) (toNat i0) []) 0 D.dead)then K Ex.ret X38_2 else f (S38_0 a b (wrap i64 (i0+1)))else none else none else none else none else K (Ex.exit 0) X38_3:=by kernel_rfl
theorem aX38_2(n:Nat):k38_1 n Ex.ret X38_2=some ([[D.bool false]],[]):=by kernel_rfl
theorem Zyv(n:Nat):k38_1 n (Ex.exit 0) X38_3=some ([[D.bool true]],[]):=by kernel_rfl
def e38(a:List UInt8)(b:List UInt8)(n:Nat):=evFn ⟨prog,Hx,38⟩ T72.call n f38 [zp8.row a,zp8.row b]
theorem r38(a:List UInt8)(b:List UInt8)(n:Nat):e38 a b n=bif ofNat (length (enS false a)) !=ofNat (length (enS false b))then some ([[D.bool false]],[])else loopRun (B38_0 n) 0 35 67106864 n (S38_0 a b (0)) (k38_1 n):=by kernel_rfl
theorem m38(a:List UInt8)(b:List UInt8):(o38 a b).1=true→e38 a b (a.length+1)=some (o38 a b).2:=by
 refine pm λhpre=>(r38 a b _).trans ?_;rw[Bool.and_eq_true]at hpre;obtain⟨h0,h1⟩:=hpre;have hlen:a.length≤1048576:=of_decide_eq_true h1;have:=Zav h0;subst this;simp only[bne_self_eq_false,cond_false];refine Zai (xs:=a) (λi (_:Unit)=>S38_0 a a (Int.ofNat i)) (λ_ _=>True) (λ_ _ _=>some ([[D.bool true]],[])) ?_ ?_ (a.length+1) () (by omega) trivial
 ·rintro _ _ f;refine(Z09 a a _ _ f _).trans ?_;simp only[Zaa,Zap,Nat.lt_irrefl,decide_false,cond_false];exact Zyv _
 ·rintro i _ hi _ f hf;refine(Z09 a a _ _ f _).trans ?_;simp only[Zaa,Zac,Zap,Zaq,Zab _ hi,hi,Zae (show i<4611686018427387904 by omega),decide_true,cond_true,Bool.and_self,Zas,bne_self_eq_false,cond_false]
  exact hf () trivial
def T38:Table:=(38,c38)::T72
theorem Zq2:Table.Sound prog Hx T38:=sa Zr0 func38 (by kernel_rfl) (Zah λa=>Zah λb=>Zan λh=>⟨_,m38 a b h⟩)
def o155(a:List Int)(b:List Int):Bool×List Row×List Row:=(sameB a b&&(decide (a.length≤1048576)),[[.bool (true)]],[])
def zp9:Pa (List Int):=⟨λa=>[.sl false 1 (enS false a)],λr=>match r with|[.sl false 1 a]=>some (λt=>t&&isS Int false a,(deS Int a))|_=>none,by
 intro r f x h t ht;split at h
 ·cases h;simp only[Bool.and_eq_true]at ht;obtain⟨ht,h0⟩:=ht;obtain⟨_,rfl⟩:=Zay h0;exact⟨ht,by simp only[Zad]⟩
 ·cases h⟩
def c155:Contract:=(cp zp9 λa=>cp zp9 λb=>c0 (o155 a b)) true
def k155_0:KT:=λn↦kThen (λst↦rC 155 T38 n f155 [1,1,1] 16 [] 16 st (lV f155 [] [])) (lV f155 [] [])
def k155_1:KT:=λn↦kBlock (0) (k155_0 n)
def S155_0(a:List Int)(b:List Int)(i0:Int):St:=St.mk (V_ [C.d (D.sl false 1 (enS false a))]::V_ [C.d (D.sl false 1 (enS false b))]::U_::U_::U_::I_ i0::u_ 20 []) []
def B155_0:BT:=λn↦rC 155 T38 n f155 [1,1,0,1,0,0] 35 [(0,0)] 16
def X155_2:St:=St.mk (u_ 4 (B_ false::u_ 21 [])) []
def X155_3:St:=St.mk (u_ 26 []) []
theorem Zwl(a:List Int)(b:List Int)(n:Nat)(i0:Int)(f:St→RR)(K:Ex→St→RR):B155_0 n (S155_0 a b i0) (kThen (λst↦f (St.head 0 35 67106864 st)) K)=bif decide (i0<ofNat (length (enS false a)))then bif decide (0≤i0)&&decide (i0<ofNat (length (enS false a)))then bif Leaf.fit false (Leaf.int i64) (getD (getD (enS false a) (toNat i0) []) 0 D.dead)&&true then bif decide (0≤i0)&&decide (i0<ofNat (length (enS false b)))then bif Leaf.fit false (Leaf.int i64) (getD (getD (enS false b) (toNat i0) []) 0 D.dead)&&true then bif D.num (getD (getD (enS false a) (toNat i0) []) 0 D.dead) !=D.num (getD (getD (enS false b) (toNat i0) []) 0 D.dead)then K Ex.ret X155_2 else f (S155_0 a b (wrap i64 (i0+1)))else none else none else none else none else K (Ex.exit 0) X155_3:=by kernel_rfl
theorem Z2x(n:Nat):k155_1 n Ex.ret X155_2=some ([[D.bool false]],[]):=by kernel_rfl
theorem Zxh(n:Nat):k155_1 n (Ex.exit 0) X155_3=some ([[D.bool true]],[]):=by kernel_rfl
def e155(a:List Int)(b:List Int)(n:Nat):=evFn ⟨prog,Hx,155⟩ T38.call n f155 [zp9.row a,zp9.row b]
theorem r155(a:List Int)(b:List Int)(n:Nat):e155 a b n=bif ofNat (length (enS false a)) !=ofNat (length (enS false b))then some ([[D.bool false]],[])else loopRun (B155_0 n) 0 35 67106864 n (S155_0 a b (0)) (k155_1 n):=by kernel_rfl
theorem m155(a:List Int)(b:List Int):(o155 a b).1=true→e155 a b (a.length+1)=some (o155 a b).2:=by
 refine pm λhpre=>(r155 a b _).trans ?_;rw[Bool.and_eq_true]at hpre;obtain⟨h0,h1⟩:=hpre;have hlen:a.length≤1048576:=of_decide_eq_true h1;have:=Zav h0;subst this;simp only[bne_self_eq_false,cond_false];refine Zai (xs:=a) (λi (_:Unit)=>S155_0 a a (Int.ofNat i)) (λ_ _=>True) (λ_ _ _=>some ([[D.bool true]],[])) ?_ ?_ (a.length+1) () (by omega) trivial
 ·rintro _ _ f;refine(Zwl a a _ _ f _).trans ?_;simp only[Zaa,Zap,Nat.lt_irrefl,decide_false,cond_false];exact Zxh _
 ·rintro i _ hi _ f hf;refine(Zwl a a _ _ f _).trans ?_;simp only[Zaa,Zac,Zap,Zaq,Zab _ hi,hi,Zae (show i<4611686018427387904 by omega),decide_true,cond_true,Bool.and_self,Zas,bne_self_eq_false,cond_false]
  exact hf () trivial
def T155:Table:=(155,c155)::T38
theorem Zpk:Table.Sound prog Hx T155:=sa Zq2 func155 (by kernel_rfl) (Zah λa=>Zah λb=>Zan λh=>⟨_,m155 a b h⟩)
def o145(a:Member)(b:Member):Bool×List Row×List Row:=(sameB a b&&(Member.small a),[[.bool (true)]],[])
def zp10:Pa (Member):=⟨λa=>[.int .i64 a.Own,.sl false 1 (enS false a.In)],λr=>match r with|[.int .i64 a_Own,.sl false 1 a_In]=>some (λt=>t&&isS Int false a_In,⟨a_Own,(deS Int a_In)⟩)|_=>none,by
 intro r f x h t ht;split at h
 ·cases h;simp only[Bool.and_eq_true]at ht;obtain⟨ht,h0⟩:=ht;obtain⟨_,rfl⟩:=Zay h0;exact⟨ht,by simp only[Zad]⟩
 ·cases h⟩
def c145:Contract:=(cp zp10 λa=>cp zp10 λb=>c0 (o145 a b)) true
def e145(a:Member)(b:Member)(n:Nat):=evFn ⟨prog,Hx,145⟩ T155.call n f145 [zp10.row a,zp10.row b]
theorem r145(a:Member)(b:Member)(n:Nat):e145 a b n=bif Member.Own a !=Member.Own b then some ([[D.bool false]],[])else bif isS Int false (enS false (Member.In a))&&isS Int false (enS false (Member.In b))&&(sameB (deS Int (enS false (Member.In a))) (deS Int (enS false (Member.In b)))&&decide (length (deS Int (enS false (Member.In a)))≤1048576))then some ([[D.bool true]],[])else none:=by kernel_rfl
theorem m145(a:Member)(b:Member):(o145 a b).1=true→e145 a b 0=some (o145 a b).2:=by
 refine pm λhpre=>(r145 a b _).trans ?_;rw[Bool.and_eq_true]at hpre;obtain⟨h0,h1⟩:=hpre;have:=Zav h0;subst this;unfold Member.small at h1;try simp only[Bool.and_eq_true]at h1
 simp only[h1,bne_self_eq_false,cond_false,cond_true,Zas,Zak,Zad,Bool.and_self,Bool.and_true,Bool.true_and,Bool.not_true];try rfl
def T145:Table:=(145,c145)::T155
theorem Zpa:Table.Sound prog Hx T145:=sa Zpk func145 (by kernel_rfl) (Zah λa=>Zah λb=>Zan λh=>⟨_,m145 a b h⟩)
def o120(a:List Member)(b:List Member):Bool×List Row×List Row:=(sameB a b&&((decide (a.length≤1048576)&&a.all Member.small)),[[.bool (true)]],[])
def zp11:Pa (List Member):=⟨λa=>[.sl false 2 (enS false a)],λr=>match r with|[.sl false 2 a]=>some (λt=>t&&isS Member false a,(deS Member a))|_=>none,by
 intro r f x h t ht;split at h
 ·cases h;simp only[Bool.and_eq_true]at ht;obtain⟨ht,h0⟩:=ht;obtain⟨_,rfl⟩:=Zay h0;exact⟨ht,by simp only[Zad]⟩
 ·cases h⟩
def c120:Contract:=(cp zp11 λa=>cp zp11 λb=>c0 (o120 a b)) true
def k120_0:KT:=λn↦kThen (λst↦rC 120 T145 n f120 [1,1,1] 16 [] 16 st (lV f120 [] [])) (lV f120 [] [])
def k120_1:KT:=λn↦kBlock (0) (k120_0 n)
def S120_0(a:List Member)(b:List Member)(i0:Int):St:=St.mk (V_ [C.d (D.sl false 2 (enS false a))]::V_ [C.d (D.sl false 2 (enS false b))]::U_::U_::U_::I_ i0::u_ 21 []) []
def B120_0:BT:=λn↦rC 120 T145 n f120 [1,1,0,1,0,0] 35 [(0,0)] 16
def X120_2:St:=St.mk (u_ 27 []) []
def y120_0(a:List Member)(i0:Int):=Member.mk (D.num (getD (getD (enS false a) (toNat i0) []) 0 D.dead)) (deS Int (D.rows (getD (getD (enS false a) (toNat i0) []) 1 D.dead)))
theorem Zv5(a:List Member)(b:List Member)(n:Nat)(i0:Int)(f:St→RR)(K:Ex→St→RR):B120_0 n (S120_0 a b i0) (kThen (λst↦f (St.head 0 35 134215728 st)) K)=bif decide (i0<ofNat (length (enS false a)))then bif decide (0≤i0)&&decide (i0<ofNat (length (enS false a)))then bif Leaf.fit false (Leaf.int i64) (getD (getD (enS false a) (toNat i0) []) 0 D.dead)&&(Leaf.fit false (Leaf.sl 1 true) (getD (getD (enS false a) (toNat i0) []) 1 D.dead)&&true)then bif decide (0≤i0)&&decide (i0<ofNat (length (enS false b)))then bif Leaf.fit false (Leaf.int i64) (getD (getD (enS false b) (toNat i0) []) 0 D.dead)&&(Leaf.fit false (Leaf.sl 1 true) (getD (getD (enS false b) (toNat i0) []) 1 D.dead)&&true)then bif isS Int false (D.rows (getD (getD (enS false a) (toNat i0) []) 1 D.dead))&&isS Int false (D.rows (getD (getD (enS false b) (toNat i0) []) 1 D.dead))&&(sameB (y120_0 a i0) (Member.mk (D.num (getD (getD (enS false b) (toNat i0) []) 0 D.dead)) (deS Int (D.rows (getD (getD (enS false b) (toNat i0) []) 1 D.dead))))&&Member.small (y120_0 a i0))then f (S120_0 a b (wrap i64 (i0+1)))else none else none else none else none else none else K (Ex.exit 0) X120_2:=by kernel_rfl
theorem Zw1(n:Nat):k120_1 n (Ex.exit 0) X120_2=some ([[D.bool true]],[]):=by kernel_rfl
def e120(a:List Member)(b:List Member)(n:Nat):=evFn ⟨prog,Hx,120⟩ T145.call n f120 [zp11.row a,zp11.row b]
theorem r120(a:List Member)(b:List Member)(n:Nat):e120 a b n=bif ofNat (length (enS false a)) !=ofNat (length (enS false b))then some ([[D.bool false]],[])else loopRun (B120_0 n) 0 35 134215728 n (S120_0 a b (0)) (k120_1 n):=by kernel_rfl
theorem m120(a:List Member)(b:List Member):(o120 a b).1=true→e120 a b (a.length+1)=some (o120 a b).2:=by
 refine pm λhpre=>(r120 a b _).trans ?_;rw[Bool.and_eq_true,Bool.and_eq_true]at hpre;obtain⟨h0,h1,h2⟩:=hpre;have hlen:=of_decide_eq_true h1;have:=Zav h0;subst this;simp only[bne_self_eq_false,cond_false];refine Zai (xs:=a) (λi (_:Unit)=>S120_0 a a (Int.ofNat i)) (λ_ _=>True) (λ_ _ _=>some ([[D.bool true]],[])) ?_ ?_ (a.length+1) () (by omega) trivial
 ·rintro _ _ f;refine(Zv5 a a _ _ f _).trans ?_;delta y120_0;rw[Zaw,cond_false];exact Zw1 _
 ·rintro i _ hi _ f hf;refine(Zv5 a a _ _ f _).trans ?_;delta y120_0;have hel:=List.all_eq_true.1 h2 _ (List.getElem_mem hi);simp only[gos,En.enc,D.num,D.flag,D.text,D.rows,Leaf.fit,Zbo,Zab _ hi,hi,Zae (show i<4611686018427387904 by omega),hel,Zas]
  exact hf () trivial
def T120:Table:=(120,c120)::T145
theorem Zol:Table.Sound prog Hx T120:=sa Zpa func120 (by kernel_rfl) (Zah λa=>Zah λb=>Zan λh=>⟨_,m120 a b h⟩)
def o146(a:Heard)(b:Heard):Bool×List Row×List Row:=(sameB a b,[[.bool (true)]],[])
def zp12:Pa (Heard):=⟨λa=>[.int .i64 a.Addr,.int .i64 a.Vlan,.int .i64 a.Port,.int .i64 a.Left],λr=>match r with|[.int .i64 a_Addr,.int .i64 a_Vlan,.int .i64 a_Port,.int .i64 a_Left]=>some (λt=>t,⟨a_Addr,a_Vlan,a_Port,a_Left⟩)|_=>none,by
 intro r f x h t ht;split at h
 ·cases h;exact⟨ht,rfl⟩
 ·cases h⟩
def c146:Contract:=(cp zp12 λa=>cp zp12 λb=>c0 (o146 a b)) true
def e146(a:Heard)(b:Heard)(n:Nat):=evFn ⟨prog,Hx,146⟩ T120.call n f146 [zp12.row a,zp12.row b]
theorem r146(a:Heard)(b:Heard)(n:Nat):e146 a b n=bif Heard.Addr a !=Heard.Addr b then some ([[D.bool false]],[])else bif Heard.Vlan a !=Heard.Vlan b then some ([[D.bool false]],[])else bif Heard.Port a !=Heard.Port b then some ([[D.bool false]],[])else bif Heard.Left a !=Heard.Left b then some ([[D.bool false]],[])else some ([[D.bool true]],[]):=by kernel_rfl
theorem m146(a:Heard)(b:Heard):(o146 a b).1=true→e146 a b 0=some (o146 a b).2:=by
 refine pm λhpre=>(r146 a b _).trans ?_;have:=Zav hpre;subst this;simp only[bne_self_eq_false,cond_false,Zas,cond_true,Bool.not_true]
def T146:Table:=(146,c146)::T120
theorem Zpb:Table.Sound prog Hx T146:=sa Zol func146 (by kernel_rfl) (Zah λa=>Zah λb=>Zan λh=>⟨_,m146 a b h⟩)
def o121(a:List Heard)(b:List Heard):Bool×List Row×List Row:=(sameB a b&&(decide (a.length≤1048576)),[[.bool (true)]],[])
def zp13:Pa (List Heard):=⟨λa=>[.sl false 4 (enS false a)],λr=>match r with|[.sl false 4 a]=>some (λt=>t&&isS Heard false a,(deS Heard a))|_=>none,by
 intro r f x h t ht;split at h
 ·cases h;simp only[Bool.and_eq_true]at ht;obtain⟨ht,h0⟩:=ht;obtain⟨_,rfl⟩:=Zay h0;exact⟨ht,by simp only[Zad]⟩
 ·cases h⟩
def c121:Contract:=(cp zp13 λa=>cp zp13 λb=>c0 (o121 a b)) true
def k121_0:KT:=λn↦kThen (λst↦rC 121 T146 n f121 [1,1,1] 16 [] 16 st (lV f121 [] [])) (lV f121 [] [])
def k121_1:KT:=λn↦kBlock (0) (k121_0 n)
def S121_0(a:List Heard)(b:List Heard)(i0:Int):St:=St.mk (V_ [C.d (D.sl false 4 (enS false a))]::V_ [C.d (D.sl false 4 (enS false b))]::U_::U_::U_::I_ i0::u_ 21 []) []
def B121_0:BT:=λn↦rC 121 T146 n f121 [1,1,0,1,0,0] 35 [(0,0)] 16
def X121_2:St:=St.mk (u_ 27 []) []
theorem Zv6(a:List Heard)(b:List Heard)(n:Nat)(i0:Int)(f:St→RR)(K:Ex→St→RR):B121_0 n (S121_0 a b i0) (kThen (λst↦f (St.head 0 35 134215728 st)) K)=bif decide (i0<ofNat (length (enS false a)))then bif decide (0≤i0)&&decide (i0<ofNat (length (enS false a)))then bif Leaf.fit false (Leaf.int i64) (getD (getD (enS false a) (toNat i0) []) 0 D.dead)&&(Leaf.fit false (Leaf.int i64) (getD (getD (enS false a) (toNat i0) []) 1 D.dead)&&(Leaf.fit false (Leaf.int i64) (getD (getD (enS false a) (toNat i0) []) 2 D.dead)&&(Leaf.fit false (Leaf.int i64) (getD (getD (enS false a) (toNat i0) []) 3 D.dead)&&true)))then bif decide (0≤i0)&&decide (i0<ofNat (length (enS false b)))then bif Leaf.fit false (Leaf.int i64) (getD (getD (enS false b) (toNat i0) []) 0 D.dead)&&(Leaf.fit false (Leaf.int i64) (getD (getD (enS false b) (toNat i0) []) 1 D.dead)&&(Leaf.fit false (Leaf.int i64) (getD (getD (enS false b) (toNat i0) []) 2 D.dead)&&(Leaf.fit false (Leaf.int i64) (getD (getD (enS false b) (toNat i0) []) 3 D.dead)&&true)))then bif sameB (Heard.mk (D.num (getD (getD (enS false a) (toNat i0) []) 0 D.dead)) (D.num (getD (getD (enS false a) (toNat i0) []) 1 D.dead)) (D.num (getD (getD (enS false a) (toNat i0) []) 2 D.dead)) (D.num (getD (getD (enS false a) (toNat i0) []) 3 D.dead))) (Heard.mk (D.num (getD (getD (enS false b) (toNat i0) []) 0 D.dead)) (D.num (getD (getD (enS false b) (toNat i0) []) 1 D.dead)) (D.num (getD (getD (enS false b) (toNat i0) []) 2 D.dead)) (D.num (getD (getD (enS false b) (toNat i0) []) 3 D.dead)))then f (S121_0 a b (wrap i64 (i0+1)))else none else none else none else none else none else K (Ex.exit 0) X121_2:=by kernel_rfl
theorem Zw2(n:Nat):k121_1 n (Ex.exit 0) X121_2=some ([[D.bool true]],[]):=by kernel_rfl
def e121(a:List Heard)(b:List Heard)(n:Nat):=evFn ⟨prog,Hx,121⟩ T146.call n f121 [zp13.row a,zp13.row b]
theorem r121(a:List Heard)(b:List Heard)(n:Nat):e121 a b n=bif ofNat (length (enS false a)) !=ofNat (length (enS false b))then some ([[D.bool false]],[])else loopRun (B121_0 n) 0 35 134215728 n (S121_0 a b (0)) (k121_1 n):=by kernel_rfl
theorem m121(a:List Heard)(b:List Heard):(o121 a b).1=true→e121 a b (a.length+1)=some (o121 a b).2:=by
 refine pm λhpre=>(r121 a b _).trans ?_;rw[Bool.and_eq_true]at hpre;obtain⟨h0,h1⟩:=hpre;have hlen:a.length≤1048576:=of_decide_eq_true h1;have:=Zav h0;subst this;simp only[bne_self_eq_false,cond_false];refine Zai (xs:=a) (λi (_:Unit)=>S121_0 a a (Int.ofNat i)) (λ_ _=>True) (λ_ _ _=>some ([[D.bool true]],[])) ?_ ?_ (a.length+1) () (by omega) trivial
 ·rintro _ _ f;refine(Zv6 a a _ _ f _).trans ?_;simp only[Zaa,Zap,Nat.lt_irrefl,decide_false,cond_false];exact Zw2 _
 ·rintro i _ hi _ f hf;refine(Zv6 a a _ _ f _).trans ?_;simp only[Zaa,Zac,Zap,Zaq,Zab _ hi,hi,Zae (show i<4611686018427387904 by omega),decide_true,cond_true,Bool.and_self,Zas,bne_self_eq_false,cond_false]
  exact hf () trivial
def T121:Table:=(121,c121)::T146
theorem Zom:Table.Sound prog Hx T121:=sa Zpb func121 (by kernel_rfl) (Zah λa=>Zah λb=>Zan λh=>⟨_,m121 a b h⟩)
def o74(a:Card)(b:Card):Bool×List Row×List Row:=(sameB a b&&(Card.small a),[[.bool (true)]],[])
def zp14:Pa (Card):=⟨λa=>[.sl false 1 (enS false a.Open),.sl false 2 (enS false a.Members),.sl false 4 (enS false a.Table)],λr=>match r with|[.sl false 1 a_Open,.sl false 2 a_Members,.sl false 4 a_Table]=>some (λt=>t&&isS Bool false a_Open&&isS Member false a_Members&&isS Heard false a_Table,⟨(deS Bool a_Open),(deS Member a_Members),(deS Heard a_Table)⟩)|_=>none,by
 intro r f x h t ht;split at h
 ·cases h;simp only[Bool.and_eq_true]at ht;obtain⟨⟨⟨ht,h0⟩,h1⟩,h2⟩:=ht;obtain⟨_,rfl⟩:=Zay h0;obtain⟨_,rfl⟩:=Zay h1;obtain⟨_,rfl⟩:=Zay h2;exact⟨ht,by simp only[Zad]⟩
 ·cases h⟩
def c74:Contract:=(cp zp14 λa=>cp zp14 λb=>c0 (o74 a b)) true
def e74(a:Card)(b:Card)(n:Nat):=evFn ⟨prog,Hx,74⟩ T121.call n f74 [zp14.row a,zp14.row b]
theorem r74(a:Card)(b:Card)(n:Nat):e74 a b n=bif isS Bool false (enS false (Card.Open a))&&isS Bool false (enS false (Card.Open b))&&(sameB (deS Bool (enS false (Card.Open a))) (deS Bool (enS false (Card.Open b)))&&decide (length (deS Bool (enS false (Card.Open a)))≤1048576))then bif isS Member false (enS false (Card.Members a))&&isS Member false (enS false (Card.Members b))&&(sameB (deS Member (enS false (Card.Members a))) (deS Member (enS false (Card.Members b)))&&(decide (length (deS Member (enS false (Card.Members a)))≤1048576)&&all (deS Member (enS false (Card.Members a))) Member.small))then bif isS Heard false (enS false (Card.Table a))&&isS Heard false (enS false (Card.Table b))&&(sameB (deS Heard (enS false (Card.Table a))) (deS Heard (enS false (Card.Table b)))&&decide (length (deS Heard (enS false (Card.Table a)))≤1048576))then some ([[D.bool true]],[])else none else none else none:=by kernel_rfl
theorem m74(a:Card)(b:Card):(o74 a b).1=true→e74 a b 0=some (o74 a b).2:=by
 refine pm λhpre=>(r74 a b _).trans ?_;rw[Bool.and_eq_true]at hpre;obtain⟨h0,h1⟩:=hpre;have:=Zav h0;subst this;unfold Card.small at h1;try simp only[Bool.and_eq_true]at h1
 simp only[h1,bne_self_eq_false,cond_false,cond_true,Zas,Zak,Zad,Bool.and_self,Bool.and_true,Bool.true_and,Bool.not_true];try rfl
def T74:Table:=(74,c74)::T121
theorem Zr2:Table.Sound prog Hx T74:=sa Zom func74 (by kernel_rfl) (Zah λa=>Zah λb=>Zan λh=>⟨_,m74 a b h⟩)
def o36(a:List Card)(b:List Card):Bool×List Row×List Row:=(sameB a b&&((decide (a.length≤1048576)&&a.all Card.small)),[[.bool (true)]],[])
def zp15:Pa (List Card):=⟨λa=>[.sl false 3 (enS false a)],λr=>match r with|[.sl false 3 a]=>some (λt=>t&&isS Card false a,(deS Card a))|_=>none,by
 intro r f x h t ht;split at h
 ·cases h;simp only[Bool.and_eq_true]at ht;obtain⟨ht,h0⟩:=ht;obtain⟨_,rfl⟩:=Zay h0;exact⟨ht,by simp only[Zad]⟩
 ·cases h⟩
def c36:Contract:=(cp zp15 λa=>cp zp15 λb=>c0 (o36 a b)) true
def k36_0:KT:=λn↦kThen (λst↦rC 36 T74 n f36 [1,1,1] 16 [] 16 st (lV f36 [] [])) (lV f36 [] [])
def k36_1:KT:=λn↦kBlock (0) (k36_0 n)
def S36_0(a:List Card)(b:List Card)(i0:Int):St:=St.mk (V_ [C.d (D.sl false 3 (enS false a))]::V_ [C.d (D.sl false 3 (enS false b))]::U_::U_::U_::I_ i0::u_ 21 []) []
def B36_0:BT:=λn↦rC 36 T74 n f36 [1,1,0,1,0,0] 35 [(0,0)] 16
def X36_2:St:=St.mk (u_ 27 []) []
def y36_0(a:List Card)(i0:Int):=Card.mk (deS Bool (D.rows (getD (getD (enS false a) (toNat i0) []) 0 D.dead))) (deS Member (D.rows (getD (getD (enS false a) (toNat i0) []) 1 D.dead))) (deS Heard (D.rows (getD (getD (enS false a) (toNat i0) []) 2 D.dead)))
theorem Z08(a:List Card)(b:List Card)(n:Nat)(i0:Int)(f:St→RR)(K:Ex→St→RR):B36_0 n (S36_0 a b i0) (kThen (λst↦f (St.head 0 35 134215728 st)) K)=bif decide (i0<ofNat (length (enS false a)))then bif decide (0≤i0)&&decide (i0<ofNat (length (enS false a)))then bif Leaf.fit false (Leaf.sl 1 true) (getD (getD (enS false a) (toNat i0) []) 0 D.dead)&&(Leaf.fit false (Leaf.sl 2 false) (getD (getD (enS false a) (toNat i0) []) 1 D.dead)&&(Leaf.fit false (Leaf.sl 4 true) (getD (getD (enS false a) (toNat i0) []) 2 D.dead)&&true))then bif decide (0≤i0)&&decide (i0<ofNat (length (enS false b)))then bif Leaf.fit false (Leaf.sl 1 true) (getD (getD (enS false b) (toNat i0) []) 0 D.dead)&&(Leaf.fit false (Leaf.sl 2 false) (getD (getD (enS false b) (toNat i0) []) 1 D.dead)&&(Leaf.fit false (Leaf.sl 4 true) (getD (getD (enS false b) (toNat i0) []) 2 D.dead)&&true))then bif isS Bool false (D.rows (getD (getD (enS false a) (toNat i0) []) 0 D.dead))&&isS Member false (D.rows (getD (getD (enS false a) (toNat i0) []) 1 D.dead))&&isS Heard false (D.rows (getD (getD (enS false a) (toNat i0) []) 2 D.dead))&&isS Bool false (D.rows (getD (getD (enS false b) (toNat i0) []) 0 D.dead))&&isS Member false (D.rows (getD (getD (enS false b) (toNat i0) []) 1 D.dead))&&isS Heard false (D.rows (getD (getD (enS false b) (toNat i0) []) 2 D.dead))&&(sameB (y36_0 a i0) (Card.mk (deS Bool (D.rows (getD (getD (enS false b) (toNat i0) []) 0 D.dead))) (deS Member (D.rows (getD (getD (enS false b) (toNat i0) []) 1 D.dead))) (deS Heard (D.rows (getD (getD (enS false b) (toNat i0) []) 2 D.dead))))&&Card.small (y36_0 a i0))then f (S36_0 a b (wrap i64 (i0+1)))else none else none else none else none else none else K (Ex.exit 0) X36_2:=by kernel_rfl
theorem Zyu(n:Nat):k36_1 n (Ex.exit 0) X36_2=some ([[D.bool true]],[]):=by kernel_rfl
def e36(a:List Card)(b:List Card)(n:Nat):=evFn ⟨prog,Hx,36⟩ T74.call n f36 [zp15.row a,zp15.row b]
theorem r36(a:List Card)(b:List Card)(n:Nat):e36 a b n=bif ofNat (length (enS false a)) !=ofNat (length (enS false b))then some ([[D.bool false]],[])else loopRun (B36_0 n) 0 35 134215728 n (S36_0 a b (0)) (k36_1 n):=by kernel_rfl
theorem m36(a:List Card)(b:List Card):(o36 a b).1=true→e36 a b (a.length+1)=some (o36 a b).2:=by
 refine pm λhpre=>(r36 a b _).trans ?_;rw[Bool.and_eq_true,Bool.and_eq_true]at hpre;obtain⟨h0,h1,h2⟩:=hpre;have hlen:=of_decide_eq_true h1;have:=Zav h0;subst this;simp only[bne_self_eq_false,cond_false];refine Zai (xs:=a) (λi (_:Unit)=>S36_0 a a (Int.ofNat i)) (λ_ _=>True) (λ_ _ _=>some ([[D.bool true]],[])) ?_ ?_ (a.length+1) () (by omega) trivial
 ·rintro _ _ f;refine(Z08 a a _ _ f _).trans ?_;delta y36_0;rw[Zaw,cond_false];exact Zyu _
 ·rintro i _ hi _ f hf;refine(Z08 a a _ _ f _).trans ?_;delta y36_0;have hel:=List.all_eq_true.1 h2 _ (List.getElem_mem hi);simp only[gos,En.enc,D.num,D.flag,D.text,D.rows,Leaf.fit,Zbo,Zab _ hi,hi,Zae (show i<4611686018427387904 by omega),hel,Zas]
  exact hf () trivial
def T36:Table:=(36,c36)::T74
theorem Zq0:Table.Sound prog Hx T36:=sa Zr2 func36 (by kernel_rfl) (Zah λa=>Zah λb=>Zan λh=>⟨_,m36 a b h⟩)
def o118(a:Link)(b:Link):Bool×List Row×List Row:=(sameB a b,[[.bool (true)]],[])
def zp16:Pa (Link):=⟨λa=>[.int .i64 a.A,.int .i64 a.P,.int .i64 a.B,.int .i64 a.Q],λr=>match r with|[.int .i64 a_A,.int .i64 a_P,.int .i64 a_B,.int .i64 a_Q]=>some (λt=>t,⟨a_A,a_P,a_B,a_Q⟩)|_=>none,by
 intro r f x h t ht;split at h
 ·cases h;exact⟨ht,rfl⟩
 ·cases h⟩
def c118:Contract:=(cp zp16 λa=>cp zp16 λb=>c0 (o118 a b)) true
def e118(a:Link)(b:Link)(n:Nat):=evFn ⟨prog,Hx,118⟩ T36.call n f118 [zp16.row a,zp16.row b]
theorem r118(a:Link)(b:Link)(n:Nat):e118 a b n=bif Link.A a !=Link.A b then some ([[D.bool false]],[])else bif Link.P a !=Link.P b then some ([[D.bool false]],[])else bif Link.B a !=Link.B b then some ([[D.bool false]],[])else bif Link.Q a !=Link.Q b then some ([[D.bool false]],[])else some ([[D.bool true]],[]):=by kernel_rfl
theorem m118(a:Link)(b:Link):(o118 a b).1=true→e118 a b 0=some (o118 a b).2:=by
 refine pm λhpre=>(r118 a b _).trans ?_;have:=Zav hpre;subst this;simp only[bne_self_eq_false,cond_false,Zas,cond_true,Bool.not_true]
def T118:Table:=(118,c118)::T36
theorem Zoj:Table.Sound prog Hx T118:=sa Zq0 func118 (by kernel_rfl) (Zah λa=>Zah λb=>Zan λh=>⟨_,m118 a b h⟩)
def o73(a:List Link)(b:List Link):Bool×List Row×List Row:=(sameB a b&&(decide (a.length≤1048576)),[[.bool (true)]],[])
def zp17:Pa (List Link):=⟨λa=>[.sl false 4 (enS false a)],λr=>match r with|[.sl false 4 a]=>some (λt=>t&&isS Link false a,(deS Link a))|_=>none,by
 intro r f x h t ht;split at h
 ·cases h;simp only[Bool.and_eq_true]at ht;obtain⟨ht,h0⟩:=ht;obtain⟨_,rfl⟩:=Zay h0;exact⟨ht,by simp only[Zad]⟩
 ·cases h⟩
def c73:Contract:=(cp zp17 λa=>cp zp17 λb=>c0 (o73 a b)) true
def k73_0:KT:=λn↦kThen (λst↦rC 73 T118 n f73 [1,1,1] 16 [] 16 st (lV f73 [] [])) (lV f73 [] [])
def k73_1:KT:=λn↦kBlock (0) (k73_0 n)
def S73_0(a:List Link)(b:List Link)(i0:Int):St:=St.mk (V_ [C.d (D.sl false 4 (enS false a))]::V_ [C.d (D.sl false 4 (enS false b))]::U_::U_::U_::I_ i0::u_ 21 []) []
def B73_0:BT:=λn↦rC 73 T118 n f73 [1,1,0,1,0,0] 35 [(0,0)] 16
def X73_2:St:=St.mk (u_ 27 []) []
theorem Z1x(a:List Link)(b:List Link)(n:Nat)(i0:Int)(f:St→RR)(K:Ex→St→RR):B73_0 n (S73_0 a b i0) (kThen (λst↦f (St.head 0 35 134215728 st)) K)=bif decide (i0<ofNat (length (enS false a)))then bif decide (0≤i0)&&decide (i0<ofNat (length (enS false a)))then bif Leaf.fit false (Leaf.int i64) (getD (getD (enS false a) (toNat i0) []) 0 D.dead)&&(Leaf.fit false (Leaf.int i64) (getD (getD (enS false a) (toNat i0) []) 1 D.dead)&&(Leaf.fit false (Leaf.int i64) (getD (getD (enS false a) (toNat i0) []) 2 D.dead)&&(Leaf.fit false (Leaf.int i64) (getD (getD (enS false a) (toNat i0) []) 3 D.dead)&&true)))then bif decide (0≤i0)&&decide (i0<ofNat (length (enS false b)))then bif Leaf.fit false (Leaf.int i64) (getD (getD (enS false b) (toNat i0) []) 0 D.dead)&&(Leaf.fit false (Leaf.int i64) (getD (getD (enS false b) (toNat i0) []) 1 D.dead)&&(Leaf.fit false (Leaf.int i64) (getD (getD (enS false b) (toNat i0) []) 2 D.dead)&&(Leaf.fit false (Leaf.int i64) (getD (getD (enS false b) (toNat i0) []) 3 D.dead)&&true)))then bif sameB (Link.mk (D.num (getD (getD (enS false a) (toNat i0) []) 0 D.dead)) (D.num (getD (getD (enS false a) (toNat i0) []) 1 D.dead)) (D.num (getD (getD (enS false a) (toNat i0) []) 2 D.dead)) (D.num (getD (getD (enS false a) (toNat i0) []) 3 D.dead))) (Link.mk (D.num (getD (getD (enS false b) (toNat i0) []) 0 D.dead)) (D.num (getD (getD (enS false b) (toNat i0) []) 1 D.dead)) (D.num (getD (getD (enS false b) (toNat i0) []) 2 D.dead)) (D.num (getD (getD (enS false b) (toNat i0) []) 3 D.dead)))then f (S73_0 a b (wrap i64 (i0+1)))else none else none else none else none else none else K (Ex.exit 0) X73_2:=by kernel_rfl
theorem Zzs(n:Nat):k73_1 n (Ex.exit 0) X73_2=some ([[D.bool true]],[]):=by kernel_rfl
def e73(a:List Link)(b:List Link)(n:Nat):=evFn ⟨prog,Hx,73⟩ T118.call n f73 [zp17.row a,zp17.row b]
theorem r73(a:List Link)(b:List Link)(n:Nat):e73 a b n=bif ofNat (length (enS false a)) !=ofNat (length (enS false b))then some ([[D.bool false]],[])else loopRun (B73_0 n) 0 35 134215728 n (S73_0 a b (0)) (k73_1 n):=by kernel_rfl
theorem m73(a:List Link)(b:List Link):(o73 a b).1=true→e73 a b (a.length+1)=some (o73 a b).2:=by
 refine pm λhpre=>(r73 a b _).trans ?_;rw[Bool.and_eq_true]at hpre;obtain⟨h0,h1⟩:=hpre;have hlen:a.length≤1048576:=of_decide_eq_true h1;have:=Zav h0;subst this;simp only[bne_self_eq_false,cond_false];refine Zai (xs:=a) (λi (_:Unit)=>S73_0 a a (Int.ofNat i)) (λ_ _=>True) (λ_ _ _=>some ([[D.bool true]],[])) ?_ ?_ (a.length+1) () (by omega) trivial
 ·rintro _ _ f;refine(Z1x a a _ _ f _).trans ?_;simp only[Zaa,Zap,Nat.lt_irrefl,decide_false,cond_false];exact Zzs _
 ·rintro i _ hi _ f hf;refine(Z1x a a _ _ f _).trans ?_;simp only[Zaa,Zac,Zap,Zaq,Zab _ hi,hi,Zae (show i<4611686018427387904 by omega),decide_true,cond_true,Bool.and_self,Zas,bne_self_eq_false,cond_false]
  exact hf () trivial
def T73:Table:=(73,c73)::T118
theorem Zr1:Table.Sound prog Hx T73:=sa Zoj func73 (by kernel_rfl) (Zah λa=>Zah λb=>Zan λh=>⟨_,m73 a b h⟩)
def o35(a:Net)(b:Net):Bool×List Row×List Row:=(sameB a b&&(Net.small a),[[.bool (true)]],[])
def zp18:Pa (Net):=⟨λa=>[.sl false 2 (enS false a.Bridges),.sl false 4 (enS false a.Links)],λr=>match r with|[.sl false 2 a_Bridges,.sl false 4 a_Links]=>some (λt=>t&&isS Bridge false a_Bridges&&isS Link false a_Links,⟨(deS Bridge a_Bridges),(deS Link a_Links)⟩)|_=>none,by
 intro r f x h t ht;split at h
 ·cases h;simp only[Bool.and_eq_true]at ht;obtain⟨⟨ht,h0⟩,h1⟩:=ht;obtain⟨_,rfl⟩:=Zay h0;obtain⟨_,rfl⟩:=Zay h1;exact⟨ht,by simp only[Zad]⟩
 ·cases h⟩
def c35:Contract:=(cp zp18 λa=>cp zp18 λb=>c0 (o35 a b)) true
def e35(a:Net)(b:Net)(n:Nat):=evFn ⟨prog,Hx,35⟩ T73.call n f35 [zp18.row a,zp18.row b]
theorem r35(a:Net)(b:Net)(n:Nat):e35 a b n=bif isS Bridge false (enS false (Net.Bridges a))&&isS Bridge false (enS false (Net.Bridges b))&&(sameB (deS Bridge (enS false (Net.Bridges a))) (deS Bridge (enS false (Net.Bridges b)))&&(decide (length (deS Bridge (enS false (Net.Bridges a)))≤1048576)&&all (deS Bridge (enS false (Net.Bridges a))) Bridge.small))then bif isS Link false (enS false (Net.Links a))&&isS Link false (enS false (Net.Links b))&&(sameB (deS Link (enS false (Net.Links a))) (deS Link (enS false (Net.Links b)))&&decide (length (deS Link (enS false (Net.Links a)))≤1048576))then some ([[D.bool true]],[])else none else none:=by kernel_rfl
theorem m35(a:Net)(b:Net):(o35 a b).1=true→e35 a b 0=some (o35 a b).2:=by
 refine pm λhpre=>(r35 a b _).trans ?_;rw[Bool.and_eq_true]at hpre;obtain⟨h0,h1⟩:=hpre;have:=Zav h0;subst this;unfold Net.small at h1;try simp only[Bool.and_eq_true]at h1
 simp only[h1,bne_self_eq_false,cond_false,cond_true,Zas,Zak,Zad,Bool.and_self,Bool.and_true,Bool.true_and,Bool.not_true];try rfl
def T35:Table:=(35,c35)::T73
theorem Zqz:Table.Sound prog Hx T35:=sa Zr1 func35 (by kernel_rfl) (Zah λa=>Zah λb=>Zan λh=>⟨_,m35 a b h⟩)
def o10(a:Fabric)(b:Fabric):Bool×List Row×List Row:=(sameB a b&&(Fabric.small a),[[.bool (true)]],[])
def zp19:Pa (Fabric):=⟨λa=>[.sl false 2 (enS false a.Net.Bridges),.sl false 4 (enS false a.Net.Links),.sl false 3 (enS false a.Cards)],λr=>match r with|[.sl false 2 a_Net_Bridges,.sl false 4 a_Net_Links,.sl false 3 a_Cards]=>some (λt=>t&&isS Bridge false a_Net_Bridges&&isS Link false a_Net_Links&&isS Card false a_Cards,⟨⟨(deS Bridge a_Net_Bridges),(deS Link a_Net_Links)⟩,(deS Card a_Cards)⟩)|_=>none,by
 intro r f x h t ht;split at h
 ·cases h;simp only[Bool.and_eq_true]at ht;obtain⟨⟨⟨ht,h0⟩,h1⟩,h2⟩:=ht;obtain⟨_,rfl⟩:=Zay h0;obtain⟨_,rfl⟩:=Zay h1;obtain⟨_,rfl⟩:=Zay h2;exact⟨ht,by simp only[Zad]⟩
 ·cases h⟩
def c10:Contract:=(cp zp19 λa=>cp zp19 λb=>c0 (o10 a b)) true
def e10(a:Fabric)(b:Fabric)(n:Nat):=evFn ⟨prog,Hx,10⟩ T35.call n f10 [zp19.row a,zp19.row b]
theorem r10(a:Fabric)(b:Fabric)(n:Nat):e10 a b n=bif isS Bridge false (enS false (Net.Bridges (Fabric.Net a)))&&isS Link false (enS false (Net.Links (Fabric.Net a)))&&isS Bridge false (enS false (Net.Bridges (Fabric.Net b)))&&isS Link false (enS false (Net.Links (Fabric.Net b)))&&(sameB (Net.mk (deS Bridge (enS false (Net.Bridges (Fabric.Net a)))) (deS Link (enS false (Net.Links (Fabric.Net a))))) (Net.mk (deS Bridge (enS false (Net.Bridges (Fabric.Net b)))) (deS Link (enS false (Net.Links (Fabric.Net b)))))&&Net.small (Net.mk (deS Bridge (enS false (Net.Bridges (Fabric.Net a)))) (deS Link (enS false (Net.Links (Fabric.Net a))))))then bif isS Card false (enS false (Fabric.Cards a))&&isS Card false (enS false (Fabric.Cards b))&&(sameB (deS Card (enS false (Fabric.Cards a))) (deS Card (enS false (Fabric.Cards b)))&&(decide (length (deS Card (enS false (Fabric.Cards a)))≤1048576)&&all (deS Card (enS false (Fabric.Cards a))) Card.small))then some ([[D.bool true]],[])else none else none:=by kernel_rfl
theorem m10(a:Fabric)(b:Fabric):(o10 a b).1=true→e10 a b 0=some (o10 a b).2:=by
 refine pm λhpre=>(r10 a b _).trans ?_;rw[Bool.and_eq_true]at hpre;obtain⟨h0,h1⟩:=hpre;have:=Zav h0;subst this;unfold Fabric.small at h1;try simp only[Bool.and_eq_true]at h1
 simp only[h1,bne_self_eq_false,cond_false,cond_true,Zas,Zak,Zad,Bool.and_self,Bool.and_true,Bool.true_and,Bool.not_true];try rfl
def T10:Table:=(10,c10)::T35
theorem Zqa:Table.Sound prog Hx T10:=sa Zqz func10 (by kernel_rfl) (Zah λa=>Zah λb=>Zan λh=>⟨_,m10 a b h⟩)
def o12(a:TFrame)(b:TFrame):Bool×List Row×List Row:=(sameB a b&&(TFrame.small a),[[.bool (true)]],[])
def zp20:Pa (TFrame):=⟨λa=>[.int .i64 a.To,.int .i64 a.From,.int .i64 a.Vlan,.sl false 1 (enS false a.Load)],λr=>match r with|[.int .i64 a_To,.int .i64 a_From,.int .i64 a_Vlan,.sl false 1 a_Load]=>some (λt=>t&&isS UInt8 false a_Load,⟨a_To,a_From,a_Vlan,(deS UInt8 a_Load)⟩)|_=>none,by
 intro r f x h t ht;split at h
 ·cases h;simp only[Bool.and_eq_true]at ht;obtain⟨ht,h0⟩:=ht;obtain⟨_,rfl⟩:=Zay h0;exact⟨ht,by simp only[Zad]⟩
 ·cases h⟩
def c12:Contract:=(cp zp20 λa=>cp zp20 λb=>c0 (o12 a b)) true
def e12(a:TFrame)(b:TFrame)(n:Nat):=evFn ⟨prog,Hx,12⟩ T10.call n f12 [zp20.row a,zp20.row b]
theorem r12(a:TFrame)(b:TFrame)(n:Nat):e12 a b n=bif TFrame.To a !=TFrame.To b then some ([[D.bool false]],[])else bif TFrame.From a !=TFrame.From b then some ([[D.bool false]],[])else bif TFrame.Vlan a !=TFrame.Vlan b then some ([[D.bool false]],[])else bif isS UInt8 false (enS false (TFrame.Load a))&&isS UInt8 false (enS false (TFrame.Load b))&&(sameB (deS UInt8 (enS false (TFrame.Load a))) (deS UInt8 (enS false (TFrame.Load b)))&&decide (length (deS UInt8 (enS false (TFrame.Load a)))≤1048576))then some ([[D.bool true]],[])else none:=by kernel_rfl
theorem m12(a:TFrame)(b:TFrame):(o12 a b).1=true→e12 a b 0=some (o12 a b).2:=by
 refine pm λhpre=>(r12 a b _).trans ?_;rw[Bool.and_eq_true]at hpre;obtain⟨h0,h1⟩:=hpre;have:=Zav h0;subst this;unfold TFrame.small at h1;try simp only[Bool.and_eq_true]at h1
 simp only[h1,bne_self_eq_false,cond_false,cond_true,Zas,Zak,Zad,Bool.and_self,Bool.and_true,Bool.true_and,Bool.not_true];try rfl
def T12:Table:=(12,c12)::T10
theorem Zqc:Table.Sound prog Hx T12:=sa Zqa func12 (by kernel_rfl) (Zah λa=>Zah λb=>Zan λh=>⟨_,m12 a b h⟩)
def o37(a:Got)(b:Got):Bool×List Row×List Row:=(sameB a b&&(Got.small a),[[.bool (true)]],[])
def zp21:Pa (Got):=⟨λa=>[.int .i64 a.Bridge,.int .i64 a.Frame.To,.int .i64 a.Frame.From,.int .i64 a.Frame.Vlan,.sl false 1 (enS false a.Frame.Load)],λr=>match r with|[.int .i64 a_Bridge,.int .i64 a_Frame_To,.int .i64 a_Frame_From,.int .i64 a_Frame_Vlan,.sl false 1 a_Frame_Load]=>some (λt=>t&&isS UInt8 false a_Frame_Load,⟨a_Bridge,⟨a_Frame_To,a_Frame_From,a_Frame_Vlan,(deS UInt8 a_Frame_Load)⟩⟩)|_=>none,by
 intro r f x h t ht;split at h
 ·cases h;simp only[Bool.and_eq_true]at ht;obtain⟨ht,h0⟩:=ht;obtain⟨_,rfl⟩:=Zay h0;exact⟨ht,by simp only[Zad]⟩
 ·cases h⟩
def c37:Contract:=(cp zp21 λa=>cp zp21 λb=>c0 (o37 a b)) true
def e37(a:Got)(b:Got)(n:Nat):=evFn ⟨prog,Hx,37⟩ T12.call n f37 [zp21.row a,zp21.row b]
def y37_0(a:Got):=TFrame.mk (TFrame.To (Got.Frame a)) (TFrame.From (Got.Frame a)) (TFrame.Vlan (Got.Frame a)) (deS UInt8 (enS false (TFrame.Load (Got.Frame a))))
theorem r37(a:Got)(b:Got)(n:Nat):e37 a b n=bif Got.Bridge a !=Got.Bridge b then some ([[D.bool false]],[])else bif isS UInt8 false (enS false (TFrame.Load (Got.Frame a)))&&isS UInt8 false (enS false (TFrame.Load (Got.Frame b)))&&(sameB (y37_0 a) (TFrame.mk (TFrame.To (Got.Frame b)) (TFrame.From (Got.Frame b)) (TFrame.Vlan (Got.Frame b)) (deS UInt8 (enS false (TFrame.Load (Got.Frame b)))))&&TFrame.small (y37_0 a))then some ([[D.bool true]],[])else none:=by kernel_rfl
theorem m37(a:Got)(b:Got):(o37 a b).1=true→e37 a b 0=some (o37 a b).2:=by
 refine pm λhpre=>(r37 a b _).trans ?_;delta y37_0;rw[Bool.and_eq_true]at hpre;obtain⟨h0,h1⟩:=hpre;have:=Zav h0;subst this;unfold Got.small at h1;try simp only[Bool.and_eq_true]at h1
 simp only[h1,bne_self_eq_false,cond_false,cond_true,Zas,Zak,Zad,Bool.and_self,Bool.and_true,Bool.true_and,Bool.not_true];try rfl
def T37:Table:=(37,c37)::T12
theorem Zq1:Table.Sound prog Hx T37:=sa Zqc func37 (by kernel_rfl) (Zah λa=>Zah λb=>Zan λh=>⟨_,m37 a b h⟩)
def o11(a:List Got)(b:List Got):Bool×List Row×List Row:=(sameB a b&&((decide (a.length≤1048576)&&a.all Got.small)),[[.bool (true)]],[])
def zp22:Pa (List Got):=⟨λa=>[.sl false 5 (enS false a)],λr=>match r with|[.sl false 5 a]=>some (λt=>t&&isS Got false a,(deS Got a))|_=>none,by
 intro r f x h t ht;split at h
 ·cases h;simp only[Bool.and_eq_true]at ht;obtain⟨ht,h0⟩:=ht;obtain⟨_,rfl⟩:=Zay h0;exact⟨ht,by simp only[Zad]⟩
 ·cases h⟩
def c11:Contract:=(cp zp22 λa=>cp zp22 λb=>c0 (o11 a b)) true
def k11_0:KT:=λn↦kThen (λst↦rC 11 T37 n f11 [1,1,1] 16 [] 16 st (lV f11 [] [])) (lV f11 [] [])
def k11_1:KT:=λn↦kBlock (0) (k11_0 n)
def S11_0(a:List Got)(b:List Got)(i0:Int):St:=St.mk (V_ [C.d (D.sl false 5 (enS false a))]::V_ [C.d (D.sl false 5 (enS false b))]::U_::U_::U_::I_ i0::u_ 21 []) []
def B11_0:BT:=λn↦rC 11 T37 n f11 [1,1,0,1,0,0] 35 [(0,0)] 16
def X11_2:St:=St.mk (u_ 27 []) []
def y11_0(a:List Got)(i0:Int):=Got.mk (D.num (getD (getD (enS false a) (toNat i0) []) 0 D.dead)) (TFrame.mk (D.num (getD (getD (enS false a) (toNat i0) []) 1 D.dead)) (D.num (getD (getD (enS false a) (toNat i0) []) 2 D.dead)) (D.num (getD (getD (enS false a) (toNat i0) []) 3 D.dead)) (deS UInt8 (D.rows (getD (getD (enS false a) (toNat i0) []) 4 D.dead))))
theorem Z0t(a:List Got)(b:List Got)(n:Nat)(i0:Int)(f:St→RR)(K:Ex→St→RR):B11_0 n (S11_0 a b i0) (kThen (λst↦f (St.head 0 35 134215728 st)) K)=bif decide (i0<ofNat (length (enS false a)))then bif decide (0≤i0)&&decide (i0<ofNat (length (enS false a)))then bif Leaf.fit false (Leaf.int i64) (getD (getD (enS false a) (toNat i0) []) 0 D.dead)&&(Leaf.fit false (Leaf.int i64) (getD (getD (enS false a) (toNat i0) []) 1 D.dead)&&(Leaf.fit false (Leaf.int i64) (getD (getD (enS false a) (toNat i0) []) 2 D.dead)&&(Leaf.fit false (Leaf.int i64) (getD (getD (enS false a) (toNat i0) []) 3 D.dead)&&(Leaf.fit false (Leaf.sl 1 true) (getD (getD (enS false a) (toNat i0) []) 4 D.dead)&&true))))then bif decide (0≤i0)&&decide (i0<ofNat (length (enS false b)))then bif Leaf.fit false (Leaf.int i64) (getD (getD (enS false b) (toNat i0) []) 0 D.dead)&&(Leaf.fit false (Leaf.int i64) (getD (getD (enS false b) (toNat i0) []) 1 D.dead)&&(Leaf.fit false (Leaf.int i64) (getD (getD (enS false b) (toNat i0) []) 2 D.dead)&&(Leaf.fit false (Leaf.int i64) (getD (getD (enS false b) (toNat i0) []) 3 D.dead)&&(Leaf.fit false (Leaf.sl 1 true) (getD (getD (enS false b) (toNat i0) []) 4 D.dead)&&true))))then bif isS UInt8 false (D.rows (getD (getD (enS false a) (toNat i0) []) 4 D.dead))&&isS UInt8 false (D.rows (getD (getD (enS false b) (toNat i0) []) 4 D.dead))&&(sameB (y11_0 a i0) (Got.mk (D.num (getD (getD (enS false b) (toNat i0) []) 0 D.dead)) (TFrame.mk (D.num (getD (getD (enS false b) (toNat i0) []) 1 D.dead)) (D.num (getD (getD (enS false b) (toNat i0) []) 2 D.dead)) (D.num (getD (getD (enS false b) (toNat i0) []) 3 D.dead)) (deS UInt8 (D.rows (getD (getD (enS false b) (toNat i0) []) 4 D.dead)))))&&Got.small (y11_0 a i0))then f (S11_0 a b (wrap i64 (i0+1)))else none else none else none else none else none else K (Ex.exit 0) X11_2:=by kernel_rfl
theorem Zye(n:Nat):k11_1 n (Ex.exit 0) X11_2=some ([[D.bool true]],[]):=by kernel_rfl
def e11(a:List Got)(b:List Got)(n:Nat):=evFn ⟨prog,Hx,11⟩ T37.call n f11 [zp22.row a,zp22.row b]
theorem r11(a:List Got)(b:List Got)(n:Nat):e11 a b n=bif ofNat (length (enS false a)) !=ofNat (length (enS false b))then some ([[D.bool false]],[])else loopRun (B11_0 n) 0 35 134215728 n (S11_0 a b (0)) (k11_1 n):=by kernel_rfl
theorem m11(a:List Got)(b:List Got):(o11 a b).1=true→e11 a b (a.length+1)=some (o11 a b).2:=by
 refine pm λhpre=>(r11 a b _).trans ?_;rw[Bool.and_eq_true,Bool.and_eq_true]at hpre;obtain⟨h0,h1,h2⟩:=hpre;have hlen:=of_decide_eq_true h1;have:=Zav h0;subst this;simp only[bne_self_eq_false,cond_false];refine Zai (xs:=a) (λi (_:Unit)=>S11_0 a a (Int.ofNat i)) (λ_ _=>True) (λ_ _ _=>some ([[D.bool true]],[])) ?_ ?_ (a.length+1) () (by omega) trivial
 ·rintro _ _ f;refine(Z0t a a _ _ f _).trans ?_;delta y11_0;rw[Zaw,cond_false];exact Zye _
 ·rintro i _ hi _ f hf;refine(Z0t a a _ _ f _).trans ?_;delta y11_0;have hel:=List.all_eq_true.1 h2 _ (List.getElem_mem hi);simp only[gos,En.enc,D.num,D.flag,D.text,D.rows,Leaf.fit,Zbo,Zab _ hi,hi,Zae (show i<4611686018427387904 by omega),hel,Zas]
  exact hf () trivial
def T11:Table:=(11,c11)::T37
theorem Zqb:Table.Sound prog Hx T11:=sa Zq1 func11 (by kernel_rfl) (Zah λa=>Zah λb=>Zan λh=>⟨_,m11 a b h⟩)
def o86(a:List Bool)(left:Int):Bool×List Row×List Row:=(decide (0≤left)&&(decide (left≤1048576)&&decide (a.length≤9223372036854775807)),[[.int .i64 (szR (a.length:Int) left)]],[])
def c86:Contract:=(cp zp5 λa=>cp zp0 λleft=>c0 (o86 a left)) true
def e86(a:List Bool)(left:Int)(n:Nat):=evFn ⟨prog,Hx,86⟩ T11.call n f86 [zp5.row a,zp0.row left]
theorem r86(a:List Bool)(left:Int)(n:Nat):e86 a left n=bif decide (wrap i64 (left-ofNat (length (enS false a)))<0)then some ([[D.int i64 (Int.negSucc 0)]],[])else some ([[D.int i64 (wrap i64 (left-ofNat (length (enS false a))))]],[]):=by kernel_rfl
theorem m86(a:List Bool)(left:Int):(o86 a left).1=true→e86 a left 0=some (o86 a left).2:=by
 refine pm λhpre=>(r86 a left _).trans ?_;simp only[Bool.and_eq_true,decide_eq_true_eq]at hpre;obtain⟨h0,h1,h2⟩:=hpre;simp only[Zaa];have hw:IntKind.wrap IntKind.i64 (left-Int.ofNat a.length)=left-(a.length:Int):=Zb6 (by show _≤left-(a.length:Int);omega) (by show left-(a.length:Int)≤_;omega)
 rw[hw];unfold szR;by_cases h:(a.length:Int)≤left
 ·rw[decide_eq_false (by omega),decide_eq_true h];rfl
 ·rw[decide_eq_true (by omega),decide_eq_false h];rfl
def T86:Table:=(86,c86)::T11
theorem Zse:Table.Sound prog Hx T86:=sa Zqb func86 (by kernel_rfl) (Zah λa=>Zah λleft=>Zan λh=>⟨_,m86 a left h⟩)
def o126(a:List Port)(left:Int):Bool×List Row×List Row:=(decide (0≤left)&&(decide (left≤1048576)&&decide (a.length≤9223372036854775807)),[[.int .i64 (szR (a.length:Int) left)]],[])
def c126:Contract:=(cp zp6 λa=>cp zp0 λleft=>c0 (o126 a left)) true
def e126(a:List Port)(left:Int)(n:Nat):=evFn ⟨prog,Hx,126⟩ T86.call n f126 [zp6.row a,zp0.row left]
theorem r126(a:List Port)(left:Int)(n:Nat):e126 a left n=bif decide (wrap i64 (left-ofNat (length (enS false a)))<0)then some ([[D.int i64 (Int.negSucc 0)]],[])else some ([[D.int i64 (wrap i64 (left-ofNat (length (enS false a))))]],[]):=by kernel_rfl
theorem m126(a:List Port)(left:Int):(o126 a left).1=true→e126 a left 0=some (o126 a left).2:=by
 refine pm λhpre=>(r126 a left _).trans ?_;simp only[Bool.and_eq_true,decide_eq_true_eq]at hpre;obtain⟨h0,h1,h2⟩:=hpre;simp only[Zaa];have hw:IntKind.wrap IntKind.i64 (left-Int.ofNat a.length)=left-(a.length:Int):=Zb6 (by show _≤left-(a.length:Int);omega) (by show left-(a.length:Int)≤_;omega)
 rw[hw];unfold szR;by_cases h:(a.length:Int)≤left
 ·rw[decide_eq_false (by omega),decide_eq_true h];rfl
 ·rw[decide_eq_true (by omega),decide_eq_false h];rfl
def T126:Table:=(126,c126)::T86
theorem Zor:Table.Sound prog Hx T126:=sa Zse func126 (by kernel_rfl) (Zah λa=>Zah λleft=>Zan λh=>⟨_,m126 a left h⟩)
def o85(a:Bridge)(left:Int):Bool×List Row×List Row:=(decide (0≤left)&&(decide (left≤1048576)&&Bridge.big a),[[.int .i64 (szR (Bridge.wt a) left)]],[])
def c85:Contract:=(cp zp4 λa=>cp zp0 λleft=>c0 (o85 a left)) true
def e85(a:Bridge)(left:Int)(n:Nat):=evFn ⟨prog,Hx,85⟩ T126.call n f85 [zp4.row a,zp0.row left]
theorem r85(a:Bridge)(left:Int)(n:Nat):e85 a left n=bif isS Port false (enS false (Bridge.Ports a))&&(decide (0≤left)&&(decide (left≤1048576)&&decide (length (deS Port (enS false (Bridge.Ports a)))≤9223372036854775807)))then bif decide (szR (ofNat (length (deS Port (enS false (Bridge.Ports a))))) left<0)then some ([[D.int i64 (Int.negSucc 0)]],[])else some ([[D.int i64 (szR (ofNat (length (deS Port (enS false (Bridge.Ports a))))) left)]],[])else none:=by kernel_rfl
theorem m85(a:Bridge)(left:Int):(o85 a left).1=true→e85 a left 0=some (o85 a left).2:=by
 refine pm λhpre=>(r85 a left _).trans ?_;simp only[Bool.and_eq_true,decide_eq_true_eq]at hpre;obtain⟨h0,h1,h2⟩:=hpre;unfold Bridge.big at h2;try simp only[Bool.and_eq_true]at h2
 unfold Bridge.wt;have p0:0≤(a.Ports.length:Int):=by omega
 have g0:decide (0≤left)=true:=decide_eq_true (by omega)
 have f0:decide (left≤1048576)=true:=decide_eq_true (by omega)
 rcases Zbe ((a.Ports.length:Int)) (left) (by omega)with⟨a0,b0,c0⟩|⟨a0,b0,c0⟩
 case inr=>
  rw[b0]at c0;simp only[g0,f0,b0,c0,h2,Int.ofNat_eq_natCast,Zak,Zad,cond_true,cond_false,Bool.and_self,Bool.and_true,Bool.true_and];try rw[Zbl (by omega)]
  try rfl
 rw[b0]at c0;simp only[g0,f0,b0,c0,h2,Int.ofNat_eq_natCast,Zak,Zad,cond_true,cond_false,Bool.and_self,Bool.and_true,Bool.true_and];try rw[Zcd (by omega)]
 try rfl
def T85:Table:=(85,c85)::T126
theorem Zsd:Table.Sound prog Hx T85:=sa Zor func85 (by kernel_rfl) (Zah λa=>Zah λleft=>Zan λh=>⟨_,m85 a left h⟩)
def o45(a:List Bridge)(left:Int):Bool×List Row×List Row:=(decide (0≤left)&&(decide (left≤1048576)&&(decide (a.length≤9223372036854775807)&&a.all Bridge.big)),[[.int .i64 (szR ((a.length:Int)+cntS Bridge.wt a) left)]],[])
def c45:Contract:=(cp zp7 λa=>cp zp0 λleft=>c0 (o45 a left)) true
def k45_0:KT:=λn↦kThen (λst↦rC 45 T85 n f45 [1,1,1,1] 16 [] 16 st (lV f45 [] [])) (lV f45 [] [])
def k45_1:KT:=λn↦kBlock (0) (k45_0 n)
def S45_0(a:List Bridge)(i0:Int)(i1:Int):St:=St.mk (V_ [C.d (D.sl false 2 (enS false a))]::I_ i0::U_::U_::U_::I_ i1::u_ 21 []) []
def B45_0:BT:=λn↦rC 45 T85 n f45 [1,1,1,0,1,0,0] 35 [(0,2)] 16
def X45_2:St:=St.mk (u_ 4 (I_ (Int.negSucc 0)::u_ 22 [])) []
def X45_3(i0:Int):St:=St.mk (U_::I_ i0::u_ 25 []) []
def y45_0(a:List Bridge)(i1:Int):=Bridge.mk (D.num (getD (getD (enS false a) (toNat i1) []) 0 D.dead)) (deS Port (D.rows (getD (getD (enS false a) (toNat i1) []) 1 D.dead)))
theorem Z1e(a:List Bridge)(n:Nat)(i0:Int)(i1:Int)(f:St→RR)(K:Ex→St→RR):B45_0 n (S45_0 a i0 i1) (kThen (λst↦f (St.head 0 35 67104818 st)) K)=bif decide (i1<ofNat (length (enS false a)))then bif decide (0≤i1)&&decide (i1<ofNat (length (enS false a)))then bif Leaf.fit false (Leaf.int i64) (getD (getD (enS false a) (toNat i1) []) 0 D.dead)&&(Leaf.fit false (Leaf.sl 11 true) (getD (getD (enS false a) (toNat i1) []) 1 D.dead)&&true)then bif isS Port false (D.rows (getD (getD (enS false a) (toNat i1) []) 1 D.dead))&&(decide (0≤i0)&&(decide (i0≤1048576)&&Bridge.big (y45_0 a i1)))then bif decide (szR (Bridge.wt (y45_0 a i1)) i0<0)then K Ex.ret X45_2 else f (S45_0 a (szR (Bridge.wt (y45_0 a i1)) i0) (wrap i64 (i1+1)))else none else none else none else K (Ex.exit 0) (X45_3 i0):=by kernel_rfl
theorem Zy0(n:Nat):k45_1 n Ex.ret X45_2=some ([[D.int i64 (Int.negSucc 0)]],[]):=by kernel_rfl
theorem Zy1(n:Nat)(i0:Int):k45_1 n (Ex.exit 0) (X45_3 i0)=some ([[D.int i64 i0]],[]):=by kernel_rfl
def e45(a:List Bridge)(left:Int)(n:Nat):=evFn ⟨prog,Hx,45⟩ T85.call n f45 [zp7.row a,zp0.row left]
theorem r45(a:List Bridge)(left:Int)(n:Nat):e45 a left n=bif decide (wrap i64 (left-ofNat (length (enS false a)))<0)then some ([[D.int i64 (Int.negSucc 0)]],[])else loopRun (B45_0 n) 0 35 67104818 n (S45_0 a (wrap i64 (left-ofNat (length (enS false a)))) (0)) (k45_1 n):=by kernel_rfl
theorem m45(a:List Bridge)(left:Int):(o45 a left).1=true→e45 a left (a.length+1)=some (o45 a left).2:=by
 refine pm λhpre=>(r45 a left _).trans ?_;simp only[Bool.and_eq_true,decide_eq_true_eq]at hpre;obtain⟨h0,h1,h2,h3⟩:=hpre;simp only[Zaa];have hw:IntKind.wrap IntKind.i64 (left-Int.ofNat a.length)=left-(a.length:Int):=Zb6 (by show _≤left-(a.length:Int);omega) (by show left-(a.length:Int)≤_;omega)
 rw[hw];have hc:=Zag (n:=Bridge.wt) Bridge.wt_pos a;by_cases hl:(a.length:Int)≤left
 case neg=>
  rw[decide_eq_true (by omega),Zbl (by omega)]
  rfl
 rw[decide_eq_false (by omega),cond_false]
 have hlen:a.length≤1048576:=by omega
 have hg:szR ((a.length:Int)+cntS Bridge.wt a) left=szR (cntS Bridge.wt a) (left-(a.length:Int)):=by
  by_cases h:cntS Bridge.wt a≤left-(a.length:Int)
  ·rw[Zcd h,Zcd (by omega)];omega
  ·rw[Zbl (by omega),Zbl (by omega)]
 rw[hg];refine Zai (xs:=a) (λi (l:Int)=>S45_0 a l (Int.ofNat i)) (λ_ l=>0≤l∧l≤1048576) (λ_ l rest=>some ([[D.int .i64 (szR (cntS Bridge.wt rest) l)]],[])) ?_ ?_ (a.length+1) (left-(a.length:Int)) (by omega) ⟨by omega,by omega⟩
 ·rintro l ⟨g0,g1⟩ f;refine(Z1e a _ _ _ f _).trans ?_;delta y45_0;rw[Zaw,cond_false];refine(Zy1 _ _).trans ?_;rw[cntS,Zcd g0,Int.sub_zero]
 ·rintro i l hi ⟨g0,g1⟩ f hf;refine(Z1e a _ _ _ f _).trans ?_;delta y45_0;have hel:=List.all_eq_true.1 h3 _ (List.getElem_mem hi);have hp:=Bridge.wt_pos a[i];have hc2:=Zag (n:=Bridge.wt) Bridge.wt_pos (a.drop (i+1));have d0:decide (0≤l)=true:=decide_eq_true g0;have d1:decide (l≤1048576)=true:=decide_eq_true g1;simp only[gos,En.enc,D.num,D.flag,D.text,D.rows,Leaf.fit,Zbo,Zab _ hi,hi,Zae (show i<4611686018427387904 by omega),hel,d0,d1]
  rcases Zbe (Bridge.wt a[i]) l g0 with⟨a1,b1,c1⟩|⟨a1,b1,c1⟩
  ·rw[c1,cond_false,b1];refine(hf (l-Bridge.wt a[i]) ⟨by omega,by omega⟩).trans ?_
   have:szR (cntS Bridge.wt (a[i]::a.drop (i+1))) l=szR (cntS Bridge.wt (a.drop (i+1))) (l-Bridge.wt a[i]):=by
    show szR (Bridge.wt a[i]+cntS Bridge.wt (a.drop (i+1))) l=_;by_cases h:cntS Bridge.wt (a.drop (i+1))≤l-Bridge.wt a[i]
    ·rw[Zcd h,Zcd (by omega)];omega
    ·rw[Zbl (by omega),Zbl (by omega)]
   rw[this]
  ·rw[c1,cond_true];refine(Zy0 _).trans ?_;have:szR (cntS Bridge.wt (a[i]::a.drop (i+1))) l=-1:=by
    show szR (Bridge.wt a[i]+cntS Bridge.wt (a.drop (i+1))) l=_;exact Zbl (by omega)
   rw[this];rfl
def T45:Table:=(45,c45)::T85
theorem Zq9:Table.Sound prog Hx T45:=sa Zsd func45 (by kernel_rfl) (Zah λa=>Zah λleft=>Zan λh=>⟨_,m45 a left h⟩)
def o20(a:List UInt8)(left:Int):Bool×List Row×List Row:=(decide (0≤left)&&(decide (left≤1048576)&&decide (a.length≤9223372036854775807)),[[.int .i64 (szR (a.length:Int) left)]],[])
def c20:Contract:=(cp zp8 λa=>cp zp0 λleft=>c0 (o20 a left)) true
def e20(a:List UInt8)(left:Int)(n:Nat):=evFn ⟨prog,Hx,20⟩ T45.call n f20 [zp8.row a,zp0.row left]
theorem r20(a:List UInt8)(left:Int)(n:Nat):e20 a left n=bif decide (wrap i64 (left-ofNat (length (enS false a)))<0)then some ([[D.int i64 (Int.negSucc 0)]],[])else some ([[D.int i64 (wrap i64 (left-ofNat (length (enS false a))))]],[]):=by kernel_rfl
theorem m20(a:List UInt8)(left:Int):(o20 a left).1=true→e20 a left 0=some (o20 a left).2:=by
 refine pm λhpre=>(r20 a left _).trans ?_;simp only[Bool.and_eq_true,decide_eq_true_eq]at hpre;obtain⟨h0,h1,h2⟩:=hpre;simp only[Zaa];have hw:IntKind.wrap IntKind.i64 (left-Int.ofNat a.length)=left-(a.length:Int):=Zb6 (by show _≤left-(a.length:Int);omega) (by show left-(a.length:Int)≤_;omega)
 rw[hw];unfold szR;by_cases h:(a.length:Int)≤left
 ·rw[decide_eq_false (by omega),decide_eq_true h];rfl
 ·rw[decide_eq_true (by omega),decide_eq_false h];rfl
def T20:Table:=(20,c20)::T45
theorem Zqk:Table.Sound prog Hx T20:=sa Zq9 func20 (by kernel_rfl) (Zah λa=>Zah λleft=>Zan λh=>⟨_,m20 a left h⟩)
def o147(a:List Int)(left:Int):Bool×List Row×List Row:=(decide (0≤left)&&(decide (left≤1048576)&&decide (a.length≤9223372036854775807)),[[.int .i64 (szR (a.length:Int) left)]],[])
def c147:Contract:=(cp zp9 λa=>cp zp0 λleft=>c0 (o147 a left)) true
def e147(a:List Int)(left:Int)(n:Nat):=evFn ⟨prog,Hx,147⟩ T20.call n f147 [zp9.row a,zp0.row left]
theorem r147(a:List Int)(left:Int)(n:Nat):e147 a left n=bif decide (wrap i64 (left-ofNat (length (enS false a)))<0)then some ([[D.int i64 (Int.negSucc 0)]],[])else some ([[D.int i64 (wrap i64 (left-ofNat (length (enS false a))))]],[]):=by kernel_rfl
theorem m147(a:List Int)(left:Int):(o147 a left).1=true→e147 a left 0=some (o147 a left).2:=by
 refine pm λhpre=>(r147 a left _).trans ?_;simp only[Bool.and_eq_true,decide_eq_true_eq]at hpre;obtain⟨h0,h1,h2⟩:=hpre;simp only[Zaa];have hw:IntKind.wrap IntKind.i64 (left-Int.ofNat a.length)=left-(a.length:Int):=Zb6 (by show _≤left-(a.length:Int);omega) (by show left-(a.length:Int)≤_;omega)
 rw[hw];unfold szR;by_cases h:(a.length:Int)≤left
 ·rw[decide_eq_false (by omega),decide_eq_true h];rfl
 ·rw[decide_eq_true (by omega),decide_eq_false h];rfl
def T147:Table:=(147,c147)::T20
theorem Zpc:Table.Sound prog Hx T147:=sa Zqk func147 (by kernel_rfl) (Zah λa=>Zah λleft=>Zan λh=>⟨_,m147 a left h⟩)
def o127(a:Member)(left:Int):Bool×List Row×List Row:=(decide (0≤left)&&(decide (left≤1048576)&&Member.big a),[[.int .i64 (szR (Member.wt a) left)]],[])
def c127:Contract:=(cp zp10 λa=>cp zp0 λleft=>c0 (o127 a left)) true
def e127(a:Member)(left:Int)(n:Nat):=evFn ⟨prog,Hx,127⟩ T147.call n f127 [zp10.row a,zp0.row left]
theorem r127(a:Member)(left:Int)(n:Nat):e127 a left n=bif isS Int false (enS false (Member.In a))&&(decide (0≤left)&&(decide (left≤1048576)&&decide (length (deS Int (enS false (Member.In a)))≤9223372036854775807)))then bif decide (szR (ofNat (length (deS Int (enS false (Member.In a))))) left<0)then some ([[D.int i64 (Int.negSucc 0)]],[])else some ([[D.int i64 (szR (ofNat (length (deS Int (enS false (Member.In a))))) left)]],[])else none:=by kernel_rfl
theorem m127(a:Member)(left:Int):(o127 a left).1=true→e127 a left 0=some (o127 a left).2:=by
 refine pm λhpre=>(r127 a left _).trans ?_;simp only[Bool.and_eq_true,decide_eq_true_eq]at hpre;obtain⟨h0,h1,h2⟩:=hpre;unfold Member.big at h2;try simp only[Bool.and_eq_true]at h2
 unfold Member.wt;have p0:0≤(a.In.length:Int):=by omega
 have g0:decide (0≤left)=true:=decide_eq_true (by omega)
 have f0:decide (left≤1048576)=true:=decide_eq_true (by omega)
 rcases Zbe ((a.In.length:Int)) (left) (by omega)with⟨a0,b0,c0⟩|⟨a0,b0,c0⟩
 case inr=>
  rw[b0]at c0;simp only[g0,f0,b0,c0,h2,Int.ofNat_eq_natCast,Zak,Zad,cond_true,cond_false,Bool.and_self,Bool.and_true,Bool.true_and];try rw[Zbl (by omega)]
  try rfl
 rw[b0]at c0;simp only[g0,f0,b0,c0,h2,Int.ofNat_eq_natCast,Zak,Zad,cond_true,cond_false,Bool.and_self,Bool.and_true,Bool.true_and];try rw[Zcd (by omega)]
 try rfl
def T127:Table:=(127,c127)::T147
theorem Zos:Table.Sound prog Hx T127:=sa Zpc func127 (by kernel_rfl) (Zah λa=>Zah λleft=>Zan λh=>⟨_,m127 a left h⟩)
def o87(a:List Member)(left:Int):Bool×List Row×List Row:=(decide (0≤left)&&(decide (left≤1048576)&&(decide (a.length≤9223372036854775807)&&a.all Member.big)),[[.int .i64 (szR ((a.length:Int)+cntS Member.wt a) left)]],[])
def c87:Contract:=(cp zp11 λa=>cp zp0 λleft=>c0 (o87 a left)) true
def k87_0:KT:=λn↦kThen (λst↦rC 87 T127 n f87 [1,1,1,1] 16 [] 16 st (lV f87 [] [])) (lV f87 [] [])
def k87_1:KT:=λn↦kBlock (0) (k87_0 n)
def S87_0(a:List Member)(i0:Int)(i1:Int):St:=St.mk (V_ [C.d (D.sl false 2 (enS false a))]::I_ i0::U_::U_::U_::I_ i1::u_ 21 []) []
def B87_0:BT:=λn↦rC 87 T127 n f87 [1,1,1,0,1,0,0] 35 [(0,2)] 16
def X87_2:St:=St.mk (u_ 4 (I_ (Int.negSucc 0)::u_ 22 [])) []
def X87_3(i0:Int):St:=St.mk (U_::I_ i0::u_ 25 []) []
def y87_0(a:List Member)(i1:Int):=Member.mk (D.num (getD (getD (enS false a) (toNat i1) []) 0 D.dead)) (deS Int (D.rows (getD (getD (enS false a) (toNat i1) []) 1 D.dead)))
theorem Z18(a:List Member)(n:Nat)(i0:Int)(i1:Int)(f:St→RR)(K:Ex→St→RR):B87_0 n (S87_0 a i0 i1) (kThen (λst↦f (St.head 0 35 67104818 st)) K)=bif decide (i1<ofNat (length (enS false a)))then bif decide (0≤i1)&&decide (i1<ofNat (length (enS false a)))then bif Leaf.fit false (Leaf.int i64) (getD (getD (enS false a) (toNat i1) []) 0 D.dead)&&(Leaf.fit false (Leaf.sl 1 true) (getD (getD (enS false a) (toNat i1) []) 1 D.dead)&&true)then bif isS Int false (D.rows (getD (getD (enS false a) (toNat i1) []) 1 D.dead))&&(decide (0≤i0)&&(decide (i0≤1048576)&&Member.big (y87_0 a i1)))then bif decide (szR (Member.wt (y87_0 a i1)) i0<0)then K Ex.ret X87_2 else f (S87_0 a (szR (Member.wt (y87_0 a i1)) i0) (wrap i64 (i1+1)))else none else none else none else K (Ex.exit 0) (X87_3 i0):=by kernel_rfl
theorem Zz3(n:Nat):k87_1 n Ex.ret X87_2=some ([[D.int i64 (Int.negSucc 0)]],[]):=by kernel_rfl
theorem Zz4(n:Nat)(i0:Int):k87_1 n (Ex.exit 0) (X87_3 i0)=some ([[D.int i64 i0]],[]):=by kernel_rfl
def e87(a:List Member)(left:Int)(n:Nat):=evFn ⟨prog,Hx,87⟩ T127.call n f87 [zp11.row a,zp0.row left]
theorem r87(a:List Member)(left:Int)(n:Nat):e87 a left n=bif decide (wrap i64 (left-ofNat (length (enS false a)))<0)then some ([[D.int i64 (Int.negSucc 0)]],[])else loopRun (B87_0 n) 0 35 67104818 n (S87_0 a (wrap i64 (left-ofNat (length (enS false a)))) (0)) (k87_1 n):=by kernel_rfl
theorem m87(a:List Member)(left:Int):(o87 a left).1=true→e87 a left (a.length+1)=some (o87 a left).2:=by
 refine pm λhpre=>(r87 a left _).trans ?_;simp only[Bool.and_eq_true,decide_eq_true_eq]at hpre;obtain⟨h0,h1,h2,h3⟩:=hpre;simp only[Zaa];have hw:IntKind.wrap IntKind.i64 (left-Int.ofNat a.length)=left-(a.length:Int):=Zb6 (by show _≤left-(a.length:Int);omega) (by show left-(a.length:Int)≤_;omega)
 rw[hw];have hc:=Zag (n:=Member.wt) Member.wt_pos a;by_cases hl:(a.length:Int)≤left
 case neg=>
  rw[decide_eq_true (by omega),Zbl (by omega)]
  rfl
 rw[decide_eq_false (by omega),cond_false]
 have hlen:a.length≤1048576:=by omega
 have hg:szR ((a.length:Int)+cntS Member.wt a) left=szR (cntS Member.wt a) (left-(a.length:Int)):=by
  by_cases h:cntS Member.wt a≤left-(a.length:Int)
  ·rw[Zcd h,Zcd (by omega)];omega
  ·rw[Zbl (by omega),Zbl (by omega)]
 rw[hg];refine Zai (xs:=a) (λi (l:Int)=>S87_0 a l (Int.ofNat i)) (λ_ l=>0≤l∧l≤1048576) (λ_ l rest=>some ([[D.int .i64 (szR (cntS Member.wt rest) l)]],[])) ?_ ?_ (a.length+1) (left-(a.length:Int)) (by omega) ⟨by omega,by omega⟩
 ·rintro l ⟨g0,g1⟩ f;refine(Z18 a _ _ _ f _).trans ?_;delta y87_0;rw[Zaw,cond_false];refine(Zz4 _ _).trans ?_;rw[cntS,Zcd g0,Int.sub_zero]
 ·rintro i l hi ⟨g0,g1⟩ f hf;refine(Z18 a _ _ _ f _).trans ?_;delta y87_0;have hel:=List.all_eq_true.1 h3 _ (List.getElem_mem hi);have hp:=Member.wt_pos a[i];have hc2:=Zag (n:=Member.wt) Member.wt_pos (a.drop (i+1));have d0:decide (0≤l)=true:=decide_eq_true g0;have d1:decide (l≤1048576)=true:=decide_eq_true g1;simp only[gos,En.enc,D.num,D.flag,D.text,D.rows,Leaf.fit,Zbo,Zab _ hi,hi,Zae (show i<4611686018427387904 by omega),hel,d0,d1]
  rcases Zbe (Member.wt a[i]) l g0 with⟨a1,b1,c1⟩|⟨a1,b1,c1⟩
  ·rw[c1,cond_false,b1];refine(hf (l-Member.wt a[i]) ⟨by omega,by omega⟩).trans ?_
   have:szR (cntS Member.wt (a[i]::a.drop (i+1))) l=szR (cntS Member.wt (a.drop (i+1))) (l-Member.wt a[i]):=by
    show szR (Member.wt a[i]+cntS Member.wt (a.drop (i+1))) l=_;by_cases h:cntS Member.wt (a.drop (i+1))≤l-Member.wt a[i]
    ·rw[Zcd h,Zcd (by omega)];omega
    ·rw[Zbl (by omega),Zbl (by omega)]
   rw[this]
  ·rw[c1,cond_true];refine(Zz3 _).trans ?_;have:szR (cntS Member.wt (a[i]::a.drop (i+1))) l=-1:=by
    show szR (Member.wt a[i]+cntS Member.wt (a.drop (i+1))) l=_;exact Zbl (by omega)
   rw[this];rfl
def T87:Table:=(87,c87)::T127
theorem Zsf:Table.Sound prog Hx T87:=sa Zos func87 (by kernel_rfl) (Zah λa=>Zah λleft=>Zan λh=>⟨_,m87 a left h⟩)
def o88(a:List Heard)(left:Int):Bool×List Row×List Row:=(decide (0≤left)&&(decide (left≤1048576)&&decide (a.length≤9223372036854775807)),[[.int .i64 (szR (a.length:Int) left)]],[])
def c88:Contract:=(cp zp13 λa=>cp zp0 λleft=>c0 (o88 a left)) true
def e88(a:List Heard)(left:Int)(n:Nat):=evFn ⟨prog,Hx,88⟩ T87.call n f88 [zp13.row a,zp0.row left]
theorem r88(a:List Heard)(left:Int)(n:Nat):e88 a left n=bif decide (wrap i64 (left-ofNat (length (enS false a)))<0)then some ([[D.int i64 (Int.negSucc 0)]],[])else some ([[D.int i64 (wrap i64 (left-ofNat (length (enS false a))))]],[]):=by kernel_rfl
theorem m88(a:List Heard)(left:Int):(o88 a left).1=true→e88 a left 0=some (o88 a left).2:=by
 refine pm λhpre=>(r88 a left _).trans ?_;simp only[Bool.and_eq_true,decide_eq_true_eq]at hpre;obtain⟨h0,h1,h2⟩:=hpre;simp only[Zaa];have hw:IntKind.wrap IntKind.i64 (left-Int.ofNat a.length)=left-(a.length:Int):=Zb6 (by show _≤left-(a.length:Int);omega) (by show left-(a.length:Int)≤_;omega)
 rw[hw];unfold szR;by_cases h:(a.length:Int)≤left
 ·rw[decide_eq_false (by omega),decide_eq_true h];rfl
 ·rw[decide_eq_true (by omega),decide_eq_false h];rfl
def T88:Table:=(88,c88)::T87
theorem Zsg:Table.Sound prog Hx T88:=sa Zsf func88 (by kernel_rfl) (Zah λa=>Zah λleft=>Zan λh=>⟨_,m88 a left h⟩)
def o47(a:Card)(left:Int):Bool×List Row×List Row:=(decide (0≤left)&&(decide (left≤1048576)&&Card.big a),[[.int .i64 (szR (Card.wt a) left)]],[])
def c47:Contract:=(cp zp14 λa=>cp zp0 λleft=>c0 (o47 a left)) true
def e47(a:Card)(left:Int)(n:Nat):=evFn ⟨prog,Hx,47⟩ T88.call n f47 [zp14.row a,zp0.row left]
def y47_0(a:Card):=ofNat (length (deS Member (enS false (Card.Members a))))+cntS Member.wt (deS Member (enS false (Card.Members a)))
def y47_1(a:Card):=ofNat (length (deS Bool (enS false (Card.Open a))))
theorem r47(a:Card)(left:Int)(n:Nat):e47 a left n=bif isS Bool false (enS false (Card.Open a))&&(decide (0≤left)&&(decide (left≤1048576)&&decide (length (deS Bool (enS false (Card.Open a)))≤9223372036854775807)))then bif decide (szR (y47_1 a) left<0)then some ([[D.int i64 (Int.negSucc 0)]],[])else bif isS Member false (enS false (Card.Members a))&&(decide (0≤szR (y47_1 a) left)&&(decide (szR (y47_1 a) left≤1048576)&&(decide (length (deS Member (enS false (Card.Members a)))≤9223372036854775807)&&all (deS Member (enS false (Card.Members a))) Member.big)))then bif decide (szR (y47_0 a) (szR (y47_1 a) left)<0)then some ([[D.int i64 (Int.negSucc 0)]],[])else bif isS Heard false (enS false (Card.Table a))&&(decide (0≤szR (y47_0 a) (szR (y47_1 a) left))&&(decide (szR (y47_0 a) (szR (y47_1 a) left)≤1048576)&&decide (length (deS Heard (enS false (Card.Table a)))≤9223372036854775807)))then bif decide (szR (ofNat (length (deS Heard (enS false (Card.Table a))))) (szR (y47_0 a) (szR (y47_1 a) left))<0)then some ([[D.int i64 (Int.negSucc 0)]],[])else some ([[D.int i64 (szR (ofNat (length (deS Heard (enS false (Card.Table a))))) (szR (y47_0 a) (szR (y47_1 a) left)))]],[])else none else none else none:=by kernel_rfl
theorem m47(a:Card)(left:Int):(o47 a left).1=true→e47 a left 0=some (o47 a left).2:=by
 refine pm λhpre=>(r47 a left _).trans ?_;delta y47_0 y47_1;simp only[Bool.and_eq_true,decide_eq_true_eq]at hpre;obtain⟨h0,h1,h2⟩:=hpre;unfold Card.big at h2;try simp only[Bool.and_eq_true]at h2
 unfold Card.wt;have p0:0≤(a.Open.length:Int):=by omega
 have p1:0≤((a.Members.length:Int)+cntS Member.wt a.Members):=by have:=Zag (n:=Member.wt) Member.wt_pos a.Members;omega
 have p2:0≤(a.Table.length:Int):=by omega
 have g0:decide (0≤left)=true:=decide_eq_true (by omega)
 have f0:decide (left≤1048576)=true:=decide_eq_true (by omega)
 rcases Zbe ((a.Open.length:Int)) (left) (by omega)with⟨a0,b0,c0⟩|⟨a0,b0,c0⟩
 case inr=>
  rw[b0]at c0;simp only[g0,f0,b0,c0,h2,Int.ofNat_eq_natCast,Zak,Zad,cond_true,cond_false,Bool.and_self,Bool.and_true,Bool.true_and];try rw[Zbl (by omega)]
  try rfl
 rw[b0]at c0;have g1:decide (0≤left-(a.Open.length:Int))=true:=decide_eq_true (by omega)
 have f1:decide (left-(a.Open.length:Int)≤1048576)=true:=decide_eq_true (by omega)
 rcases Zbe (((a.Members.length:Int)+cntS Member.wt a.Members)) (left-(a.Open.length:Int)) (by omega)with⟨a1,b1,c1⟩|⟨a1,b1,c1⟩
 case inr=>
  rw[b1]at c1;simp only[g0,f0,b0,c0,g1,f1,b1,c1,h2,Int.ofNat_eq_natCast,Zak,Zad,cond_true,cond_false,Bool.and_self,Bool.and_true,Bool.true_and];try rw[Zbl (by omega)]
  try rfl
 rw[b1]at c1;have g2:decide (0≤left-(a.Open.length:Int)-((a.Members.length:Int)+cntS Member.wt a.Members))=true:=decide_eq_true (by omega)
 have f2:decide (left-(a.Open.length:Int)-((a.Members.length:Int)+cntS Member.wt a.Members)≤1048576)=true:=decide_eq_true (by omega)
 rcases Zbe ((a.Table.length:Int)) (left-(a.Open.length:Int)-((a.Members.length:Int)+cntS Member.wt a.Members)) (by omega)with⟨a2,b2,c2⟩|⟨a2,b2,c2⟩
 case inr=>
  rw[b2]at c2;simp only[g0,f0,b0,c0,g1,f1,b1,c1,g2,f2,b2,c2,h2,Int.ofNat_eq_natCast,Zak,Zad,cond_true,cond_false,Bool.and_self,Bool.and_true,Bool.true_and];try rw[Zbl (by omega)]
  try rfl
 rw[b2]at c2;simp only[g0,f0,b0,c0,g1,f1,b1,c1,g2,f2,b2,c2,h2,Int.ofNat_eq_natCast,Zak,Zad,cond_true,cond_false,Bool.and_self,Bool.and_true,Bool.true_and];try rw[Zcd (by omega)]
 try rfl
 try (refine congrArg (λz=>(some ([[D.int IntKind.i64 z]],[]):Option (List Row×List Row))) ?_;omega)
def T47:Table:=(47,c47)::T88
theorem Zrb:Table.Sound prog Hx T47:=sa Zsg func47 (by kernel_rfl) (Zah λa=>Zah λleft=>Zan λh=>⟨_,m47 a left h⟩)
def o19(a:List Card)(left:Int):Bool×List Row×List Row:=(decide (0≤left)&&(decide (left≤1048576)&&(decide (a.length≤9223372036854775807)&&a.all Card.big)),[[.int .i64 (szR ((a.length:Int)+cntS Card.wt a) left)]],[])
def c19:Contract:=(cp zp15 λa=>cp zp0 λleft=>c0 (o19 a left)) true
def k19_0:KT:=λn↦kThen (λst↦rC 19 T47 n f19 [1,1,1,1] 16 [] 16 st (lV f19 [] [])) (lV f19 [] [])
def k19_1:KT:=λn↦kBlock (0) (k19_0 n)
def S19_0(a:List Card)(i0:Int)(i1:Int):St:=St.mk (V_ [C.d (D.sl false 3 (enS false a))]::I_ i0::U_::U_::U_::I_ i1::u_ 21 []) []
def B19_0:BT:=λn↦rC 19 T47 n f19 [1,1,1,0,1,0,0] 35 [(0,2)] 16
def X19_2:St:=St.mk (u_ 4 (I_ (Int.negSucc 0)::u_ 22 [])) []
def X19_3(i0:Int):St:=St.mk (U_::I_ i0::u_ 25 []) []
def y19_0(a:List Card)(i1:Int):=Card.mk (deS Bool (D.rows (getD (getD (enS false a) (toNat i1) []) 0 D.dead))) (deS Member (D.rows (getD (getD (enS false a) (toNat i1) []) 1 D.dead))) (deS Heard (D.rows (getD (getD (enS false a) (toNat i1) []) 2 D.dead)))
theorem Z0w(a:List Card)(n:Nat)(i0:Int)(i1:Int)(f:St→RR)(K:Ex→St→RR):B19_0 n (S19_0 a i0 i1) (kThen (λst↦f (St.head 0 35 67104818 st)) K)=bif decide (i1<ofNat (length (enS false a)))then bif decide (0≤i1)&&decide (i1<ofNat (length (enS false a)))then bif Leaf.fit false (Leaf.sl 1 true) (getD (getD (enS false a) (toNat i1) []) 0 D.dead)&&(Leaf.fit false (Leaf.sl 2 false) (getD (getD (enS false a) (toNat i1) []) 1 D.dead)&&(Leaf.fit false (Leaf.sl 4 true) (getD (getD (enS false a) (toNat i1) []) 2 D.dead)&&true))then bif isS Bool false (D.rows (getD (getD (enS false a) (toNat i1) []) 0 D.dead))&&isS Member false (D.rows (getD (getD (enS false a) (toNat i1) []) 1 D.dead))&&isS Heard false (D.rows (getD (getD (enS false a) (toNat i1) []) 2 D.dead))&&(decide (0≤i0)&&(decide (i0≤1048576)&&Card.big (y19_0 a i1)))then bif decide (szR (Card.wt (y19_0 a i1)) i0<0)then K Ex.ret X19_2 else f (S19_0 a (szR (Card.wt (y19_0 a i1)) i0) (wrap i64 (i1+1)))else none else none else none else K (Ex.exit 0) (X19_3 i0):=by kernel_rfl
theorem Zyh(n:Nat):k19_1 n Ex.ret X19_2=some ([[D.int i64 (Int.negSucc 0)]],[]):=by kernel_rfl
theorem Zyi(n:Nat)(i0:Int):k19_1 n (Ex.exit 0) (X19_3 i0)=some ([[D.int i64 i0]],[]):=by kernel_rfl
def e19(a:List Card)(left:Int)(n:Nat):=evFn ⟨prog,Hx,19⟩ T47.call n f19 [zp15.row a,zp0.row left]
theorem r19(a:List Card)(left:Int)(n:Nat):e19 a left n=bif decide (wrap i64 (left-ofNat (length (enS false a)))<0)then some ([[D.int i64 (Int.negSucc 0)]],[])else loopRun (B19_0 n) 0 35 67104818 n (S19_0 a (wrap i64 (left-ofNat (length (enS false a)))) (0)) (k19_1 n):=by kernel_rfl
theorem m19(a:List Card)(left:Int):(o19 a left).1=true→e19 a left (a.length+1)=some (o19 a left).2:=by
 refine pm λhpre=>(r19 a left _).trans ?_;simp only[Bool.and_eq_true,decide_eq_true_eq]at hpre;obtain⟨h0,h1,h2,h3⟩:=hpre;simp only[Zaa];have hw:IntKind.wrap IntKind.i64 (left-Int.ofNat a.length)=left-(a.length:Int):=Zb6 (by show _≤left-(a.length:Int);omega) (by show left-(a.length:Int)≤_;omega)
 rw[hw];have hc:=Zag (n:=Card.wt) Card.wt_pos a;by_cases hl:(a.length:Int)≤left
 case neg=>
  rw[decide_eq_true (by omega),Zbl (by omega)]
  rfl
 rw[decide_eq_false (by omega),cond_false]
 have hlen:a.length≤1048576:=by omega
 have hg:szR ((a.length:Int)+cntS Card.wt a) left=szR (cntS Card.wt a) (left-(a.length:Int)):=by
  by_cases h:cntS Card.wt a≤left-(a.length:Int)
  ·rw[Zcd h,Zcd (by omega)];omega
  ·rw[Zbl (by omega),Zbl (by omega)]
 rw[hg];refine Zai (xs:=a) (λi (l:Int)=>S19_0 a l (Int.ofNat i)) (λ_ l=>0≤l∧l≤1048576) (λ_ l rest=>some ([[D.int .i64 (szR (cntS Card.wt rest) l)]],[])) ?_ ?_ (a.length+1) (left-(a.length:Int)) (by omega) ⟨by omega,by omega⟩
 ·rintro l ⟨g0,g1⟩ f;refine(Z0w a _ _ _ f _).trans ?_;delta y19_0;rw[Zaw,cond_false];refine(Zyi _ _).trans ?_;rw[cntS,Zcd g0,Int.sub_zero]
 ·rintro i l hi ⟨g0,g1⟩ f hf;refine(Z0w a _ _ _ f _).trans ?_;delta y19_0;have hel:=List.all_eq_true.1 h3 _ (List.getElem_mem hi);have hp:=Card.wt_pos a[i];have hc2:=Zag (n:=Card.wt) Card.wt_pos (a.drop (i+1));have d0:decide (0≤l)=true:=decide_eq_true g0;have d1:decide (l≤1048576)=true:=decide_eq_true g1;simp only[gos,En.enc,D.num,D.flag,D.text,D.rows,Leaf.fit,Zbo,Zab _ hi,hi,Zae (show i<4611686018427387904 by omega),hel,d0,d1]
  rcases Zbe (Card.wt a[i]) l g0 with⟨a1,b1,c1⟩|⟨a1,b1,c1⟩
  ·rw[c1,cond_false,b1];refine(hf (l-Card.wt a[i]) ⟨by omega,by omega⟩).trans ?_
   have:szR (cntS Card.wt (a[i]::a.drop (i+1))) l=szR (cntS Card.wt (a.drop (i+1))) (l-Card.wt a[i]):=by
    show szR (Card.wt a[i]+cntS Card.wt (a.drop (i+1))) l=_;by_cases h:cntS Card.wt (a.drop (i+1))≤l-Card.wt a[i]
    ·rw[Zcd h,Zcd (by omega)];omega
    ·rw[Zbl (by omega),Zbl (by omega)]
   rw[this]
  ·rw[c1,cond_true];refine(Zyh _).trans ?_;have:szR (cntS Card.wt (a[i]::a.drop (i+1))) l=-1:=by
    show szR (Card.wt a[i]+cntS Card.wt (a.drop (i+1))) l=_;exact Zbl (by omega)
   rw[this];rfl
def T19:Table:=(19,c19)::T47
theorem Zqj:Table.Sound prog Hx T19:=sa Zrb func19 (by kernel_rfl) (Zah λa=>Zah λleft=>Zan λh=>⟨_,m19 a left h⟩)
def o46(a:List Link)(left:Int):Bool×List Row×List Row:=(decide (0≤left)&&(decide (left≤1048576)&&decide (a.length≤9223372036854775807)),[[.int .i64 (szR (a.length:Int) left)]],[])
def c46:Contract:=(cp zp17 λa=>cp zp0 λleft=>c0 (o46 a left)) true
def e46(a:List Link)(left:Int)(n:Nat):=evFn ⟨prog,Hx,46⟩ T19.call n f46 [zp17.row a,zp0.row left]
theorem r46(a:List Link)(left:Int)(n:Nat):e46 a left n=bif decide (wrap i64 (left-ofNat (length (enS false a)))<0)then some ([[D.int i64 (Int.negSucc 0)]],[])else some ([[D.int i64 (wrap i64 (left-ofNat (length (enS false a))))]],[]):=by kernel_rfl
theorem m46(a:List Link)(left:Int):(o46 a left).1=true→e46 a left 0=some (o46 a left).2:=by
 refine pm λhpre=>(r46 a left _).trans ?_;simp only[Bool.and_eq_true,decide_eq_true_eq]at hpre;obtain⟨h0,h1,h2⟩:=hpre;simp only[Zaa];have hw:IntKind.wrap IntKind.i64 (left-Int.ofNat a.length)=left-(a.length:Int):=Zb6 (by show _≤left-(a.length:Int);omega) (by show left-(a.length:Int)≤_;omega)
 rw[hw];unfold szR;by_cases h:(a.length:Int)≤left
 ·rw[decide_eq_false (by omega),decide_eq_true h];rfl
 ·rw[decide_eq_true (by omega),decide_eq_false h];rfl
def T46:Table:=(46,c46)::T19
theorem Zra:Table.Sound prog Hx T46:=sa Zqj func46 (by kernel_rfl) (Zah λa=>Zah λleft=>Zan λh=>⟨_,m46 a left h⟩)
def o18(a:Net)(left:Int):Bool×List Row×List Row:=(decide (0≤left)&&(decide (left≤1048576)&&Net.big a),[[.int .i64 (szR (Net.wt a) left)]],[])
def c18:Contract:=(cp zp18 λa=>cp zp0 λleft=>c0 (o18 a left)) true
def e18(a:Net)(left:Int)(n:Nat):=evFn ⟨prog,Hx,18⟩ T46.call n f18 [zp18.row a,zp0.row left]
def y18_0(a:Net):=ofNat (length (deS Bridge (enS false (Net.Bridges a))))+cntS Bridge.wt (deS Bridge (enS false (Net.Bridges a)))
theorem r18(a:Net)(left:Int)(n:Nat):e18 a left n=bif isS Bridge false (enS false (Net.Bridges a))&&(decide (0≤left)&&(decide (left≤1048576)&&(decide (length (deS Bridge (enS false (Net.Bridges a)))≤9223372036854775807)&&all (deS Bridge (enS false (Net.Bridges a))) Bridge.big)))then bif decide (szR (y18_0 a) left<0)then some ([[D.int i64 (Int.negSucc 0)]],[])else bif isS Link false (enS false (Net.Links a))&&(decide (0≤szR (y18_0 a) left)&&(decide (szR (y18_0 a) left≤1048576)&&decide (length (deS Link (enS false (Net.Links a)))≤9223372036854775807)))then bif decide (szR (ofNat (length (deS Link (enS false (Net.Links a))))) (szR (y18_0 a) left)<0)then some ([[D.int i64 (Int.negSucc 0)]],[])else some ([[D.int i64 (szR (ofNat (length (deS Link (enS false (Net.Links a))))) (szR (y18_0 a) left))]],[])else none else none:=by kernel_rfl
theorem m18(a:Net)(left:Int):(o18 a left).1=true→e18 a left 0=some (o18 a left).2:=by
 refine pm λhpre=>(r18 a left _).trans ?_;delta y18_0;simp only[Bool.and_eq_true,decide_eq_true_eq]at hpre;obtain⟨h0,h1,h2⟩:=hpre;unfold Net.big at h2;try simp only[Bool.and_eq_true]at h2
 unfold Net.wt;have p0:0≤((a.Bridges.length:Int)+cntS Bridge.wt a.Bridges):=by have:=Zag (n:=Bridge.wt) Bridge.wt_pos a.Bridges;omega
 have p1:0≤(a.Links.length:Int):=by omega
 have g0:decide (0≤left)=true:=decide_eq_true (by omega)
 have f0:decide (left≤1048576)=true:=decide_eq_true (by omega)
 rcases Zbe (((a.Bridges.length:Int)+cntS Bridge.wt a.Bridges)) (left) (by omega)with⟨a0,b0,c0⟩|⟨a0,b0,c0⟩
 case inr=>
  rw[b0]at c0;simp only[g0,f0,b0,c0,h2,Int.ofNat_eq_natCast,Zak,Zad,cond_true,cond_false,Bool.and_self,Bool.and_true,Bool.true_and];try rw[Zbl (by omega)]
  try rfl
 rw[b0]at c0;have g1:decide (0≤left-((a.Bridges.length:Int)+cntS Bridge.wt a.Bridges))=true:=decide_eq_true (by omega)
 have f1:decide (left-((a.Bridges.length:Int)+cntS Bridge.wt a.Bridges)≤1048576)=true:=decide_eq_true (by omega)
 rcases Zbe ((a.Links.length:Int)) (left-((a.Bridges.length:Int)+cntS Bridge.wt a.Bridges)) (by omega)with⟨a1,b1,c1⟩|⟨a1,b1,c1⟩
 case inr=>
  rw[b1]at c1;simp only[g0,f0,b0,c0,g1,f1,b1,c1,h2,Int.ofNat_eq_natCast,Zak,Zad,cond_true,cond_false,Bool.and_self,Bool.and_true,Bool.true_and];try rw[Zbl (by omega)]
  try rfl
 rw[b1]at c1;simp only[g0,f0,b0,c0,g1,f1,b1,c1,h2,Int.ofNat_eq_natCast,Zak,Zad,cond_true,cond_false,Bool.and_self,Bool.and_true,Bool.true_and];try rw[Zcd (by omega)]
 try rfl
 try (refine congrArg (λz=>(some ([[D.int IntKind.i64 z]],[]):Option (List Row×List Row))) ?_;omega)
def T18:Table:=(18,c18)::T46
theorem Zqi:Table.Sound prog Hx T18:=sa Zra func18 (by kernel_rfl) (Zah λa=>Zah λleft=>Zan λh=>⟨_,m18 a left h⟩)
def o4(a:Fabric)(left:Int):Bool×List Row×List Row:=(decide (0≤left)&&(decide (left≤1048576)&&Fabric.big a),[[.int .i64 (szR (Fabric.wt a) left)]],[])
def c4:Contract:=(cp zp19 λa=>cp zp0 λleft=>c0 (o4 a left)) true
def e4(a:Fabric)(left:Int)(n:Nat):=evFn ⟨prog,Hx,4⟩ T18.call n f4 [zp19.row a,zp0.row left]
def y4_0(a:Fabric):=Net.mk (deS Bridge (enS false (Net.Bridges (Fabric.Net a)))) (deS Link (enS false (Net.Links (Fabric.Net a))))
theorem r4(a:Fabric)(left:Int)(n:Nat):e4 a left n=bif isS Bridge false (enS false (Net.Bridges (Fabric.Net a)))&&isS Link false (enS false (Net.Links (Fabric.Net a)))&&(decide (0≤left)&&(decide (left≤1048576)&&Net.big (y4_0 a)))then bif decide (szR (Net.wt (y4_0 a)) left<0)then some ([[D.int i64 (Int.negSucc 0)]],[])else bif isS Card false (enS false (Fabric.Cards a))&&(decide (0≤szR (Net.wt (y4_0 a)) left)&&(decide (szR (Net.wt (y4_0 a)) left≤1048576)&&(decide (length (deS Card (enS false (Fabric.Cards a)))≤9223372036854775807)&&all (deS Card (enS false (Fabric.Cards a))) Card.big)))then bif decide (szR (ofNat (length (deS Card (enS false (Fabric.Cards a))))+cntS Card.wt (deS Card (enS false (Fabric.Cards a)))) (szR (Net.wt (y4_0 a)) left)<0)then some ([[D.int i64 (Int.negSucc 0)]],[])else some ([[D.int i64 (szR (ofNat (length (deS Card (enS false (Fabric.Cards a))))+cntS Card.wt (deS Card (enS false (Fabric.Cards a)))) (szR (Net.wt (y4_0 a)) left))]],[])else none else none:=by kernel_rfl
theorem m4(a:Fabric)(left:Int):(o4 a left).1=true→e4 a left 0=some (o4 a left).2:=by
 refine pm λhpre=>(r4 a left _).trans ?_;delta y4_0;simp only[Bool.and_eq_true,decide_eq_true_eq]at hpre;obtain⟨h0,h1,h2⟩:=hpre;unfold Fabric.big at h2;try simp only[Bool.and_eq_true]at h2
 unfold Fabric.wt;have p0:0≤Net.wt a.Net:=by exact Net.wt_pos a.Net
 have p1:0≤((a.Cards.length:Int)+cntS Card.wt a.Cards):=by have:=Zag (n:=Card.wt) Card.wt_pos a.Cards;omega
 have g0:decide (0≤left)=true:=decide_eq_true (by omega)
 have f0:decide (left≤1048576)=true:=decide_eq_true (by omega)
 rcases Zbe (Net.wt a.Net) (left) (by omega)with⟨a0,b0,c0⟩|⟨a0,b0,c0⟩
 case inr=>
  rw[b0]at c0;simp only[g0,f0,b0,c0,h2,Int.ofNat_eq_natCast,Zak,Zad,cond_true,cond_false,Bool.and_self,Bool.and_true,Bool.true_and];try rw[Zbl (by omega)]
  try rfl
 rw[b0]at c0;have g1:decide (0≤left-Net.wt a.Net)=true:=decide_eq_true (by omega)
 have f1:decide (left-Net.wt a.Net≤1048576)=true:=decide_eq_true (by omega)
 rcases Zbe (((a.Cards.length:Int)+cntS Card.wt a.Cards)) (left-Net.wt a.Net) (by omega)with⟨a1,b1,c1⟩|⟨a1,b1,c1⟩
 case inr=>
  rw[b1]at c1;simp only[g0,f0,b0,c0,g1,f1,b1,c1,h2,Int.ofNat_eq_natCast,Zak,Zad,cond_true,cond_false,Bool.and_self,Bool.and_true,Bool.true_and];try rw[Zbl (by omega)]
  try rfl
 rw[b1]at c1;simp only[g0,f0,b0,c0,g1,f1,b1,c1,h2,Int.ofNat_eq_natCast,Zak,Zad,cond_true,cond_false,Bool.and_self,Bool.and_true,Bool.true_and];try rw[Zcd (by omega)]
 try rfl
 try (refine congrArg (λz=>(some ([[D.int IntKind.i64 z]],[]):Option (List Row×List Row))) ?_;omega)
def T4:Table:=(4,c4)::T18
theorem Zug:Table.Sound prog Hx T4:=sa Zqi func4 (by kernel_rfl) (Zah λa=>Zah λleft=>Zan λh=>⟨_,m4 a left h⟩)
def o5(a:TFrame)(left:Int):Bool×List Row×List Row:=(decide (0≤left)&&(decide (left≤1048576)&&TFrame.big a),[[.int .i64 (szR (TFrame.wt a) left)]],[])
def c5:Contract:=(cp zp20 λa=>cp zp0 λleft=>c0 (o5 a left)) true
def e5(a:TFrame)(left:Int)(n:Nat):=evFn ⟨prog,Hx,5⟩ T4.call n f5 [zp20.row a,zp0.row left]
theorem r5(a:TFrame)(left:Int)(n:Nat):e5 a left n=bif isS UInt8 false (enS false (TFrame.Load a))&&(decide (0≤left)&&(decide (left≤1048576)&&decide (length (deS UInt8 (enS false (TFrame.Load a)))≤9223372036854775807)))then bif decide (szR (ofNat (length (deS UInt8 (enS false (TFrame.Load a))))) left<0)then some ([[D.int i64 (Int.negSucc 0)]],[])else some ([[D.int i64 (szR (ofNat (length (deS UInt8 (enS false (TFrame.Load a))))) left)]],[])else none:=by kernel_rfl
theorem m5(a:TFrame)(left:Int):(o5 a left).1=true→e5 a left 0=some (o5 a left).2:=by
 refine pm λhpre=>(r5 a left _).trans ?_;simp only[Bool.and_eq_true,decide_eq_true_eq]at hpre;obtain⟨h0,h1,h2⟩:=hpre;unfold TFrame.big at h2;try simp only[Bool.and_eq_true]at h2
 unfold TFrame.wt;have p0:0≤(a.Load.length:Int):=by omega
 have g0:decide (0≤left)=true:=decide_eq_true (by omega)
 have f0:decide (left≤1048576)=true:=decide_eq_true (by omega)
 rcases Zbe ((a.Load.length:Int)) (left) (by omega)with⟨a0,b0,c0⟩|⟨a0,b0,c0⟩
 case inr=>
  rw[b0]at c0;simp only[g0,f0,b0,c0,h2,Int.ofNat_eq_natCast,Zak,Zad,cond_true,cond_false,Bool.and_self,Bool.and_true,Bool.true_and];try rw[Zbl (by omega)]
  try rfl
 rw[b0]at c0;simp only[g0,f0,b0,c0,h2,Int.ofNat_eq_natCast,Zak,Zad,cond_true,cond_false,Bool.and_self,Bool.and_true,Bool.true_and];try rw[Zcd (by omega)]
 try rfl
def T5:Table:=(5,c5)::T4
theorem Zuh:Table.Sound prog Hx T5:=sa Zug func5 (by kernel_rfl) (Zah λa=>Zah λleft=>Zan λh=>⟨_,m5 a left h⟩)
def o99(a:List Bool):Bool×List Row×List Row:=(decide (a.length≤1048576),[[.sl true 1 (enS true (a))]],[])
def c99:Contract:=(cp zp5 λa=>c0 (o99 a)) true
def k99_0:KT:=λn↦kThen (λst↦rC 99 T5 n f99 [1,1,1] 4 [] 4 st (lV f99 [] [])) (lV f99 [] [])
def k99_1:KT:=λn↦kBlock (0) (k99_0 n)
def S99_0(a:List Bool)(i0:Int)(es1:List (List D)):St:=St.mk (V_ [C.d (D.sl false 1 (enS false a))]::U_::U_::V_ [C.view 0 0 0 [] 1 none]::I_ i0::u_ 17 []) [Root.mk false 1 es1 0 0 true true false [] 0 []]
def B99_0:BT:=λn↦rC 99 T5 n f99 [1,1,0,1,0,0] 25 [(0,8)] 4
def X99_2(es1:List (List D)):St:=St.mk (U_::U_::U_::V_ [C.view 0 0 0 [] 1 none]::u_ 18 []) [Root.mk false 1 es1 0 0 true true false [] 0 []]
theorem Z2g(a:List Bool)(n:Nat)(i0:Int)(es1:List (List D))(f:St→RR)(K:Ex→St→RR):B99_0 n (S99_0 a i0 es1) (kThen (λst↦f (St.head 1 25 2096912 st)) K)=bif decide (i0<ofNat (length (enS false a)))then bif decide (0≤i0)&&decide (i0<ofNat (length (enS false a)))then bif Leaf.fit false Leaf.bool (getD (getD (enS false a) (toNat i0) []) 0 D.dead)&&true then bif decide (0≤i0)&&decide (i0<ofNat (length es1))then f (S99_0 a (wrap i64 (i0+1)) (set es1 (0+toNat i0) [D.bool (D.flag (getD (getD (enS false a) (toNat i0) []) 0 D.dead))]))else none else none else none else K (Ex.exit 0) (X99_2 es1):=by kernel_rfl
theorem Z0c(n:Nat)(es1:List (List D)):k99_1 n (Ex.exit 0) (X99_2 es1)=some ([[D.sl true 1 es1]],[]):=by kernel_rfl
def e99(a:List Bool)(n:Nat):=evFn ⟨prog,Hx,99⟩ T5.call n f99 [zp5.row a]
theorem r99(a:List Bool)(n:Nat):e99 a n=bif decide (0≤ofNat (length (enS false a)))&&(decide (ofNat (length (enS false a))≤ofNat (length (enS false a)))&&decide (toNat (ofNat (length (enS false a)))*1≤140737488355328))then loopRun (B99_0 n) 1 25 2096912 n (S99_0 a (0) (replicate (toNat (ofNat (length (enS false a)))) [D.bool false])) (k99_1 n)else none:=by kernel_rfl
theorem m99(a:List Bool):(o99 a).1=true→e99 a (a.length+1)=some (o99 a).2:=by
 refine pm λhpre=>(r99 a _).trans ?_;have hlen:a.length≤1048576:=of_decide_eq_true hpre;rw[Zaa,Zd3 (by omega),cond_true,Zac]
 refine(congrArg (λz=>loopRun _ _ _ _ _ (S99_0 a 0 z) _) (Zd2 true a.length (En.nil:Bool))).trans ?_;refine Zai (xs:=a) (λi (ys:List Bool)=>S99_0 a (Int.ofNat i) (enS true ys)) (λi ys=>ys.length=a.length∧ys.take i=a.take i) (λ_ _ _=>some ([[D.sl true 1 (enS true a)]],[])) ?_ ?_ (a.length+1) _ (by omega) ⟨List.length_replicate ..,rfl⟩
 ·rintro ys ⟨h2,h3⟩ f;refine(Z2g a _ _ _ f _).trans ?_;simp only[Zaa,Zap,Nat.lt_irrefl,decide_false,cond_false];refine(Z0c _ _).trans ?_;rw[List.take_length,←h2,List.take_length]at h3;subst h3;rfl
 ·rintro i ys hi ⟨h2,h3⟩ f hf;refine(Z2g a _ _ _ f _).trans ?_;simp only[Zaa,Zac,Zap,Zaq,Zab _ hi,h2,hi,Zae (show i<4611686018427387904 by omega),Nat.zero_add,decide_true,cond_true,Bool.and_self]
  exact(congrArg f (congrArg (S99_0 a _) (Za9 true ys i a[i]))).trans (hf (ys.set i a[i]) ⟨by rw[List.length_set];exact h2,Zbb hi h2 h3⟩)
def T99:Table:=(99,c99)::T5
theorem Zsr:Table.Sound prog Hx T99:=sa Zuh func99 (by kernel_rfl) (Zah λa=>Zan λh=>⟨_,m99 a h⟩)
def o157(a:Vec):Bool×List Row×List Row:=(true,[[.int .i64 (a).Root,.int .i64 (a).Cost,.int .i64 (a).Bridge,.int .i64 (a).Port]],[])
def c157:Contract:=(cp zp1 λa=>c0 (o157 a)) true
def e157(a:Vec)(n:Nat):=evFn ⟨prog,Hx,157⟩ T99.call n f157 [zp1.row a]
theorem r157(a:Vec)(n:Nat):e157 a n=some ([[D.int i64 (Vec.Root a),D.int i64 (Vec.Cost a),D.int i64 (Vec.Bridge a),D.int i64 (Vec.Port a)]],[]):=by kernel_rfl
theorem m157(a:Vec):(o157 a).1=true→e157 a 0=some (o157 a).2:=by
 refine pm λhpre=>(r157 a _).trans ?_;rfl
def T157:Table:=(157,c157)::T99
theorem Zpm:Table.Sound prog Hx T157:=sa Zsr func157 (by kernel_rfl) (Zah λa=>Zan λh=>⟨_,m157 a h⟩)
def o149(a:Port):Bool×List Row×List Row:=(true,[[.bool (a).Up,.bool (a).Has,.int .i64 (a).Vec.Root,.int .i64 (a).Vec.Cost,.int .i64 (a).Vec.Bridge,.int .i64 (a).Vec.Port,.int .i64 (a).Hops,.int .i64 (a).Left,.int .i64 (a).Role,.int .i64 (a).Wait,.bool (a).Open]],[])
def c149:Contract:=(cp zp3 λa=>c0 (o149 a)) true
def e149(a:Port)(n:Nat):=evFn ⟨prog,Hx,149⟩ T157.call n f149 [zp3.row a]
theorem r149(a:Port)(n:Nat):e149 a n=some ([[D.bool (Port.Up a),D.bool (Port.Has a),D.int i64 (Vec.Root (Port.Vec a)),D.int i64 (Vec.Cost (Port.Vec a)),D.int i64 (Vec.Bridge (Port.Vec a)),D.int i64 (Vec.Port (Port.Vec a)),D.int i64 (Port.Hops a),D.int i64 (Port.Left a),D.int i64 (Port.Role a),D.int i64 (Port.Wait a),D.bool (Port.Open a)]],[]):=by kernel_rfl
theorem m149(a:Port):(o149 a).1=true→e149 a 0=some (o149 a).2:=by
 refine pm λhpre=>(r149 a _).trans ?_;rfl
def T149:Table:=(149,c149)::T157
theorem Zpe:Table.Sound prog Hx T149:=sa Zpm func149 (by kernel_rfl) (Zah λa=>Zan λh=>⟨_,m149 a h⟩)
def o132(a:List Port):Bool×List Row×List Row:=(decide (a.length≤1048576),[[.sl true 11 (enS true (a))]],[])
def c132:Contract:=(cp zp6 λa=>c0 (o132 a)) true
def k132_0:KT:=λn↦kThen (λst↦rC 132 T149 n f132 [1,1,1] 4 [] 4 st (lV f132 [] [])) (lV f132 [] [])
def k132_1:KT:=λn↦kBlock (0) (k132_0 n)
def S132_0(a:List Port)(i0:Int)(es1:List (List D)):St:=St.mk (V_ [C.d (D.sl false 11 (enS false a))]::U_::U_::V_ [C.view 0 0 0 [] 11 none]::I_ i0::u_ 18 []) [Root.mk false 11 es1 0 0 true true false [] 0 []]
def B132_0:BT:=λn↦rC 132 T149 n f132 [1,1,0,1,0,0] 25 [(0,8)] 4
def X132_2(es1:List (List D)):St:=St.mk (U_::U_::U_::V_ [C.view 0 0 0 [] 11 none]::u_ 19 []) [Root.mk false 11 es1 0 0 true true false [] 0 []]
theorem Zwd(a:List Port)(n:Nat)(i0:Int)(es1:List (List D))(f:St→RR)(K:Ex→St→RR):B132_0 n (S132_0 a i0 es1) (kThen (λst↦f (St.head 1 25 4194064 st)) K)=bif decide (i0<ofNat (length (enS false a)))then bif decide (0≤i0)&&decide (i0<ofNat (length (enS false a)))then bif Leaf.fit false Leaf.bool (getD (getD (enS false a) (toNat i0) []) 0 D.dead)&&(Leaf.fit false Leaf.bool (getD (getD (enS false a) (toNat i0) []) 1 D.dead)&&(Leaf.fit false (Leaf.int i64) (getD (getD (enS false a) (toNat i0) []) 2 D.dead)&&(Leaf.fit false (Leaf.int i64) (getD (getD (enS false a) (toNat i0) []) 3 D.dead)&&(Leaf.fit false (Leaf.int i64) (getD (getD (enS false a) (toNat i0) []) 4 D.dead)&&(Leaf.fit false (Leaf.int i64) (getD (getD (enS false a) (toNat i0) []) 5 D.dead)&&(Leaf.fit false (Leaf.int i64) (getD (getD (enS false a) (toNat i0) []) 6 D.dead)&&(Leaf.fit false (Leaf.int i64) (getD (getD (enS false a) (toNat i0) []) 7 D.dead)&&(Leaf.fit false (Leaf.int i64) (getD (getD (enS false a) (toNat i0) []) 8 D.dead)&&(Leaf.fit false (Leaf.int i64) (getD (getD (enS false a) (toNat i0) []) 9 D.dead)&&(Leaf.fit false Leaf.bool (getD (getD (enS false a) (toNat i0) []) 10 D.dead)&&true))))))))))then bif decide (0≤i0)&&decide (i0<ofNat (length es1))then f (S132_0 a (wrap i64 (i0+1)) (set es1 (0+toNat i0) [D.bool (D.flag (getD (getD (enS false a) (toNat i0) []) 0 D.dead)),D.bool (D.flag (getD (getD (enS false a) (toNat i0) []) 1 D.dead)),D.int i64 (D.num (getD (getD (enS false a) (toNat i0) []) 2 D.dead)),D.int i64 (D.num (getD (getD (enS false a) (toNat i0) []) 3 D.dead)),D.int i64 (D.num (getD (getD (enS false a) (toNat i0) []) 4 D.dead)),D.int i64 (D.num (getD (getD (enS false a) (toNat i0) []) 5 D.dead)),D.int i64 (D.num (getD (getD (enS false a) (toNat i0) []) 6 D.dead)),D.int i64 (D.num (getD (getD (enS false a) (toNat i0) []) 7 D.dead)),D.int i64 (D.num (getD (getD (enS false a) (toNat i0) []) 8 D.dead)),D.int i64 (D.num (getD (getD (enS false a) (toNat i0) []) 9 D.dead)),D.bool (D.flag (getD (getD (enS false a) (toNat i0) []) 10 D.dead))]))else none else none else none else K (Ex.exit 0) (X132_2 es1):=by kernel_rfl
theorem Zw9(n:Nat)(es1:List (List D)):k132_1 n (Ex.exit 0) (X132_2 es1)=some ([[D.sl true 11 es1]],[]):=by kernel_rfl
def e132(a:List Port)(n:Nat):=evFn ⟨prog,Hx,132⟩ T149.call n f132 [zp6.row a]
theorem r132(a:List Port)(n:Nat):e132 a n=bif decide (0≤ofNat (length (enS false a)))&&(decide (ofNat (length (enS false a))≤ofNat (length (enS false a)))&&decide (toNat (ofNat (length (enS false a)))*80≤140737488355328))then loopRun (B132_0 n) 1 25 4194064 n (S132_0 a (0) (replicate (toNat (ofNat (length (enS false a)))) [D.bool false,D.bool false,D.int i64 (0),D.int i64 (0),D.int i64 (0),D.int i64 (0),D.int i64 (0),D.int i64 (0),D.int i64 (0),D.int i64 (0),D.bool false])) (k132_1 n)else none:=by kernel_rfl
theorem m132(a:List Port):(o132 a).1=true→e132 a (a.length+1)=some (o132 a).2:=by
 refine pm λhpre=>(r132 a _).trans ?_;have hlen:a.length≤1048576:=of_decide_eq_true hpre;rw[Zaa,Zd3 (by omega),cond_true,Zac]
 refine(congrArg (λz=>loopRun _ _ _ _ _ (S132_0 a 0 z) _) (Zd2 true a.length (En.nil:Port))).trans ?_;refine Zai (xs:=a) (λi (ys:List Port)=>S132_0 a (Int.ofNat i) (enS true ys)) (λi ys=>ys.length=a.length∧ys.take i=a.take i) (λ_ _ _=>some ([[D.sl true 11 (enS true a)]],[])) ?_ ?_ (a.length+1) _ (by omega) ⟨List.length_replicate ..,rfl⟩
 ·rintro ys ⟨h2,h3⟩ f;refine(Zwd a _ _ _ f _).trans ?_;simp only[Zaa,Zap,Nat.lt_irrefl,decide_false,cond_false];refine(Zw9 _ _).trans ?_;rw[List.take_length,←h2,List.take_length]at h3;subst h3;rfl
 ·rintro i ys hi ⟨h2,h3⟩ f hf;refine(Zwd a _ _ _ f _).trans ?_;simp only[Zaa,Zac,Zap,Zaq,Zab _ hi,h2,hi,Zae (show i<4611686018427387904 by omega),Nat.zero_add,decide_true,cond_true,Bool.and_self]
  exact(congrArg f (congrArg (S132_0 a _) (Za9 true ys i a[i]))).trans (hf (ys.set i a[i]) ⟨by rw[List.length_set];exact h2,Zbb hi h2 h3⟩)
def T132:Table:=(132,c132)::T149
theorem Zox:Table.Sound prog Hx T132:=sa Zpe func132 (by kernel_rfl) (Zah λa=>Zan λh=>⟨_,m132 a h⟩)
def o97(a:Bridge):Bool×List Row×List Row:=(Bridge.small a,[[.int .i64 (a).Id,.sl true 11 (enS true (a).Ports)]],[])
def c97:Contract:=(cp zp4 λa=>c0 (o97 a)) true
def e97(a:Bridge)(n:Nat):=evFn ⟨prog,Hx,97⟩ T132.call n f97 [zp4.row a]
theorem r97(a:Bridge)(n:Nat):e97 a n=bif isS Port false (enS false (Bridge.Ports a))&&decide (length (deS Port (enS false (Bridge.Ports a)))≤1048576)then some ([[D.int i64 (Bridge.Id a),D.sl true 11 (enS true (deS Port (enS false (Bridge.Ports a))))]],[])else none:=by kernel_rfl
theorem m97(a:Bridge):(o97 a).1=true→e97 a 0=some (o97 a).2:=by
 refine pm λhpre=>(r97 a _).trans ?_;unfold Bridge.small at hpre;try simp only[Bool.and_eq_true]at hpre
 simp only[hpre,Zak,Zad,cond_true,Bool.and_self,Bool.and_true,Bool.true_and];try rfl
def T97:Table:=(97,c97)::T132
theorem Zsp:Table.Sound prog Hx T97:=sa Zox func97 (by kernel_rfl) (Zah λa=>Zan λh=>⟨_,m97 a h⟩)
def o56(a:List Bridge):Bool×List Row×List Row:=((decide (a.length≤1048576)&&a.all Bridge.small),[[.sl true 2 (enS true (a))]],[])
def c56:Contract:=(cp zp7 λa=>c0 (o56 a)) true
def k56_0:KT:=λn↦kThen (λst↦rC 56 T97 n f56 [1,1,1] 4 [] 4 st (lV f56 [] [])) (lV f56 [] [])
def k56_1:KT:=λn↦kBlock (0) (k56_0 n)
def S56_0(a:List Bridge)(i0:Int)(es1:List (List D)):St:=St.mk (V_ [C.d (D.sl false 2 (enS false a))]::U_::U_::V_ [C.view 0 0 0 [] 2 none]::I_ i0::u_ 18 []) [Root.mk false 2 es1 0 0 true true false [] 0 []]
def B56_0:BT:=λn↦rC 56 T97 n f56 [1,1,0,1,0,0] 25 [(0,8)] 4
def X56_2(es1:List (List D)):St:=St.mk (U_::U_::U_::V_ [C.view 0 0 0 [] 2 none]::u_ 19 []) [Root.mk false 2 es1 0 0 true true false [] 0 []]
theorem Z1m(a:List Bridge)(n:Nat)(i0:Int)(es1:List (List D))(f:St→RR)(K:Ex→St→RR):B56_0 n (S56_0 a i0 es1) (kThen (λst↦f (St.head 1 25 4194064 st)) K)=bif decide (i0<ofNat (length (enS false a)))then bif decide (0≤i0)&&decide (i0<ofNat (length (enS false a)))then bif Leaf.fit false (Leaf.int i64) (getD (getD (enS false a) (toNat i0) []) 0 D.dead)&&(Leaf.fit false (Leaf.sl 11 true) (getD (getD (enS false a) (toNat i0) []) 1 D.dead)&&true)then bif isS Port false (D.rows (getD (getD (enS false a) (toNat i0) []) 1 D.dead))&&Bridge.small (Bridge.mk (D.num (getD (getD (enS false a) (toNat i0) []) 0 D.dead)) (deS Port (D.rows (getD (getD (enS false a) (toNat i0) []) 1 D.dead))))then bif decide (0≤i0)&&decide (i0<ofNat (length es1))then f (S56_0 a (wrap i64 (i0+1)) (set es1 (0+toNat i0) [D.int i64 (D.num (getD (getD (enS false a) (toNat i0) []) 0 D.dead)),D.sl true 11 (enS true (deS Port (D.rows (getD (getD (enS false a) (toNat i0) []) 1 D.dead))))]))else none else none else none else none else K (Ex.exit 0) (X56_2 es1):=by kernel_rfl
theorem Zzb(n:Nat)(es1:List (List D)):k56_1 n (Ex.exit 0) (X56_2 es1)=some ([[D.sl true 2 es1]],[]):=by kernel_rfl
def e56(a:List Bridge)(n:Nat):=evFn ⟨prog,Hx,56⟩ T97.call n f56 [zp7.row a]
theorem r56(a:List Bridge)(n:Nat):e56 a n=bif decide (0≤ofNat (length (enS false a)))&&(decide (ofNat (length (enS false a))≤ofNat (length (enS false a)))&&decide (toNat (ofNat (length (enS false a)))*32≤140737488355328))then loopRun (B56_0 n) 1 25 4194064 n (S56_0 a (0) (replicate (toNat (ofNat (length (enS false a)))) [D.int i64 (0),D.sl true 11 []])) (k56_1 n)else none:=by kernel_rfl
theorem m56(a:List Bridge):(o56 a).1=true→e56 a (a.length+1)=some (o56 a).2:=by
 refine pm λhpre=>(r56 a _).trans ?_;rw[Bool.and_eq_true]at hpre;have hlen:=of_decide_eq_true hpre.1;rw[Zaa,Zd3 (by omega),cond_true,Zac]
 refine(congrArg (λz=>loopRun _ _ _ _ _ (S56_0 a 0 z) _) (Zd2 true a.length (En.nil:Bridge))).trans ?_;refine Zai (xs:=a) (λi (ys:List Bridge)=>S56_0 a (Int.ofNat i) (enS true ys)) (λi ys=>ys.length=a.length∧ys.take i=a.take i) (λ_ _ _=>some ([[D.sl true 2 (enS true a)]],[])) ?_ ?_ (a.length+1) _ (by omega) ⟨List.length_replicate ..,rfl⟩
 ·rintro ys ⟨h2,h3⟩ f;refine(Z1m a _ _ _ f _).trans ?_;rw[Zaw,cond_false];refine(Zzb _ _).trans ?_;rw[List.take_length,←h2,List.take_length]at h3;subst h3;rfl
 ·rintro i ys hi ⟨h2,h3⟩ f hf;refine(Z1m a _ _ _ f _).trans ?_;have hel:=List.all_eq_true.1 hpre.2 _ (List.getElem_mem hi);simp only[gos,En.enc,D.num,D.flag,D.text,D.rows,Leaf.fit,Zbo,Zab _ hi,hi,Zae (show i<4611686018427387904 by omega),h2,hel]
  exact(congrArg f (congrArg (S56_0 a _) (Za9 true ys i a[i]))).trans (hf (ys.set i a[i]) ⟨by rw[List.length_set];exact h2,Zbb hi h2 h3⟩)
def T56:Table:=(56,c56)::T97
theorem Zrk:Table.Sound prog Hx T56:=sa Zsp func56 (by kernel_rfl) (Zah λa=>Zan λh=>⟨_,m56 a h⟩)
def o29(a:List UInt8):Bool×List Row×List Row:=(decide (a.length≤1048576),[[.sl true 1 (enS true (a))]],[])
def c29:Contract:=(cp zp8 λa=>c0 (o29 a)) true
def k29_0:KT:=λn↦kThen (λst↦rC 29 T56 n f29 [1,1,1] 4 [] 4 st (lV f29 [] [])) (lV f29 [] [])
def k29_1:KT:=λn↦kBlock (0) (k29_0 n)
def S29_0(a:List UInt8)(i0:Int)(es1:List (List D)):St:=St.mk (V_ [C.d (D.sl false 1 (enS false a))]::U_::U_::V_ [C.view 0 0 0 [] 1 none]::I_ i0::u_ 17 []) [Root.mk false 1 es1 0 0 true true false [] 0 []]
def B29_0:BT:=λn↦rC 29 T56 n f29 [1,1,0,1,0,0] 25 [(0,8)] 4
def X29_2(es1:List (List D)):St:=St.mk (U_::U_::U_::V_ [C.view 0 0 0 [] 1 none]::u_ 18 []) [Root.mk false 1 es1 0 0 true true false [] 0 []]
theorem Z03(a:List UInt8)(n:Nat)(i0:Int)(es1:List (List D))(f:St→RR)(K:Ex→St→RR):B29_0 n (S29_0 a i0 es1) (kThen (λst↦f (St.head 1 25 2096912 st)) K)=bif decide (i0<ofNat (length (enS false a)))then bif decide (0≤i0)&&decide (i0<ofNat (length (enS false a)))then bif Leaf.fit false (Leaf.int IntKind.u8) (getD (getD (enS false a) (toNat i0) []) 0 D.dead)&&true then bif decide (0≤i0)&&decide (i0<ofNat (length es1))then f (S29_0 a (wrap i64 (i0+1)) (set es1 (0+toNat i0) [D.int IntKind.u8 (D.num (getD (getD (enS false a) (toNat i0) []) 0 D.dead))]))else none else none else none else K (Ex.exit 0) (X29_2 es1):=by kernel_rfl
theorem Zyp(n:Nat)(es1:List (List D)):k29_1 n (Ex.exit 0) (X29_2 es1)=some ([[D.sl true 1 es1]],[]):=by kernel_rfl
def e29(a:List UInt8)(n:Nat):=evFn ⟨prog,Hx,29⟩ T56.call n f29 [zp8.row a]
theorem r29(a:List UInt8)(n:Nat):e29 a n=bif decide (0≤ofNat (length (enS false a)))&&(decide (ofNat (length (enS false a))≤ofNat (length (enS false a)))&&decide (toNat (ofNat (length (enS false a)))*1≤140737488355328))then loopRun (B29_0 n) 1 25 2096912 n (S29_0 a (0) (replicate (toNat (ofNat (length (enS false a)))) [D.int IntKind.u8 (0)])) (k29_1 n)else none:=by kernel_rfl
theorem m29(a:List UInt8):(o29 a).1=true→e29 a (a.length+1)=some (o29 a).2:=by
 refine pm λhpre=>(r29 a _).trans ?_;have hlen:a.length≤1048576:=of_decide_eq_true hpre;rw[Zaa,Zd3 (by omega),cond_true,Zac]
 refine(congrArg (λz=>loopRun _ _ _ _ _ (S29_0 a 0 z) _) (Zd2 true a.length (En.nil:UInt8))).trans ?_;refine Zai (xs:=a) (λi (ys:List UInt8)=>S29_0 a (Int.ofNat i) (enS true ys)) (λi ys=>ys.length=a.length∧ys.take i=a.take i) (λ_ _ _=>some ([[D.sl true 1 (enS true a)]],[])) ?_ ?_ (a.length+1) _ (by omega) ⟨List.length_replicate ..,rfl⟩
 ·rintro ys ⟨h2,h3⟩ f;refine(Z03 a _ _ _ f _).trans ?_;simp only[Zaa,Zap,Nat.lt_irrefl,decide_false,cond_false];refine(Zyp _ _).trans ?_;rw[List.take_length,←h2,List.take_length]at h3;subst h3;rfl
 ·rintro i ys hi ⟨h2,h3⟩ f hf;refine(Z03 a _ _ _ f _).trans ?_;simp only[Zaa,Zac,Zap,Zaq,Zab _ hi,h2,hi,Zae (show i<4611686018427387904 by omega),Nat.zero_add,decide_true,cond_true,Bool.and_self]
  exact(congrArg f (congrArg (S29_0 a _) (Za9 true ys i a[i]))).trans (hf (ys.set i a[i]) ⟨by rw[List.length_set];exact h2,Zbb hi h2 h3⟩)
def T29:Table:=(29,c29)::T56
theorem Zqt:Table.Sound prog Hx T29:=sa Zrk func29 (by kernel_rfl) (Zah λa=>Zan λh=>⟨_,m29 a h⟩)
def o150(a:List Int):Bool×List Row×List Row:=(decide (a.length≤1048576),[[.sl true 1 (enS true (a))]],[])
def c150:Contract:=(cp zp9 λa=>c0 (o150 a)) true
def k150_0:KT:=λn↦kThen (λst↦rC 150 T29 n f150 [1,1,1] 4 [] 4 st (lV f150 [] [])) (lV f150 [] [])
def k150_1:KT:=λn↦kBlock (0) (k150_0 n)
def S150_0(a:List Int)(i0:Int)(es1:List (List D)):St:=St.mk (V_ [C.d (D.sl false 1 (enS false a))]::U_::U_::V_ [C.view 0 0 0 [] 1 none]::I_ i0::u_ 17 []) [Root.mk false 1 es1 0 0 true true false [] 0 []]
def B150_0:BT:=λn↦rC 150 T29 n f150 [1,1,0,1,0,0] 25 [(0,8)] 4
def X150_2(es1:List (List D)):St:=St.mk (U_::U_::U_::V_ [C.view 0 0 0 [] 1 none]::u_ 18 []) [Root.mk false 1 es1 0 0 true true false [] 0 []]
theorem Zwk(a:List Int)(n:Nat)(i0:Int)(es1:List (List D))(f:St→RR)(K:Ex→St→RR):B150_0 n (S150_0 a i0 es1) (kThen (λst↦f (St.head 1 25 2096912 st)) K)=bif decide (i0<ofNat (length (enS false a)))then bif decide (0≤i0)&&decide (i0<ofNat (length (enS false a)))then bif Leaf.fit false (Leaf.int i64) (getD (getD (enS false a) (toNat i0) []) 0 D.dead)&&true then bif decide (0≤i0)&&decide (i0<ofNat (length es1))then f (S150_0 a (wrap i64 (i0+1)) (set es1 (0+toNat i0) [D.int i64 (D.num (getD (getD (enS false a) (toNat i0) []) 0 D.dead))]))else none else none else none else K (Ex.exit 0) (X150_2 es1):=by kernel_rfl
theorem Zxg(n:Nat)(es1:List (List D)):k150_1 n (Ex.exit 0) (X150_2 es1)=some ([[D.sl true 1 es1]],[]):=by kernel_rfl
def e150(a:List Int)(n:Nat):=evFn ⟨prog,Hx,150⟩ T29.call n f150 [zp9.row a]
theorem r150(a:List Int)(n:Nat):e150 a n=bif decide (0≤ofNat (length (enS false a)))&&(decide (ofNat (length (enS false a))≤ofNat (length (enS false a)))&&decide (toNat (ofNat (length (enS false a)))*8≤140737488355328))then loopRun (B150_0 n) 1 25 2096912 n (S150_0 a (0) (replicate (toNat (ofNat (length (enS false a)))) [D.int i64 (0)])) (k150_1 n)else none:=by kernel_rfl
theorem m150(a:List Int):(o150 a).1=true→e150 a (a.length+1)=some (o150 a).2:=by
 refine pm λhpre=>(r150 a _).trans ?_;have hlen:a.length≤1048576:=of_decide_eq_true hpre;rw[Zaa,Zd3 (by omega),cond_true,Zac]
 refine(congrArg (λz=>loopRun _ _ _ _ _ (S150_0 a 0 z) _) (Zd2 true a.length (En.nil:Int))).trans ?_;refine Zai (xs:=a) (λi (ys:List Int)=>S150_0 a (Int.ofNat i) (enS true ys)) (λi ys=>ys.length=a.length∧ys.take i=a.take i) (λ_ _ _=>some ([[D.sl true 1 (enS true a)]],[])) ?_ ?_ (a.length+1) _ (by omega) ⟨List.length_replicate ..,rfl⟩
 ·rintro ys ⟨h2,h3⟩ f;refine(Zwk a _ _ _ f _).trans ?_;simp only[Zaa,Zap,Nat.lt_irrefl,decide_false,cond_false];refine(Zxg _ _).trans ?_;rw[List.take_length,←h2,List.take_length]at h3;subst h3;rfl
 ·rintro i ys hi ⟨h2,h3⟩ f hf;refine(Zwk a _ _ _ f _).trans ?_;simp only[Zaa,Zac,Zap,Zaq,Zab _ hi,h2,hi,Zae (show i<4611686018427387904 by omega),Nat.zero_add,decide_true,cond_true,Bool.and_self]
  exact(congrArg f (congrArg (S150_0 a _) (Za9 true ys i a[i]))).trans (hf (ys.set i a[i]) ⟨by rw[List.length_set];exact h2,Zbb hi h2 h3⟩)
def T150:Table:=(150,c150)::T29
theorem Zpf:Table.Sound prog Hx T150:=sa Zqt func150 (by kernel_rfl) (Zah λa=>Zan λh=>⟨_,m150 a h⟩)
def o133(a:Member):Bool×List Row×List Row:=(Member.small a,[[.int .i64 (a).Own,.sl true 1 (enS true (a).In)]],[])
def c133:Contract:=(cp zp10 λa=>c0 (o133 a)) true
def e133(a:Member)(n:Nat):=evFn ⟨prog,Hx,133⟩ T150.call n f133 [zp10.row a]
theorem r133(a:Member)(n:Nat):e133 a n=bif isS Int false (enS false (Member.In a))&&decide (length (deS Int (enS false (Member.In a)))≤1048576)then some ([[D.int i64 (Member.Own a),D.sl true 1 (enS true (deS Int (enS false (Member.In a))))]],[])else none:=by kernel_rfl
theorem m133(a:Member):(o133 a).1=true→e133 a 0=some (o133 a).2:=by
 refine pm λhpre=>(r133 a _).trans ?_;unfold Member.small at hpre;try simp only[Bool.and_eq_true]at hpre
 simp only[hpre,Zak,Zad,cond_true,Bool.and_self,Bool.and_true,Bool.true_and];try rfl
def T133:Table:=(133,c133)::T150
theorem Zoy:Table.Sound prog Hx T133:=sa Zpf func133 (by kernel_rfl) (Zah λa=>Zan λh=>⟨_,m133 a h⟩)
def o100(a:List Member):Bool×List Row×List Row:=((decide (a.length≤1048576)&&a.all Member.small),[[.sl true 2 (enS true (a))]],[])
def c100:Contract:=(cp zp11 λa=>c0 (o100 a)) true
def k100_0:KT:=λn↦kThen (λst↦rC 100 T133 n f100 [1,1,1] 4 [] 4 st (lV f100 [] [])) (lV f100 [] [])
def k100_1:KT:=λn↦kBlock (0) (k100_0 n)
def S100_0(a:List Member)(i0:Int)(es1:List (List D)):St:=St.mk (V_ [C.d (D.sl false 2 (enS false a))]::U_::U_::V_ [C.view 0 0 0 [] 2 none]::I_ i0::u_ 18 []) [Root.mk false 2 es1 0 0 true true false [] 0 []]
def B100_0:BT:=λn↦rC 100 T133 n f100 [1,1,0,1,0,0] 25 [(0,8)] 4
def X100_2(es1:List (List D)):St:=St.mk (U_::U_::U_::V_ [C.view 0 0 0 [] 2 none]::u_ 19 []) [Root.mk false 2 es1 0 0 true true false [] 0 []]
theorem Zvv(a:List Member)(n:Nat)(i0:Int)(es1:List (List D))(f:St→RR)(K:Ex→St→RR):B100_0 n (S100_0 a i0 es1) (kThen (λst↦f (St.head 1 25 4194064 st)) K)=bif decide (i0<ofNat (length (enS false a)))then bif decide (0≤i0)&&decide (i0<ofNat (length (enS false a)))then bif Leaf.fit false (Leaf.int i64) (getD (getD (enS false a) (toNat i0) []) 0 D.dead)&&(Leaf.fit false (Leaf.sl 1 true) (getD (getD (enS false a) (toNat i0) []) 1 D.dead)&&true)then bif isS Int false (D.rows (getD (getD (enS false a) (toNat i0) []) 1 D.dead))&&Member.small (Member.mk (D.num (getD (getD (enS false a) (toNat i0) []) 0 D.dead)) (deS Int (D.rows (getD (getD (enS false a) (toNat i0) []) 1 D.dead))))then bif decide (0≤i0)&&decide (i0<ofNat (length es1))then f (S100_0 a (wrap i64 (i0+1)) (set es1 (0+toNat i0) [D.int i64 (D.num (getD (getD (enS false a) (toNat i0) []) 0 D.dead)),D.sl true 1 (enS true (deS Int (D.rows (getD (getD (enS false a) (toNat i0) []) 1 D.dead))))]))else none else none else none else none else K (Ex.exit 0) (X100_2 es1):=by kernel_rfl
theorem Zwp(n:Nat)(es1:List (List D)):k100_1 n (Ex.exit 0) (X100_2 es1)=some ([[D.sl true 2 es1]],[]):=by kernel_rfl
def e100(a:List Member)(n:Nat):=evFn ⟨prog,Hx,100⟩ T133.call n f100 [zp11.row a]
theorem r100(a:List Member)(n:Nat):e100 a n=bif decide (0≤ofNat (length (enS false a)))&&(decide (ofNat (length (enS false a))≤ofNat (length (enS false a)))&&decide (toNat (ofNat (length (enS false a)))*32≤140737488355328))then loopRun (B100_0 n) 1 25 4194064 n (S100_0 a (0) (replicate (toNat (ofNat (length (enS false a)))) [D.int i64 (0),D.sl true 1 []])) (k100_1 n)else none:=by kernel_rfl
theorem m100(a:List Member):(o100 a).1=true→e100 a (a.length+1)=some (o100 a).2:=by
 refine pm λhpre=>(r100 a _).trans ?_;rw[Bool.and_eq_true]at hpre;have hlen:=of_decide_eq_true hpre.1;rw[Zaa,Zd3 (by omega),cond_true,Zac]
 refine(congrArg (λz=>loopRun _ _ _ _ _ (S100_0 a 0 z) _) (Zd2 true a.length (En.nil:Member))).trans ?_;refine Zai (xs:=a) (λi (ys:List Member)=>S100_0 a (Int.ofNat i) (enS true ys)) (λi ys=>ys.length=a.length∧ys.take i=a.take i) (λ_ _ _=>some ([[D.sl true 2 (enS true a)]],[])) ?_ ?_ (a.length+1) _ (by omega) ⟨List.length_replicate ..,rfl⟩
 ·rintro ys ⟨h2,h3⟩ f;refine(Zvv a _ _ _ f _).trans ?_;rw[Zaw,cond_false];refine(Zwp _ _).trans ?_;rw[List.take_length,←h2,List.take_length]at h3;subst h3;rfl
 ·rintro i ys hi ⟨h2,h3⟩ f hf;refine(Zvv a _ _ _ f _).trans ?_;have hel:=List.all_eq_true.1 hpre.2 _ (List.getElem_mem hi);simp only[gos,En.enc,D.num,D.flag,D.text,D.rows,Leaf.fit,Zbo,Zab _ hi,hi,Zae (show i<4611686018427387904 by omega),h2,hel]
  exact(congrArg f (congrArg (S100_0 a _) (Za9 true ys i a[i]))).trans (hf (ys.set i a[i]) ⟨by rw[List.length_set];exact h2,Zbb hi h2 h3⟩)
def T100:Table:=(100,c100)::T133
theorem Zn1:Table.Sound prog Hx T100:=sa Zoy func100 (by kernel_rfl) (Zah λa=>Zan λh=>⟨_,m100 a h⟩)
def o134(a:Heard):Bool×List Row×List Row:=(true,[[.int .i64 (a).Addr,.int .i64 (a).Vlan,.int .i64 (a).Port,.int .i64 (a).Left]],[])
def c134:Contract:=(cp zp12 λa=>c0 (o134 a)) true
def e134(a:Heard)(n:Nat):=evFn ⟨prog,Hx,134⟩ T100.call n f134 [zp12.row a]
theorem r134(a:Heard)(n:Nat):e134 a n=some ([[D.int i64 (Heard.Addr a),D.int i64 (Heard.Vlan a),D.int i64 (Heard.Port a),D.int i64 (Heard.Left a)]],[]):=by kernel_rfl
theorem m134(a:Heard):(o134 a).1=true→e134 a 0=some (o134 a).2:=by
 refine pm λhpre=>(r134 a _).trans ?_;rfl
def T134:Table:=(134,c134)::T100
theorem Zoz:Table.Sound prog Hx T134:=sa Zn1 func134 (by kernel_rfl) (Zah λa=>Zan λh=>⟨_,m134 a h⟩)
def o101(a:List Heard):Bool×List Row×List Row:=(decide (a.length≤1048576),[[.sl true 4 (enS true (a))]],[])
def c101:Contract:=(cp zp13 λa=>c0 (o101 a)) true
def k101_0:KT:=λn↦kThen (λst↦rC 101 T134 n f101 [1,1,1] 4 [] 4 st (lV f101 [] [])) (lV f101 [] [])
def k101_1:KT:=λn↦kBlock (0) (k101_0 n)
def S101_0(a:List Heard)(i0:Int)(es1:List (List D)):St:=St.mk (V_ [C.d (D.sl false 4 (enS false a))]::U_::U_::V_ [C.view 0 0 0 [] 4 none]::I_ i0::u_ 18 []) [Root.mk false 4 es1 0 0 true true false [] 0 []]
def B101_0:BT:=λn↦rC 101 T134 n f101 [1,1,0,1,0,0] 25 [(0,8)] 4
def X101_2(es1:List (List D)):St:=St.mk (U_::U_::U_::V_ [C.view 0 0 0 [] 4 none]::u_ 19 []) [Root.mk false 4 es1 0 0 true true false [] 0 []]
theorem Zvw(a:List Heard)(n:Nat)(i0:Int)(es1:List (List D))(f:St→RR)(K:Ex→St→RR):B101_0 n (S101_0 a i0 es1) (kThen (λst↦f (St.head 1 25 4194064 st)) K)=bif decide (i0<ofNat (length (enS false a)))then bif decide (0≤i0)&&decide (i0<ofNat (length (enS false a)))then bif Leaf.fit false (Leaf.int i64) (getD (getD (enS false a) (toNat i0) []) 0 D.dead)&&(Leaf.fit false (Leaf.int i64) (getD (getD (enS false a) (toNat i0) []) 1 D.dead)&&(Leaf.fit false (Leaf.int i64) (getD (getD (enS false a) (toNat i0) []) 2 D.dead)&&(Leaf.fit false (Leaf.int i64) (getD (getD (enS false a) (toNat i0) []) 3 D.dead)&&true)))then bif decide (0≤i0)&&decide (i0<ofNat (length es1))then f (S101_0 a (wrap i64 (i0+1)) (set es1 (0+toNat i0) [D.int i64 (D.num (getD (getD (enS false a) (toNat i0) []) 0 D.dead)),D.int i64 (D.num (getD (getD (enS false a) (toNat i0) []) 1 D.dead)),D.int i64 (D.num (getD (getD (enS false a) (toNat i0) []) 2 D.dead)),D.int i64 (D.num (getD (getD (enS false a) (toNat i0) []) 3 D.dead))]))else none else none else none else K (Ex.exit 0) (X101_2 es1):=by kernel_rfl
theorem Zwq(n:Nat)(es1:List (List D)):k101_1 n (Ex.exit 0) (X101_2 es1)=some ([[D.sl true 4 es1]],[]):=by kernel_rfl
def e101(a:List Heard)(n:Nat):=evFn ⟨prog,Hx,101⟩ T134.call n f101 [zp13.row a]
theorem r101(a:List Heard)(n:Nat):e101 a n=bif decide (0≤ofNat (length (enS false a)))&&(decide (ofNat (length (enS false a))≤ofNat (length (enS false a)))&&decide (toNat (ofNat (length (enS false a)))*32≤140737488355328))then loopRun (B101_0 n) 1 25 4194064 n (S101_0 a (0) (replicate (toNat (ofNat (length (enS false a)))) [D.int i64 (0),D.int i64 (0),D.int i64 (0),D.int i64 (0)])) (k101_1 n)else none:=by kernel_rfl
theorem m101(a:List Heard):(o101 a).1=true→e101 a (a.length+1)=some (o101 a).2:=by
 refine pm λhpre=>(r101 a _).trans ?_;have hlen:a.length≤1048576:=of_decide_eq_true hpre;rw[Zaa,Zd3 (by omega),cond_true,Zac]
 refine(congrArg (λz=>loopRun _ _ _ _ _ (S101_0 a 0 z) _) (Zd2 true a.length (En.nil:Heard))).trans ?_;refine Zai (xs:=a) (λi (ys:List Heard)=>S101_0 a (Int.ofNat i) (enS true ys)) (λi ys=>ys.length=a.length∧ys.take i=a.take i) (λ_ _ _=>some ([[D.sl true 4 (enS true a)]],[])) ?_ ?_ (a.length+1) _ (by omega) ⟨List.length_replicate ..,rfl⟩
 ·rintro ys ⟨h2,h3⟩ f;refine(Zvw a _ _ _ f _).trans ?_;simp only[Zaa,Zap,Nat.lt_irrefl,decide_false,cond_false];refine(Zwq _ _).trans ?_;rw[List.take_length,←h2,List.take_length]at h3;subst h3;rfl
 ·rintro i ys hi ⟨h2,h3⟩ f hf;refine(Zvw a _ _ _ f _).trans ?_;simp only[Zaa,Zac,Zap,Zaq,Zab _ hi,h2,hi,Zae (show i<4611686018427387904 by omega),Nat.zero_add,decide_true,cond_true,Bool.and_self]
  exact(congrArg f (congrArg (S101_0 a _) (Za9 true ys i a[i]))).trans (hf (ys.set i a[i]) ⟨by rw[List.length_set];exact h2,Zbb hi h2 h3⟩)
def T101:Table:=(101,c101)::T134
theorem Zn2:Table.Sound prog Hx T101:=sa Zoz func101 (by kernel_rfl) (Zah λa=>Zan λh=>⟨_,m101 a h⟩)
def o58(a:Card):Bool×List Row×List Row:=(Card.small a,[[.sl true 1 (enS true (a).Open),.sl true 2 (enS true (a).Members),.sl true 4 (enS true (a).Table)]],[])
def c58:Contract:=(cp zp14 λa=>c0 (o58 a)) true
def e58(a:Card)(n:Nat):=evFn ⟨prog,Hx,58⟩ T101.call n f58 [zp14.row a]
theorem r58(a:Card)(n:Nat):e58 a n=bif isS Bool false (enS false (Card.Open a))&&decide (length (deS Bool (enS false (Card.Open a)))≤1048576)then bif isS Member false (enS false (Card.Members a))&&(decide (length (deS Member (enS false (Card.Members a)))≤1048576)&&all (deS Member (enS false (Card.Members a))) Member.small)then bif isS Heard false (enS false (Card.Table a))&&decide (length (deS Heard (enS false (Card.Table a)))≤1048576)then some ([[D.sl true 1 (enS true (deS Bool (enS false (Card.Open a)))),D.sl true 2 (enS true (deS Member (enS false (Card.Members a)))),D.sl true 4 (enS true (deS Heard (enS false (Card.Table a))))]],[])else none else none else none:=by kernel_rfl
theorem m58(a:Card):(o58 a).1=true→e58 a 0=some (o58 a).2:=by
 refine pm λhpre=>(r58 a _).trans ?_;unfold Card.small at hpre;try simp only[Bool.and_eq_true]at hpre
 simp only[hpre,Zak,Zad,cond_true,Bool.and_self,Bool.and_true,Bool.true_and];try rfl
def T58:Table:=(58,c58)::T101
theorem Zrm:Table.Sound prog Hx T58:=sa Zn2 func58 (by kernel_rfl) (Zah λa=>Zan λh=>⟨_,m58 a h⟩)
def o28(a:List Card):Bool×List Row×List Row:=((decide (a.length≤1048576)&&a.all Card.small),[[.sl true 3 (enS true (a))]],[])
def c28:Contract:=(cp zp15 λa=>c0 (o28 a)) true
def k28_0:KT:=λn↦kThen (λst↦rC 28 T58 n f28 [1,1,1] 4 [] 4 st (lV f28 [] [])) (lV f28 [] [])
def k28_1:KT:=λn↦kBlock (0) (k28_0 n)
def S28_0(a:List Card)(i0:Int)(es1:List (List D)):St:=St.mk (V_ [C.d (D.sl false 3 (enS false a))]::U_::U_::V_ [C.view 0 0 0 [] 3 none]::I_ i0::u_ 18 []) [Root.mk false 3 es1 0 0 true true false [] 0 []]
def B28_0:BT:=λn↦rC 28 T58 n f28 [1,1,0,1,0,0] 25 [(0,8)] 4
def X28_2(es1:List (List D)):St:=St.mk (U_::U_::U_::V_ [C.view 0 0 0 [] 3 none]::u_ 19 []) [Root.mk false 3 es1 0 0 true true false [] 0 []]
theorem Z02(a:List Card)(n:Nat)(i0:Int)(es1:List (List D))(f:St→RR)(K:Ex→St→RR):B28_0 n (S28_0 a i0 es1) (kThen (λst↦f (St.head 1 25 4194064 st)) K)=bif decide (i0<ofNat (length (enS false a)))then bif decide (0≤i0)&&decide (i0<ofNat (length (enS false a)))then bif Leaf.fit false (Leaf.sl 1 true) (getD (getD (enS false a) (toNat i0) []) 0 D.dead)&&(Leaf.fit false (Leaf.sl 2 false) (getD (getD (enS false a) (toNat i0) []) 1 D.dead)&&(Leaf.fit false (Leaf.sl 4 true) (getD (getD (enS false a) (toNat i0) []) 2 D.dead)&&true))then bif isS Bool false (D.rows (getD (getD (enS false a) (toNat i0) []) 0 D.dead))&&isS Member false (D.rows (getD (getD (enS false a) (toNat i0) []) 1 D.dead))&&isS Heard false (D.rows (getD (getD (enS false a) (toNat i0) []) 2 D.dead))&&Card.small (Card.mk (deS Bool (D.rows (getD (getD (enS false a) (toNat i0) []) 0 D.dead))) (deS Member (D.rows (getD (getD (enS false a) (toNat i0) []) 1 D.dead))) (deS Heard (D.rows (getD (getD (enS false a) (toNat i0) []) 2 D.dead))))then bif decide (0≤i0)&&decide (i0<ofNat (length es1))then f (S28_0 a (wrap i64 (i0+1)) (set es1 (0+toNat i0) [D.sl true 1 (enS true (deS Bool (D.rows (getD (getD (enS false a) (toNat i0) []) 0 D.dead)))),D.sl true 2 (enS true (deS Member (D.rows (getD (getD (enS false a) (toNat i0) []) 1 D.dead)))),D.sl true 4 (enS true (deS Heard (D.rows (getD (getD (enS false a) (toNat i0) []) 2 D.dead))))]))else none else none else none else none else K (Ex.exit 0) (X28_2 es1):=by kernel_rfl
theorem Zyo(n:Nat)(es1:List (List D)):k28_1 n (Ex.exit 0) (X28_2 es1)=some ([[D.sl true 3 es1]],[]):=by kernel_rfl
def e28(a:List Card)(n:Nat):=evFn ⟨prog,Hx,28⟩ T58.call n f28 [zp15.row a]
theorem r28(a:List Card)(n:Nat):e28 a n=bif decide (0≤ofNat (length (enS false a)))&&(decide (ofNat (length (enS false a))≤ofNat (length (enS false a)))&&decide (toNat (ofNat (length (enS false a)))*72≤140737488355328))then loopRun (B28_0 n) 1 25 4194064 n (S28_0 a (0) (replicate (toNat (ofNat (length (enS false a)))) [D.sl true 1 [],D.sl true 2 [],D.sl true 4 []])) (k28_1 n)else none:=by kernel_rfl
theorem m28(a:List Card):(o28 a).1=true→e28 a (a.length+1)=some (o28 a).2:=by
 refine pm λhpre=>(r28 a _).trans ?_;rw[Bool.and_eq_true]at hpre;have hlen:=of_decide_eq_true hpre.1;rw[Zaa,Zd3 (by omega),cond_true,Zac]
 refine(congrArg (λz=>loopRun _ _ _ _ _ (S28_0 a 0 z) _) (Zd2 true a.length (En.nil:Card))).trans ?_;refine Zai (xs:=a) (λi (ys:List Card)=>S28_0 a (Int.ofNat i) (enS true ys)) (λi ys=>ys.length=a.length∧ys.take i=a.take i) (λ_ _ _=>some ([[D.sl true 3 (enS true a)]],[])) ?_ ?_ (a.length+1) _ (by omega) ⟨List.length_replicate ..,rfl⟩
 ·rintro ys ⟨h2,h3⟩ f;refine(Z02 a _ _ _ f _).trans ?_;rw[Zaw,cond_false];refine(Zyo _ _).trans ?_;rw[List.take_length,←h2,List.take_length]at h3;subst h3;rfl
 ·rintro i ys hi ⟨h2,h3⟩ f hf;refine(Z02 a _ _ _ f _).trans ?_;have hel:=List.all_eq_true.1 hpre.2 _ (List.getElem_mem hi);simp only[gos,En.enc,D.num,D.flag,D.text,D.rows,Leaf.fit,Zbo,Zab _ hi,hi,Zae (show i<4611686018427387904 by omega),h2,hel]
  exact(congrArg f (congrArg (S28_0 a _) (Za9 true ys i a[i]))).trans (hf (ys.set i a[i]) ⟨by rw[List.length_set];exact h2,Zbb hi h2 h3⟩)
def T28:Table:=(28,c28)::T58
theorem Zqs:Table.Sound prog Hx T28:=sa Zrm func28 (by kernel_rfl) (Zah λa=>Zan λh=>⟨_,m28 a h⟩)
def o98(a:Link):Bool×List Row×List Row:=(true,[[.int .i64 (a).A,.int .i64 (a).P,.int .i64 (a).B,.int .i64 (a).Q]],[])
def c98:Contract:=(cp zp16 λa=>c0 (o98 a)) true
def e98(a:Link)(n:Nat):=evFn ⟨prog,Hx,98⟩ T28.call n f98 [zp16.row a]
theorem r98(a:Link)(n:Nat):e98 a n=some ([[D.int i64 (Link.A a),D.int i64 (Link.P a),D.int i64 (Link.B a),D.int i64 (Link.Q a)]],[]):=by kernel_rfl
theorem m98(a:Link):(o98 a).1=true→e98 a 0=some (o98 a).2:=by
 refine pm λhpre=>(r98 a _).trans ?_;rfl
def T98:Table:=(98,c98)::T28
theorem Zsq:Table.Sound prog Hx T98:=sa Zqs func98 (by kernel_rfl) (Zah λa=>Zan λh=>⟨_,m98 a h⟩)
def o57(a:List Link):Bool×List Row×List Row:=(decide (a.length≤1048576),[[.sl true 4 (enS true (a))]],[])
def c57:Contract:=(cp zp17 λa=>c0 (o57 a)) true
def k57_0:KT:=λn↦kThen (λst↦rC 57 T98 n f57 [1,1,1] 4 [] 4 st (lV f57 [] [])) (lV f57 [] [])
def k57_1:KT:=λn↦kBlock (0) (k57_0 n)
def S57_0(a:List Link)(i0:Int)(es1:List (List D)):St:=St.mk (V_ [C.d (D.sl false 4 (enS false a))]::U_::U_::V_ [C.view 0 0 0 [] 4 none]::I_ i0::u_ 18 []) [Root.mk false 4 es1 0 0 true true false [] 0 []]
def B57_0:BT:=λn↦rC 57 T98 n f57 [1,1,0,1,0,0] 25 [(0,8)] 4
def X57_2(es1:List (List D)):St:=St.mk (U_::U_::U_::V_ [C.view 0 0 0 [] 4 none]::u_ 19 []) [Root.mk false 4 es1 0 0 true true false [] 0 []]
theorem Z1n(a:List Link)(n:Nat)(i0:Int)(es1:List (List D))(f:St→RR)(K:Ex→St→RR):B57_0 n (S57_0 a i0 es1) (kThen (λst↦f (St.head 1 25 4194064 st)) K)=bif decide (i0<ofNat (length (enS false a)))then bif decide (0≤i0)&&decide (i0<ofNat (length (enS false a)))then bif Leaf.fit false (Leaf.int i64) (getD (getD (enS false a) (toNat i0) []) 0 D.dead)&&(Leaf.fit false (Leaf.int i64) (getD (getD (enS false a) (toNat i0) []) 1 D.dead)&&(Leaf.fit false (Leaf.int i64) (getD (getD (enS false a) (toNat i0) []) 2 D.dead)&&(Leaf.fit false (Leaf.int i64) (getD (getD (enS false a) (toNat i0) []) 3 D.dead)&&true)))then bif decide (0≤i0)&&decide (i0<ofNat (length es1))then f (S57_0 a (wrap i64 (i0+1)) (set es1 (0+toNat i0) [D.int i64 (D.num (getD (getD (enS false a) (toNat i0) []) 0 D.dead)),D.int i64 (D.num (getD (getD (enS false a) (toNat i0) []) 1 D.dead)),D.int i64 (D.num (getD (getD (enS false a) (toNat i0) []) 2 D.dead)),D.int i64 (D.num (getD (getD (enS false a) (toNat i0) []) 3 D.dead))]))else none else none else none else K (Ex.exit 0) (X57_2 es1):=by kernel_rfl
theorem Zzc(n:Nat)(es1:List (List D)):k57_1 n (Ex.exit 0) (X57_2 es1)=some ([[D.sl true 4 es1]],[]):=by kernel_rfl
def e57(a:List Link)(n:Nat):=evFn ⟨prog,Hx,57⟩ T98.call n f57 [zp17.row a]
theorem r57(a:List Link)(n:Nat):e57 a n=bif decide (0≤ofNat (length (enS false a)))&&(decide (ofNat (length (enS false a))≤ofNat (length (enS false a)))&&decide (toNat (ofNat (length (enS false a)))*32≤140737488355328))then loopRun (B57_0 n) 1 25 4194064 n (S57_0 a (0) (replicate (toNat (ofNat (length (enS false a)))) [D.int i64 (0),D.int i64 (0),D.int i64 (0),D.int i64 (0)])) (k57_1 n)else none:=by kernel_rfl
theorem m57(a:List Link):(o57 a).1=true→e57 a (a.length+1)=some (o57 a).2:=by
 refine pm λhpre=>(r57 a _).trans ?_;have hlen:a.length≤1048576:=of_decide_eq_true hpre;rw[Zaa,Zd3 (by omega),cond_true,Zac]
 refine(congrArg (λz=>loopRun _ _ _ _ _ (S57_0 a 0 z) _) (Zd2 true a.length (En.nil:Link))).trans ?_;refine Zai (xs:=a) (λi (ys:List Link)=>S57_0 a (Int.ofNat i) (enS true ys)) (λi ys=>ys.length=a.length∧ys.take i=a.take i) (λ_ _ _=>some ([[D.sl true 4 (enS true a)]],[])) ?_ ?_ (a.length+1) _ (by omega) ⟨List.length_replicate ..,rfl⟩
 ·rintro ys ⟨h2,h3⟩ f;refine(Z1n a _ _ _ f _).trans ?_;simp only[Zaa,Zap,Nat.lt_irrefl,decide_false,cond_false];refine(Zzc _ _).trans ?_;rw[List.take_length,←h2,List.take_length]at h3;subst h3;rfl
 ·rintro i ys hi ⟨h2,h3⟩ f hf;refine(Z1n a _ _ _ f _).trans ?_;simp only[Zaa,Zac,Zap,Zaq,Zab _ hi,h2,hi,Zae (show i<4611686018427387904 by omega),Nat.zero_add,decide_true,cond_true,Bool.and_self]
  exact(congrArg f (congrArg (S57_0 a _) (Za9 true ys i a[i]))).trans (hf (ys.set i a[i]) ⟨by rw[List.length_set];exact h2,Zbb hi h2 h3⟩)
def T57:Table:=(57,c57)::T98
theorem Zrl:Table.Sound prog Hx T57:=sa Zsq func57 (by kernel_rfl) (Zah λa=>Zan λh=>⟨_,m57 a h⟩)
def o27(a:Net):Bool×List Row×List Row:=(Net.small a,[[.sl true 2 (enS true (a).Bridges),.sl true 4 (enS true (a).Links)]],[])
def c27:Contract:=(cp zp18 λa=>c0 (o27 a)) true
def e27(a:Net)(n:Nat):=evFn ⟨prog,Hx,27⟩ T57.call n f27 [zp18.row a]
theorem r27(a:Net)(n:Nat):e27 a n=bif isS Bridge false (enS false (Net.Bridges a))&&(decide (length (deS Bridge (enS false (Net.Bridges a)))≤1048576)&&all (deS Bridge (enS false (Net.Bridges a))) Bridge.small)then bif isS Link false (enS false (Net.Links a))&&decide (length (deS Link (enS false (Net.Links a)))≤1048576)then some ([[D.sl true 2 (enS true (deS Bridge (enS false (Net.Bridges a)))),D.sl true 4 (enS true (deS Link (enS false (Net.Links a))))]],[])else none else none:=by kernel_rfl
theorem m27(a:Net):(o27 a).1=true→e27 a 0=some (o27 a).2:=by
 refine pm λhpre=>(r27 a _).trans ?_;unfold Net.small at hpre;try simp only[Bool.and_eq_true]at hpre
 simp only[hpre,Zak,Zad,cond_true,Bool.and_self,Bool.and_true,Bool.true_and];try rfl
def T27:Table:=(27,c27)::T57
theorem Zqr:Table.Sound prog Hx T27:=sa Zrl func27 (by kernel_rfl) (Zah λa=>Zan λh=>⟨_,m27 a h⟩)
def o7(a:Fabric):Bool×List Row×List Row:=(Fabric.small a,[[.sl true 2 (enS true (a).Net.Bridges),.sl true 4 (enS true (a).Net.Links),.sl true 3 (enS true (a).Cards)]],[])
def c7:Contract:=(cp zp19 λa=>c0 (o7 a)) true
def e7(a:Fabric)(n:Nat):=evFn ⟨prog,Hx,7⟩ T27.call n f7 [zp19.row a]
theorem r7(a:Fabric)(n:Nat):e7 a n=bif isS Bridge false (enS false (Net.Bridges (Fabric.Net a)))&&isS Link false (enS false (Net.Links (Fabric.Net a)))&&Net.small (Net.mk (deS Bridge (enS false (Net.Bridges (Fabric.Net a)))) (deS Link (enS false (Net.Links (Fabric.Net a)))))then bif isS Card false (enS false (Fabric.Cards a))&&(decide (length (deS Card (enS false (Fabric.Cards a)))≤1048576)&&all (deS Card (enS false (Fabric.Cards a))) Card.small)then some ([[D.sl true 2 (enS true (deS Bridge (enS false (Net.Bridges (Fabric.Net a))))),D.sl true 4 (enS true (deS Link (enS false (Net.Links (Fabric.Net a))))),D.sl true 3 (enS true (deS Card (enS false (Fabric.Cards a))))]],[])else none else none:=by kernel_rfl
theorem m7(a:Fabric):(o7 a).1=true→e7 a 0=some (o7 a).2:=by
 refine pm λhpre=>(r7 a _).trans ?_;unfold Fabric.small at hpre;try simp only[Bool.and_eq_true]at hpre
 simp only[hpre,Zak,Zad,cond_true,Bool.and_self,Bool.and_true,Bool.true_and];try rfl
def T7:Table:=(7,c7)::T27
theorem Zui:Table.Sound prog Hx T7:=sa Zqr func7 (by kernel_rfl) (Zah λa=>Zan λh=>⟨_,m7 a h⟩)
def o8(a:TFrame):Bool×List Row×List Row:=(TFrame.small a,[[.int .i64 (a).To,.int .i64 (a).From,.int .i64 (a).Vlan,.sl true 1 (enS true (a).Load)]],[])
def c8:Contract:=(cp zp20 λa=>c0 (o8 a)) true
def e8(a:TFrame)(n:Nat):=evFn ⟨prog,Hx,8⟩ T7.call n f8 [zp20.row a]
theorem r8(a:TFrame)(n:Nat):e8 a n=bif isS UInt8 false (enS false (TFrame.Load a))&&decide (length (deS UInt8 (enS false (TFrame.Load a)))≤1048576)then some ([[D.int i64 (TFrame.To a),D.int i64 (TFrame.From a),D.int i64 (TFrame.Vlan a),D.sl true 1 (enS true (deS UInt8 (enS false (TFrame.Load a))))]],[])else none:=by kernel_rfl
theorem m8(a:TFrame):(o8 a).1=true→e8 a 0=some (o8 a).2:=by
 refine pm λhpre=>(r8 a _).trans ?_;unfold TFrame.small at hpre;try simp only[Bool.and_eq_true]at hpre
 simp only[hpre,Zak,Zad,cond_true,Bool.and_self,Bool.and_true,Bool.true_and];try rfl
def T8:Table:=(8,c8)::T7
theorem Zuj:Table.Sound prog Hx T8:=sa Zui func8 (by kernel_rfl) (Zah λa=>Zan λh=>⟨_,m8 a h⟩)
end Go.Ev
end
