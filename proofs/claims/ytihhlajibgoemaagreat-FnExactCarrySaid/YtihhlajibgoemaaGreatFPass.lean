/- Contracts of functions, each by its evaluation. -/
import Derived.Test.YtihhlajibgoemaaGreatEvMd
import Derived.Test.YtihhlajibgoemaaGreatProg
import Derived.KernelRfl
import Derived.Test.YtihhlajibgoemaaGreatFHcm
set_option linter.unusedVariables false
set_option linter.unusedSimpArgs false
set_option maxRecDepth 100000
noncomputable section
open List (getD length drop take set append replicate all isEmpty)
open Int (toNat ofNat)
open Go.IntKind (i64 wrap)
open Go.Proofs.Tryz (prog f104 f106 f110 f111 f141 f24 f25 f33 f49 f52 f53 f55 f60 f65 f66 f67 f69 f94 func104 func106 func110 func111 func141 func24 func25 func33 func49 func52 func53 func55 func60 func65 func66 func67 func69 func94)
namespace Go.Ev
open Go.RowKit Go.Md
end Go.Ev
namespace Go.Md
open Go Go.Ev
def frameOk(f:TFrame):Bool:=inR f.To 0 9&&(inR f.From 1 9&&(inR f.Vlan 0 4&&decide (f.Load.length≤30)))
def setVlan(f:TFrame)(v:Int):TFrame:=⟨f.To,f.From,v,f.Load⟩
def noF:TFrame:=⟨0,0,0,[]⟩
def inV(m:Member)(f:TFrame):Int:=bif f.Vlan==0 then m.Own else f.Vlan
def insideOk(m:Member)(f:TFrame):Bool:=memberOk m&&(frameOk f&&hasI m.In (inV m f))
def insideF(m:Member)(f:TFrame):TFrame:=bif insideOk m f then setVlan f (inV m f)else noF
def outsideOk(m:Member)(f:TFrame):Bool:=memberOk m&&(frameOk f&&hasI m.In f.Vlan)
def outsideF(m:Member)(f:TFrame):TFrame:=bif outsideOk m f then setVlan f (bif f.Vlan==m.Own then 0 else f.Vlan)else noF
def whereL:List Heard→Int→Int→Int×Bool
 |[],_,_=>(0,false)
 |x::xs,a,v=>bif x.Addr==a&&x.Vlan==v then(x.Port,true)else whereL xs a v
def memAt(c:Card)(p:Int):Member:=c.Members.getD p.toNat ⟨0,[]⟩
def passOk(c:Card)(port:Int)(f:TFrame):Bool:=cardOk c&&(inR port 0 ((c.Open.length:Int)-1)&&(c.Open.getD port.toNat false&&insideOk (memAt c port) f))
def knownB(c:Card)(x:TFrame):Bool:=(whereL c.Table x.To x.Vlan).2&&!(x.To==0)
def skipB(c:Card)(port:Int)(x:TFrame)(p:Nat):Bool:=((p:Int)==port)||(!(c.Open.getD p false)||(knownB c x&&!((p:Int)==(whereL c.Table x.To x.Vlan).1)))
def passMs(c:Card)(port:Int)(x:TFrame):Nat→List Member→List Out1
 |_,[]=>[]
 |p,m::ms=>(bif skipB c port x p then[]else bif outsideOk m x then[⟨(p:Int),outsideF m x⟩]else[])++passMs c port x (p+1) ms
def passC(c:Card)(port:Int)(f:TFrame):Card:=bif passOk c port f then⟨c.Open,c.Members,hearL c.Table (insideF (memAt c port) f).From (insideF (memAt c port) f).Vlan port⟩else c
def passO(c:Card)(port:Int)(f:TFrame):List Out1:=bif passOk c port f then passMs c port (insideF (memAt c port) f) 0 c.Members else[]
theorem Zij{n:Nat}{p:Int}(h:inR p 0 ((n:Int)-1)=true):∃k:Nat,p=Int.ofNat k∧k<n:=by
 unfold inR at h;simp only[Bool.and_eq_true,decide_eq_true_eq]at h;exact⟨p.toNat,by show p=(p.toNat:Int);omega,by omega⟩
theorem Z2s{n:Nat}(h:n≤1048576):Go.IntKind.wrap Go.IntKind.i64 (Int.ofNat n-1)=(n:Int)-1:=Go.Ev.Zb6 (by show _≤(n:Int)-1;omega) (by show(n:Int)-1≤_;omega)
theorem Zgd{m:Member}(h:Member.small m=true):decide (m.In.length≤1048576)=true:=by unfold Member.small at h;exact h
theorem Zd7(c:Card)(port:Int)(x:TFrame)(p:Nat)(m:Member)(ms:List Member):passMs c port x p (m::ms)=(bif skipB c port x p then[]else bif outsideOk m x then[⟨(p:Int),outsideF m x⟩]else[])++passMs c port x (p+1) ms:=by simp only[passMs]
def resP(c:Card)(T:List Heard)(l:List Out1):Go.Ev.RR:=some ([[D.sl true 1 (Go.Ev.enS true c.Open),D.sl true 2 (Go.Ev.enS true c.Members),D.sl true 4 (Go.Ev.enS true T)],[D.sl true 5 (Go.Ev.enS true l)]],[])
theorem Zfr{c:Card}{port:Int}{f:TFrame}(h:passOk c port f=false):resP (passC c port f) (passC c port f).Table (passO c port f)=resP c c.Table []:=by unfold passC passO;rw[h];rfl
theorem Znm{c:Card}{port:Int}{f x:TFrame}(h:passOk c port f=true)(hx:insideF (memAt c port) f=x):resP (passC c port f) (passC c port f).Table (passO c port f)=resP c (hearL c.Table x.From x.Vlan port) (passMs c port x 0 c.Members):=by unfold passC passO;rw[h,hx];rfl
theorem Zlv{c:Card}{port:Int}{x:TFrame}{T:List Heard}{acc:List Out1}{i:Nat}{m:Member}{ms:List Member}(h:skipB c port x i=true):resP c T (acc++passMs c port x i (m::ms))=resP c T (acc++passMs c port x (i+1) ms):=by rw[Zd7,h];rfl
theorem Zt3{c:Card}{port:Int}{x:TFrame}{T:List Heard}{acc:List Out1}{i:Nat}{m:Member}{ms:List Member}(h:skipB c port x i=false):resP c T (acc++passMs c port x i (m::ms))=bif outsideOk m x then resP c T ((acc++[⟨(i:Int),outsideF m x⟩])++passMs c port x (i+1) ms)else resP c T (acc++passMs c port x (i+1) ms):=by
 rw[Zd7,h];cases outsideOk m x
 ·rfl
 ·simp only[cond_true,cond_false,List.append_assoc]
theorem Zt8{c:Card}{port:Int}{x:TFrame}{i:Nat}(hi:i<c.Open.length):skipB c port x i=((Int.ofNat i==port)||(!c.Open[i]||(knownB c x&&!(Int.ofNat i==(whereL c.Table x.To x.Vlan).1)))):=by
 unfold skipB;rw[show c.Open.getD i false=c.Open[i] by rw[List.getD_eq_getElem?_getD,List.getElem?_eq_getElem hi];rfl]
 rfl
theorem Zj5(x:Heard)(xs:List Heard)(a v:Int):whereL (x::xs) a v=bif x.Addr==a&&x.Vlan==v then(x.Port,true)else whereL xs a v:=by simp only[whereL]
end Go.Md
namespace Go.Ev
open Go.Md
def o104(s:List Bool):Bool×List Row×List Row:=(decide (s.length≤1048576),[[.sl true 1 (enS true (s))]],[])
def c104:Contract:=(cp zp5 λs=>c0 (o104 s)) true
def e104(s:List Bool)(n:Nat):=evFn ⟨prog,Hx,104⟩ T15.call n f104 [zp5.row s]
theorem r104(s:List Bool)(n:Nat):e104 s n=bif isEmpty (enS false s)then both (some ([[D.sl true 1 []]],[])) (bif decide ((0+length (enS false s))*1≤140737488355328)then some ([[D.sl true 1 (enS false s)]],[])else none)else bif decide ((0+length (enS false s))*1≤140737488355328)then some ([[D.sl true 1 (enS false s)]],[])else none:=by kernel_rfl
theorem m104(s:List Bool):(o104 s).1=true→e104 s 0=some (o104 s).2:=by
 refine pm λhpre=>(r104 s _).trans ?_;have hlen:=of_decide_eq_true hpre;have h1:decide ((0+s.length)*1≤140737488355328)=true:=decide_eq_true (by omega)
 simp only[Zaa,h1,cond_true];cases s with
 |nil=>
  rw[show List.isEmpty (enS false ([]:List Bool))=true from rfl,cond_true];exact Zds _
 |cons x xs=>rfl
def T104:Table:=(104,c104)::T15
theorem Zn5:Table.Sound prog Hx T104:=sa Zqf func104 (by kernel_rfl) (Zah λs=>Zan λh=>⟨_,m104 s h⟩)
def o106(s:List Int):Bool×List Row×List Row:=(decide (s.length≤1048576),[[.sl true 1 (enS true (s))]],[])
def c106:Contract:=(cp zp9 λs=>c0 (o106 s)) true
def e106(s:List Int)(n:Nat):=evFn ⟨prog,Hx,106⟩ T104.call n f106 [zp9.row s]
theorem r106(s:List Int)(n:Nat):e106 s n=bif isEmpty (enS false s)then both (some ([[D.sl true 1 []]],[])) (bif decide ((0+length (enS false s))*8≤140737488355328)then some ([[D.sl true 1 (enS false s)]],[])else none)else bif decide ((0+length (enS false s))*8≤140737488355328)then some ([[D.sl true 1 (enS false s)]],[])else none:=by kernel_rfl
theorem m106(s:List Int):(o106 s).1=true→e106 s 0=some (o106 s).2:=by
 refine pm λhpre=>(r106 s _).trans ?_;have hlen:=of_decide_eq_true hpre;have h1:decide ((0+s.length)*8≤140737488355328)=true:=decide_eq_true (by omega)
 simp only[Zaa,h1,cond_true];cases s with
 |nil=>
  rw[show List.isEmpty (enS false ([]:List Int))=true from rfl,cond_true];exact Zds _
 |cons x xs=>rfl
def T106:Table:=(106,c106)::T104
theorem Zn7:Table.Sound prog Hx T106:=sa Zn5 func106 (by kernel_rfl) (Zah λs=>Zan λh=>⟨_,m106 s h⟩)
def o141(s:List UInt8):Bool×List Row×List Row:=(decide (s.length≤1048576),[[.sl true 1 (enS true (s))]],[])
def c141:Contract:=(cp zp8 λs=>c0 (o141 s)) true
def e141(s:List UInt8)(n:Nat):=evFn ⟨prog,Hx,141⟩ T106.call n f141 [zp8.row s]
theorem r141(s:List UInt8)(n:Nat):e141 s n=bif isEmpty (enS false s)then both (some ([[D.sl true 1 []]],[])) (bif decide ((0+length (enS false s))*1≤140737488355328)then some ([[D.sl true 1 (enS false s)]],[])else none)else bif decide ((0+length (enS false s))*1≤140737488355328)then some ([[D.sl true 1 (enS false s)]],[])else none:=by kernel_rfl
theorem m141(s:List UInt8):(o141 s).1=true→e141 s 0=some (o141 s).2:=by
 refine pm λhpre=>(r141 s _).trans ?_;have hlen:=of_decide_eq_true hpre;have h1:decide ((0+s.length)*1≤140737488355328)=true:=decide_eq_true (by omega)
 simp only[Zaa,h1,cond_true];cases s with
 |nil=>
  rw[show List.isEmpty (enS false ([]:List UInt8))=true from rfl,cond_true];exact Zds _
 |cons x xs=>rfl
def T141:Table:=(141,c141)::T106
theorem Zo6:Table.Sound prog Hx T141:=sa Zn7 func141 (by kernel_rfl) (Zah λs=>Zan λh=>⟨_,m141 s h⟩)
def o110(f:TFrame):Bool×List Row×List Row:=(true,[[.bool (frameOk f)]],[])
def c110:Contract:=(cp zp20 λf=>c0 (o110 f)) true
def e110(f:TFrame)(n:Nat):=evFn ⟨prog,Hx,110⟩ T141.call n f110 [zp20.row f]
theorem r110(f:TFrame)(n:Nat):e110 f n=bif inR (TFrame.To f) (0) (9)then bif inR (TFrame.From f) (1) (9)then bif inR (TFrame.Vlan f) (0) (4)then some ([[D.bool (decide (ofNat (length (enS false (TFrame.Load f)))≤30))]],[])else some ([[D.bool false]],[])else some ([[D.bool false]],[])else some ([[D.bool false]],[]):=by kernel_rfl
theorem m110(f:TFrame):(o110 f).1=true→e110 f 0=some (o110 f).2:=by
 refine pm λhpre=>(r110 f _).trans ?_;have hd:decide (Int.ofNat (enS false f.Load).length≤30)=decide (f.Load.length≤30):=decide_eq_decide.2 (by rw[Zaa];show(f.Load.length:Int)≤30↔_;omega)
 rw[hd];unfold frameOk;cases inR f.To 0 9<;>cases inR f.From 1 9<;>cases inR f.Vlan 0 4<;>rfl
def T110:Table:=(110,c110)::T141
theorem Zob:Table.Sound prog Hx T110:=sa Zo6 func110 (by kernel_rfl) (Zah λf=>Zan λh=>⟨_,m110 f h⟩)
def o94(f:TFrame):Bool×List Row×List Row:=(true,[[.bool (frameOk f)]],[])
def c94:Contract:=(cp zp20 λf=>c0 (o94 f)) true
def e94(f:TFrame)(n:Nat):=evFn ⟨prog,Hx,94⟩ T110.call n f94 [zp20.row f]
theorem r94(f:TFrame)(n:Nat):e94 f n=bif inR (TFrame.To f) (0) (9)then bif inR (TFrame.From f) (1) (9)then bif inR (TFrame.Vlan f) (0) (4)then some ([[D.bool (decide (ofNat (length (enS false (TFrame.Load f)))≤30))]],[])else some ([[D.bool false]],[])else some ([[D.bool false]],[])else some ([[D.bool false]],[]):=by kernel_rfl
theorem m94(f:TFrame):(o94 f).1=true→e94 f 0=some (o94 f).2:=by
 refine pm λhpre=>(r94 f _).trans ?_;have hd:decide (Int.ofNat (enS false f.Load).length≤30)=decide (f.Load.length≤30):=decide_eq_decide.2 (by rw[Zaa];show(f.Load.length:Int)≤30↔_;omega)
 rw[hd];unfold frameOk;cases inR f.To 0 9<;>cases inR f.From 1 9<;>cases inR f.Vlan 0 4<;>rfl
def T94:Table:=(94,c94)::T110
theorem Zsm:Table.Sound prog Hx T94:=sa Zob func94 (by kernel_rfl) (Zah λf=>Zan λh=>⟨_,m94 f h⟩)
def o111(f:TFrame):Bool×List Row×List Row:=(decide (f.Load.length≤1048576),[[.int .i64 (f).To,.int .i64 (f).From,.int .i64 (f).Vlan,.sl true 1 (enS true (f).Load)]],[])
def c111:Contract:=(cp zp20 λf=>c0 (o111 f)) true
def e111(f:TFrame)(n:Nat):=evFn ⟨prog,Hx,111⟩ T94.call n f111 [zp20.row f]
theorem r111(f:TFrame)(n:Nat):e111 f n=bif isS UInt8 false (enS false (TFrame.Load f))&&decide (length (deS UInt8 (enS false (TFrame.Load f)))≤1048576)then some ([[D.int i64 (TFrame.To f),D.int i64 (TFrame.From f),D.int i64 (TFrame.Vlan f),D.sl true 1 (enS true (deS UInt8 (enS false (TFrame.Load f))))]],[])else none:=by kernel_rfl
theorem m111(f:TFrame):(o111 f).1=true→e111 f 0=some (o111 f).2:=by
 refine pm λhpre=>(r111 f _).trans ?_;simp only[Zak,Zad,hpre,Bool.and_self,cond_true]
def T111:Table:=(111,c111)::T94
theorem Zoc:Table.Sound prog Hx T111:=sa Zsm func111 (by kernel_rfl) (Zah λf=>Zan λh=>⟨_,m111 f h⟩)
def o24(f:TFrame):Bool×List Row×List Row:=(decide (f.Load.length≤1048576),[[.int .i64 (f).To,.int .i64 (f).From,.int .i64 (f).Vlan,.sl true 1 (enS true (f).Load)]],[])
def c24:Contract:=(cp zp20 λf=>c0 (o24 f)) true
def e24(f:TFrame)(n:Nat):=evFn ⟨prog,Hx,24⟩ T111.call n f24 [zp20.row f]
theorem r24(f:TFrame)(n:Nat):e24 f n=bif decide ((0+length (enS false (TFrame.Load f)))*1≤140737488355328)then some ([[D.int i64 (TFrame.To f),D.int i64 (TFrame.From f),D.int i64 (TFrame.Vlan f),D.sl true 1 (enS false (TFrame.Load f))]],[])else none:=by kernel_rfl
theorem m24(f:TFrame):(o24 f).1=true→e24 f 0=some (o24 f).2:=by
 refine pm λhpre=>(r24 f _).trans ?_;have hlen:=of_decide_eq_true hpre;have h1:decide ((0+f.Load.length)*1≤140737488355328)=true:=decide_eq_true (by omega)
 simp only[Zaa,h1,cond_true];rfl
def T24:Table:=(24,c24)::T111
theorem Zqo:Table.Sound prog Hx T24:=sa Zoc func24 (by kernel_rfl) (Zah λf=>Zan λh=>⟨_,m24 f h⟩)
def o65(c:Card)(port:Int):Bool×List Row×List Row:=(decide (c.Open.length≤1048576),[[.bool (inR port 0 ((c.Open.length:Int)-1)&&c.Open.getD port.toNat false)]],[])
def c65:Contract:=(cp zp14 λc=>cp zp0 λport=>c0 (o65 c port)) true
def e65(c:Card)(port:Int)(n:Nat):=evFn ⟨prog,Hx,65⟩ T24.call n f65 [zp14.row c,zp0.row port]
theorem r65(c:Card)(port:Int)(n:Nat):e65 c port n=bif inR port (0) (wrap i64 (ofNat (length (enS false (Card.Open c)))-1))then bif decide (0≤port)&&decide (port<ofNat (length (enS false (Card.Open c))))then bif Leaf.fit false Leaf.bool (getD (getD (enS false (Card.Open c)) (toNat port) []) 0 D.dead)&&true then some ([[D.bool (D.flag (getD (getD (enS false (Card.Open c)) (toNat port) []) 0 D.dead))]],[])else none else none else some ([[D.bool false]],[]):=by kernel_rfl
theorem m65(c:Card)(port:Int):(o65 c port).1=true→e65 c port 0=some (o65 c port).2:=by
 refine pm λhpre=>(r65 c port _).trans ?_;have hlen:=of_decide_eq_true hpre;rw[Zaa,Z2s hlen];cases h:inR port 0 ((c.Open.length:Int)-1)
 ·rfl
 obtain⟨k,rfl,hk⟩:=Zij h;refine Zaj rfl (Zaj (by rw[Zaq,Zap];simp only[decide_eq_true hk];rfl) (Zaj (by rw[Zac,Zab false hk];rfl) ?_))
 rw[Zac,Zab false hk];show some ([[D.bool c.Open[k]]],[])=some ([[D.bool (true&&c.Open.getD k false)]],[]);rw[show c.Open.getD k false=c.Open[k] by rw[List.getD_eq_getElem?_getD,List.getElem?_eq_getElem hk];rfl]
 rfl
def T65:Table:=(65,c65)::T24
theorem Zrt:Table.Sound prog Hx T65:=sa Zqo func65 (by kernel_rfl) (Zah λc=>Zah λport=>Zan λh=>⟨_,m65 c port h⟩)
def o66(m:Member)(f:TFrame):Bool×List Row×List Row:=(Member.small m&&decide (f.Load.length≤1048576),[[.int .i64 (insideF m f).To,.int .i64 (insideF m f).From,.int .i64 (insideF m f).Vlan,.sl true 1 (enS true (insideF m f).Load)],[.bool (insideOk m f)]],[])
def c66:Contract:=(cp zp10 λm=>cp zp20 λf=>c0 (o66 m f)) true
def e66(m:Member)(f:TFrame)(n:Nat):=evFn ⟨prog,Hx,66⟩ T65.call n f66 [zp10.row m,zp20.row f]
def y66_0:List Row×List Row:=([[D.int i64 (0),D.int i64 (0),D.int i64 (0),D.sl true 1 []],[D.bool false]],[])
theorem r66(m:Member)(f:TFrame)(n:Nat):e66 m f n=bif isS Int false (enS false (Member.In m))&&Member.small (Member.mk (Member.Own m) (deS Int (enS false (Member.In m))))then bif !memberOk (Member.mk (Member.Own m) (deS Int (enS false (Member.In m))))then some y66_0 else bif isS UInt8 false (enS false (TFrame.Load f))&&true then bif !frameOk (TFrame.mk (TFrame.To f) (TFrame.From f) (TFrame.Vlan f) (deS UInt8 (enS false (TFrame.Load f))))then some y66_0 else bif isS UInt8 false (enS false (TFrame.Load f))&&decide (length (deS UInt8 (enS false (TFrame.Load f)))≤1048576)then bif TFrame.Vlan f==0 then bif isS Int false (enS false (Member.In m))&&decide (length (deS Int (enS false (Member.In m)))≤1048576)then bif !hasI (deS Int (enS false (Member.In m))) (Member.Own m)then some y66_0 else some ([[D.int i64 (TFrame.To f),D.int i64 (TFrame.From f),D.int i64 (Member.Own m),D.sl true 1 (enS true (deS UInt8 (enS false (TFrame.Load f))))],[D.bool true]],[])else none else bif isS Int false (enS false (Member.In m))&&decide (length (deS Int (enS false (Member.In m)))≤1048576)then bif !hasI (deS Int (enS false (Member.In m))) (TFrame.Vlan f)then some y66_0 else some ([[D.int i64 (TFrame.To f),D.int i64 (TFrame.From f),D.int i64 (TFrame.Vlan f),D.sl true 1 (enS true (deS UInt8 (enS false (TFrame.Load f))))],[D.bool true]],[])else none else none else none else none:=by kernel_rfl
theorem m66(m:Member)(f:TFrame):(o66 m f).1=true→e66 m f 0=some (o66 m f).2:=by
 refine pm λhpre=>(r66 m f _).trans ?_;delta y66_0;rw[Bool.and_eq_true]at hpre;obtain⟨h1,h2⟩:=hpre;have h3:=Zgd h1;simp only[gos,Zbo,h1,h2,h3];unfold insideF insideOk inV setVlan noF;cases memberOk m
 ·cases f.Vlan==0<;>rfl
 cases frameOk f
 ·cases f.Vlan==0<;>rfl
 cases f.Vlan==0
 ·simp only[cond_false];cases hasI m.In f.Vlan<;>rfl
 ·simp only[cond_true];cases hasI m.In m.Own<;>rfl
def T66:Table:=(66,c66)::T65
theorem Zru:Table.Sound prog Hx T66:=sa Zrt func66 (by kernel_rfl) (Zah λm=>Zah λf=>Zan λh=>⟨_,m66 m f h⟩)
def o69(m:Member)(f:TFrame):Bool×List Row×List Row:=(Member.small m&&decide (f.Load.length≤1048576),[[.int .i64 (outsideF m f).To,.int .i64 (outsideF m f).From,.int .i64 (outsideF m f).Vlan,.sl true 1 (enS true (outsideF m f).Load)],[.bool (outsideOk m f)]],[])
def c69:Contract:=(cp zp10 λm=>cp zp20 λf=>c0 (o69 m f)) true
def e69(m:Member)(f:TFrame)(n:Nat):=evFn ⟨prog,Hx,69⟩ T66.call n f69 [zp10.row m,zp20.row f]
def y69_0:List Row×List Row:=([[D.int i64 (0),D.int i64 (0),D.int i64 (0),D.sl true 1 []],[D.bool false]],[])
theorem r69(m:Member)(f:TFrame)(n:Nat):e69 m f n=bif isS Int false (enS false (Member.In m))&&Member.small (Member.mk (Member.Own m) (deS Int (enS false (Member.In m))))then bif !memberOk (Member.mk (Member.Own m) (deS Int (enS false (Member.In m))))then some y69_0 else bif isS UInt8 false (enS false (TFrame.Load f))&&true then bif !frameOk (TFrame.mk (TFrame.To f) (TFrame.From f) (TFrame.Vlan f) (deS UInt8 (enS false (TFrame.Load f))))then some y69_0 else bif isS Int false (enS false (Member.In m))&&decide (length (deS Int (enS false (Member.In m)))≤1048576)then bif !hasI (deS Int (enS false (Member.In m))) (TFrame.Vlan f)then some y69_0 else bif isS UInt8 false (enS false (TFrame.Load f))&&decide (length (deS UInt8 (enS false (TFrame.Load f)))≤1048576)then bif TFrame.Vlan f==Member.Own m then some ([[D.int i64 (TFrame.To f),D.int i64 (TFrame.From f),D.int i64 (0),D.sl true 1 (enS true (deS UInt8 (enS false (TFrame.Load f))))],[D.bool true]],[])else some ([[D.int i64 (TFrame.To f),D.int i64 (TFrame.From f),D.int i64 (TFrame.Vlan f),D.sl true 1 (enS true (deS UInt8 (enS false (TFrame.Load f))))],[D.bool true]],[])else none else none else none else none:=by kernel_rfl
theorem m69(m:Member)(f:TFrame):(o69 m f).1=true→e69 m f 0=some (o69 m f).2:=by
 refine pm λhpre=>(r69 m f _).trans ?_;delta y69_0;rw[Bool.and_eq_true]at hpre;obtain⟨h1,h2⟩:=hpre;have h3:=Zgd h1;simp only[gos,Zbo,h1,h2,h3];unfold outsideF outsideOk setVlan noF;cases memberOk m
 ·rfl
 cases frameOk f
 ·rfl
 cases hasI m.In f.Vlan
 ·rfl
 cases f.Vlan==m.Own<;>rfl
def T69:Table:=(69,c69)::T66
theorem Zrx:Table.Sound prog Hx T69:=sa Zru func69 (by kernel_rfl) (Zah λm=>Zah λf=>Zan λh=>⟨_,m69 m f h⟩)
def o67(list:List Heard)(addr:Int)(vlan:Int):Bool×List Row×List Row:=(decide (list.length≤1048576),[[.int .i64 ((whereL list addr vlan).1)],[.bool ((whereL list addr vlan).2)]],[])
def c67:Contract:=(cp zp13 λlist=>cp zp0 λaddr=>cp zp0 λvlan=>c0 (o67 list addr vlan)) true
def k67_0:KT:=λn↦kThen (λst↦rC 67 T69 n f67 [1,1] 192 [] 192 st (lV f67 [] [])) (lV f67 [] [])
def k67_1:KT:=λn↦kBlock (0) (k67_0 n)
def S67_0(list:List Heard)(addr:Int)(vlan:Int)(i0:Int):St:=St.mk (U_::I_ addr::I_ vlan::u_ 7 (V_ [C.d (D.sl false 4 (enS false list))]::I_ (ofNat (length (enS false list)))::I_ i0::u_ 16 [])) []
def B67_0:BT:=λn↦rC 67 T69 n f67 [1,0,1,0,0] 7174 [(0,0)] 192
def X67_2(list:List Heard)(i0:Int):St:=St.mk (u_ 6 (I_ (D.num (getD (getD (enS false list) (toNat i0) []) 2 D.dead))::B_ true::u_ 21 [])) [Root.mk true 4 [[D.int i64 (D.num (getD (getD (enS false list) (toNat i0) []) 0 D.dead)),D.int i64 (D.num (getD (getD (enS false list) (toNat i0) []) 1 D.dead)),D.int i64 (D.num (getD (getD (enS false list) (toNat i0) []) 2 D.dead)),D.int i64 (D.num (getD (getD (enS false list) (toNat i0) []) 3 D.dead))]] 0 0 true true false [] 0 []]
def X67_3:St:=St.mk (u_ 29 []) []
theorem Z1t(list:List Heard)(addr:Int)(vlan:Int)(n:Nat)(i0:Int)(f:St→RR)(K:Ex→St→RR):B67_0 n (S67_0 list addr vlan i0) (kThen (λst↦f (St.head 0 7174 536867520 st)) K)=bif decide (i0<ofNat (length (enS false list)))then bif decide (0≤i0)&&decide (i0<ofNat (length (enS false list)))then bif Leaf.fit false (Leaf.int i64) (getD (getD (enS false list) (toNat i0) []) 0 D.dead)&&(Leaf.fit false (Leaf.int i64) (getD (getD (enS false list) (toNat i0) []) 1 D.dead)&&(Leaf.fit false (Leaf.int i64) (getD (getD (enS false list) (toNat i0) []) 2 D.dead)&&(Leaf.fit false (Leaf.int i64) (getD (getD (enS false list) (toNat i0) []) 3 D.dead)&&true)))then bif D.num (getD (getD (enS false list) (toNat i0) []) 0 D.dead)==addr then bif D.num (getD (getD (enS false list) (toNat i0) []) 1 D.dead)==vlan then K Ex.ret (X67_2 list i0)else f (S67_0 list addr vlan (wrap i64 (i0+1)))else f (S67_0 list addr vlan (wrap i64 (i0+1)))else none else none else K (Ex.exit 0) X67_3:=by kernel_rfl
theorem Zzl(list:List Heard)(n:Nat)(i0:Int):k67_1 n Ex.ret (X67_2 list i0)=some ([[D.int i64 (D.num (getD (getD (enS false list) (toNat i0) []) 2 D.dead))],[D.bool true]],[]):=by kernel_rfl
theorem Zzm(n:Nat):k67_1 n (Ex.exit 0) X67_3=some ([[D.int i64 (0)],[D.bool false]],[]):=by kernel_rfl
def e67(list:List Heard)(addr:Int)(vlan:Int)(n:Nat):=evFn ⟨prog,Hx,67⟩ T69.call n f67 [zp13.row list,zp0.row addr,zp0.row vlan]
theorem r67(list:List Heard)(addr:Int)(vlan:Int)(n:Nat):e67 list addr vlan n=loopRun (B67_0 n) 0 7174 536867520 n (S67_0 list addr vlan (0)) (k67_1 n):=by kernel_rfl
theorem m67(list:List Heard)(addr:Int)(vlan:Int):(o67 list addr vlan).1=true→e67 list addr vlan (list.length+1)=some (o67 list addr vlan).2:=by
 refine pm λhpre=>(r67 list addr vlan _).trans ?_;have hlen:=of_decide_eq_true hpre;refine Zai (xs:=list) (λi (_:Unit)=>S67_0 list addr vlan (Int.ofNat i)) (λ_ _=>True) (λ_ _ rest=>some ([[D.int .i64 (whereL rest addr vlan).1],[D.bool (whereL rest addr vlan).2]],[])) ?_ ?_ (list.length+1) () (by omega) trivial
 ·rintro _ _ f;refine(Z1t list addr vlan _ _ f _).trans ?_;rw[Zaw,cond_false];exact Zzm _
 ·rintro i _ hi _ f hf;refine(Z1t list addr vlan _ _ f _).trans ?_;rw[Zj5];cases h1:list[i].Addr==addr
  ·simp only[gos,En.enc,D.num,D.flag,D.text,D.rows,Leaf.fit,Zbo,Zab _ hi,hi,Zae (show i<4611686018427387904 by omega),h1,beq_self_eq_true,decide_true,Bool.and_self]
   exact hf () trivial
  cases h2:list[i].Vlan==vlan
  ·simp only[gos,En.enc,D.num,D.flag,D.text,D.rows,Leaf.fit,Zbo,Zab _ hi,hi,Zae (show i<4611686018427387904 by omega),h1,h2,beq_self_eq_true,decide_true,Bool.and_self]
   exact hf () trivial
  ·simp only[gos,En.enc,D.num,D.flag,D.text,D.rows,Leaf.fit,Zbo,Zab _ hi,hi,Zae (show i<4611686018427387904 by omega),h1,h2,beq_self_eq_true,decide_true,Bool.and_self]
   refine(Zzl _ _ _).trans ?_;rw[Zac,Zab false hi];rfl
def T67:Table:=(67,c67)::T69
theorem Zrv:Table.Sound prog Hx T67:=sa Zrx func67 (by kernel_rfl) (Zah λlist=>Zah λaddr=>Zah λvlan=>Zan λh=>⟨_,m67 list addr vlan h⟩)
def o52(m:Member)(f:TFrame):Bool×List Row×List Row:=(Member.small m&&decide (f.Load.length≤1048576),[[.int .i64 (insideF m f).To,.int .i64 (insideF m f).From,.int .i64 (insideF m f).Vlan,.sl true 1 (enS true (insideF m f).Load)],[.bool (insideOk m f)]],[])
def c52:Contract:=(cp zp10 λm=>cp zp20 λf=>c0 (o52 m f)) true
def e52(m:Member)(f:TFrame)(n:Nat):=evFn ⟨prog,Hx,52⟩ T67.call n f52 [zp10.row m,zp20.row f]
def y52_0:List Row×List Row:=([[D.int i64 (0),D.int i64 (0),D.int i64 (0),D.sl true 1 []],[D.bool false]],[])
def y52_1(m:Member):=Member.mk (Member.Own m) (deS Int (enS false (Member.In m)))
theorem r52(m:Member)(f:TFrame)(n:Nat):e52 m f n=bif isS UInt8 false (enS false (TFrame.Load f))&&decide (length (deS UInt8 (enS false (TFrame.Load f)))≤1048576)then bif TFrame.Vlan f==0 then bif isS Int false (enS false (Member.In m))&&Member.small (y52_1 m)then bif !memberOk (y52_1 m)then some y52_0 else bif isS UInt8 false (enS false (TFrame.Load f))&&true then bif !frameOk (TFrame.mk (TFrame.To f) (TFrame.From f) (TFrame.Vlan f) (deS UInt8 (enS false (TFrame.Load f))))then some y52_0 else bif isS Int false (enS false (Member.In m))&&decide (length (deS Int (enS false (Member.In m)))≤1048576)then bif !hasI (deS Int (enS false (Member.In m))) (Member.Own m)then some y52_0 else some ([[D.int i64 (TFrame.To f),D.int i64 (TFrame.From f),D.int i64 (Member.Own m),D.sl true 1 (enS true (deS UInt8 (enS false (TFrame.Load f))))],[D.bool true]],[])else none else none else none else bif isS Int false (enS false (Member.In m))&&Member.small (y52_1 m)then bif !memberOk (y52_1 m)then some y52_0 else bif isS UInt8 false (enS false (TFrame.Load f))&&true then bif !frameOk (TFrame.mk (TFrame.To f) (TFrame.From f) (TFrame.Vlan f) (deS UInt8 (enS false (TFrame.Load f))))then some y52_0 else bif isS Int false (enS false (Member.In m))&&decide (length (deS Int (enS false (Member.In m)))≤1048576)then bif !hasI (deS Int (enS false (Member.In m))) (TFrame.Vlan f)then some y52_0 else some ([[D.int i64 (TFrame.To f),D.int i64 (TFrame.From f),D.int i64 (TFrame.Vlan f),D.sl true 1 (enS true (deS UInt8 (enS false (TFrame.Load f))))],[D.bool true]],[])else none else none else none else none:=by kernel_rfl
theorem m52(m:Member)(f:TFrame):(o52 m f).1=true→e52 m f 0=some (o52 m f).2:=by
 refine pm λhpre=>(r52 m f _).trans ?_;delta y52_0 y52_1;rw[Bool.and_eq_true]at hpre;obtain⟨h1,h2⟩:=hpre;have h3:=Zgd h1;simp only[gos,Zbo,h1,h2,h3];unfold insideF insideOk inV setVlan noF;cases memberOk m
 ·cases f.Vlan==0<;>rfl
 cases frameOk f
 ·cases f.Vlan==0<;>rfl
 cases f.Vlan==0
 ·simp only[cond_false];cases hasI m.In f.Vlan<;>rfl
 ·simp only[cond_true];cases hasI m.In m.Own<;>rfl
def T52:Table:=(52,c52)::T67
theorem Zrg:Table.Sound prog Hx T52:=sa Zrv func52 (by kernel_rfl) (Zah λm=>Zah λf=>Zan λh=>⟨_,m52 m f h⟩)
def o55(m:Member)(f:TFrame):Bool×List Row×List Row:=(Member.small m&&decide (f.Load.length≤1048576),[[.int .i64 (outsideF m f).To,.int .i64 (outsideF m f).From,.int .i64 (outsideF m f).Vlan,.sl true 1 (enS true (outsideF m f).Load)],[.bool (outsideOk m f)]],[])
def c55:Contract:=(cp zp10 λm=>cp zp20 λf=>c0 (o55 m f)) true
def e55(m:Member)(f:TFrame)(n:Nat):=evFn ⟨prog,Hx,55⟩ T52.call n f55 [zp10.row m,zp20.row f]
def y55_0:List Row×List Row:=([[D.int i64 (0),D.int i64 (0),D.int i64 (0),D.sl true 1 []],[D.bool false]],[])
theorem r55(m:Member)(f:TFrame)(n:Nat):e55 m f n=bif isS UInt8 false (enS false (TFrame.Load f))&&decide (length (deS UInt8 (enS false (TFrame.Load f)))≤1048576)then bif isS Int false (enS false (Member.In m))&&Member.small (Member.mk (Member.Own m) (deS Int (enS false (Member.In m))))then bif !memberOk (Member.mk (Member.Own m) (deS Int (enS false (Member.In m))))then some y55_0 else bif isS UInt8 false (enS false (TFrame.Load f))&&true then bif !frameOk (TFrame.mk (TFrame.To f) (TFrame.From f) (TFrame.Vlan f) (deS UInt8 (enS false (TFrame.Load f))))then some y55_0 else bif isS Int false (enS false (Member.In m))&&decide (length (deS Int (enS false (Member.In m)))≤1048576)then bif !hasI (deS Int (enS false (Member.In m))) (TFrame.Vlan f)then some y55_0 else bif TFrame.Vlan f==Member.Own m then some ([[D.int i64 (TFrame.To f),D.int i64 (TFrame.From f),D.int i64 (0),D.sl true 1 (enS true (deS UInt8 (enS false (TFrame.Load f))))],[D.bool true]],[])else some ([[D.int i64 (TFrame.To f),D.int i64 (TFrame.From f),D.int i64 (TFrame.Vlan f),D.sl true 1 (enS true (deS UInt8 (enS false (TFrame.Load f))))],[D.bool true]],[])else none else none else none else none:=by kernel_rfl
theorem m55(m:Member)(f:TFrame):(o55 m f).1=true→e55 m f 0=some (o55 m f).2:=by
 refine pm λhpre=>(r55 m f _).trans ?_;delta y55_0;rw[Bool.and_eq_true]at hpre;obtain⟨h1,h2⟩:=hpre;have h3:=Zgd h1;simp only[gos,Zbo,h1,h2,h3];unfold outsideF outsideOk setVlan noF;cases memberOk m
 ·rfl
 cases frameOk f
 ·rfl
 cases hasI m.In f.Vlan
 ·rfl
 cases f.Vlan==m.Own<;>rfl
def T55:Table:=(55,c55)::T52
theorem Zrj:Table.Sound prog Hx T55:=sa Zrg func55 (by kernel_rfl) (Zah λm=>Zah λf=>Zan λh=>⟨_,m55 m f h⟩)
def o53(list:List Heard)(addr:Int)(vlan:Int):Bool×List Row×List Row:=(decide (list.length≤1048576),[[.int .i64 ((whereL list addr vlan).1)],[.bool ((whereL list addr vlan).2)]],[])
def c53:Contract:=(cp zp13 λlist=>cp zp0 λaddr=>cp zp0 λvlan=>c0 (o53 list addr vlan)) true
def k53_0:KT:=λn↦kThen (λst↦rC 53 T55 n f53 [1,1] 192 [] 192 st (lV f53 [] [])) (lV f53 [] [])
def k53_1:KT:=λn↦kBlock (0) (k53_0 n)
def S53_0(list:List Heard)(addr:Int)(vlan:Int)(i0:Int):St:=St.mk (V_ [C.d (D.sl false 4 (enS false list))]::I_ addr::I_ vlan::u_ 5 (I_ i0::u_ 27 [])) []
def B53_0:BT:=λn↦rC 53 T55 n f53 [1,0,1,0,0] 263 [(0,0)] 192
def X53_2(list:List Heard)(i0:Int):St:=St.mk (u_ 6 (I_ (D.num (getD (drop 2 (getD (enS false list) (toNat i0) [])) 0 D.dead))::B_ true::u_ 28 [])) []
def X53_3:St:=St.mk (u_ 36 []) []
theorem Z1k(list:List Heard)(addr:Int)(vlan:Int)(n:Nat)(i0:Int)(f:St→RR)(K:Ex→St→RR):B53_0 n (S53_0 list addr vlan i0) (kThen (λst↦f (St.head 0 263 68719476672 st)) K)=bif decide (i0<ofNat (length (enS false list)))then bif decide (0≤i0)&&decide (i0<ofNat (length (enS false list)))then bif Leaf.fit false (Leaf.int i64) (getD (getD (enS false list) (toNat i0) []) 0 D.dead)&&true then bif D.num (getD (getD (enS false list) (toNat i0) []) 0 D.dead)==addr then bif decide (0≤i0)&&decide (i0<ofNat (length (enS false list)))then bif Leaf.fit false (Leaf.int i64) (getD (drop 1 (getD (enS false list) (toNat i0) [])) 0 D.dead)&&true then bif D.num (getD (drop 1 (getD (enS false list) (toNat i0) [])) 0 D.dead)==vlan then bif decide (0≤i0)&&decide (i0<ofNat (length (enS false list)))then bif Leaf.fit false (Leaf.int i64) (getD (drop 2 (getD (enS false list) (toNat i0) [])) 0 D.dead)&&true then K Ex.ret (X53_2 list i0)else none else none else f (S53_0 list addr vlan (wrap i64 (i0+1)))else none else none else f (S53_0 list addr vlan (wrap i64 (i0+1)))else none else none else K (Ex.exit 0) X53_3:=by kernel_rfl
theorem Zy8(list:List Heard)(n:Nat)(i0:Int):k53_1 n Ex.ret (X53_2 list i0)=some ([[D.int i64 (D.num (getD (drop 2 (getD (enS false list) (toNat i0) [])) 0 D.dead))],[D.bool true]],[]):=by kernel_rfl
theorem Zy9(n:Nat):k53_1 n (Ex.exit 0) X53_3=some ([[D.int i64 (0)],[D.bool false]],[]):=by kernel_rfl
def e53(list:List Heard)(addr:Int)(vlan:Int)(n:Nat):=evFn ⟨prog,Hx,53⟩ T55.call n f53 [zp13.row list,zp0.row addr,zp0.row vlan]
theorem r53(list:List Heard)(addr:Int)(vlan:Int)(n:Nat):e53 list addr vlan n=loopRun (B53_0 n) 0 263 68719476672 n (S53_0 list addr vlan (0)) (k53_1 n):=by kernel_rfl
theorem m53(list:List Heard)(addr:Int)(vlan:Int):(o53 list addr vlan).1=true→e53 list addr vlan (list.length+1)=some (o53 list addr vlan).2:=by
 refine pm λhpre=>(r53 list addr vlan _).trans ?_;have hlen:=of_decide_eq_true hpre;refine Zai (xs:=list) (λi (_:Unit)=>S53_0 list addr vlan (Int.ofNat i)) (λ_ _=>True) (λ_ _ rest=>some ([[D.int .i64 (whereL rest addr vlan).1],[D.bool (whereL rest addr vlan).2]],[])) ?_ ?_ (list.length+1) () (by omega) trivial
 ·rintro _ _ f;refine(Z1k list addr vlan _ _ f _).trans ?_;rw[Zaw,cond_false];exact Zy9 _
 ·rintro i _ hi _ f hf;refine(Z1k list addr vlan _ _ f _).trans ?_;rw[Zj5];have hb:(decide (0≤Int.ofNat i)&&decide (Int.ofNat i<Int.ofNat (enS false list).length))=true:=by rw[Zaz false hi,Zaq];rfl
  refine Zaj (Zaz false hi) (Zaj hb (Zaj (by rw[Zac,Zab false hi];rfl) ?_))
  rw[Zac,Zab false hi,Zae (show i<4611686018427387904 by omega)]
  cases h1:list[i].Addr==addr
  ·refine Za5 h1 ?_;exact hf () trivial
  refine Zaj h1 (Zaj hb (Zaj rfl ?_));cases h2:list[i].Vlan==vlan
  ·refine Za5 h2 ?_;exact hf () trivial
  ·refine Zaj h2 (Zaj hb (Zaj rfl ?_));refine(Zy8 _ _ _).trans ?_;rw[Zac,Zab false hi];rfl
def T53:Table:=(53,c53)::T55
theorem Zrh:Table.Sound prog Hx T53:=sa Zrj func53 (by kernel_rfl) (Zah λlist=>Zah λaddr=>Zah λvlan=>Zan λh=>⟨_,m53 list addr vlan h⟩)
def o60(c:Card):Bool×List Row×List Row:=(Card.small c,[[.sl true 1 (enS true (c).Open),.sl true 2 (enS true (c).Members),.sl true 4 (enS true (c).Table)]],[])
def c60:Contract:=(cp zp14 λc=>c0 (o60 c)) true
def k60_0:KT:=λn↦kThen (λst↦rC 60 T53 n f60 [1,1,1] 4 [] 4 st (lV f60 [] [])) (lV f60 [] [])
def k60_1:KT:=λn↦kBlock (0) (k60_0 n)
def y60_1(c:Card):=enS true (deS Heard (enS false (Card.Table c)))
def y60_2(c:Card):=enS true (deS Bool (enS false (Card.Open c)))
def S60_0(c:Card)(i0:Int)(es1:List (List D)):St:=St.mk (U_::U_::V_ [C.ptr 1 0 0 [] 3 0 0]::V_ [C.ptr 4 0 0 [] 3 0 0]::u_ 10 (V_ [C.d (D.sl false 2 (enS false (Card.Members c)))]::I_ (ofNat (length (enS false (Card.Members c))))::I_ i0::u_ 16 [])) [Root.mk true 3 [En.enc false c] 0 0 true true false [] 0 [],Root.mk true 3 [[D.sl true 1 [],D.sl true 2 [],D.sl true 4 []]] 0 0 true true false [] 0 [],Root.mk false 1 (y60_2 c) 0 0 false true false [] 0 [],Root.mk false 4 (y60_1 c) 0 0 false true false [] 0 [],Root.mk true 3 [[D.sl true 1 (y60_2 c),D.sl true 2 es1,D.sl true 4 (y60_1 c)]] 0 0 true true false [] 0 []]
def B60_0:BT:=λn↦rC 60 T53 n f60 [1,1,0,1,0,0] 114700 [(0,12)] 4
def X60_2(c:Card)(es1:List (List D)):St:=St.mk (U_::U_::V_ [C.ptr 1 0 0 [] 3 0 0]::V_ [C.ptr 4 0 0 [] 3 0 0]::u_ 29 []) [Root.mk true 3 [En.enc false c] 0 0 true true false [] 0 [],Root.mk true 3 [[D.sl true 1 [],D.sl true 2 [],D.sl true 4 []]] 0 0 true true false [] 0 [],Root.mk false 1 (y60_2 c) 0 0 false true false [] 0 [],Root.mk false 4 (y60_1 c) 0 0 false true false [] 0 [],Root.mk true 3 [[D.sl true 1 (y60_2 c),D.sl true 2 es1,D.sl true 4 (y60_1 c)]] 0 0 true true false [] 0 []]
def y60_0(c:Card)(i0:Int):=getD (enS false (Card.Members c)) (toNat i0) []
theorem Z1p(c:Card)(n:Nat)(i0:Int)(es1:List (List D))(f:St→RR)(K:Ex→St→RR):B60_0 n (S60_0 c i0 es1) (kThen (λst↦f (St.head 5 114700 4294901792 st)) K)=bif decide (i0<ofNat (length (enS false (Card.Members c))))then bif decide (0≤i0)&&decide (i0<ofNat (length (enS false (Card.Members c))))then bif Leaf.fit false (Leaf.int i64) (getD (y60_0 c i0) 0 D.dead)&&(Leaf.fit false (Leaf.sl 1 true) (getD (y60_0 c i0) 1 D.dead)&&true)then bif isS Int false (D.rows (getD (y60_0 c i0) 1 D.dead))&&decide (length (deS Int (D.rows (getD (y60_0 c i0) 1 D.dead)))≤1048576)then bif decide ((length es1+1)*32≤140737488355328)then f (S60_0 c (wrap i64 (i0+1)) (append es1 [[D.int i64 (D.num (getD (y60_0 c i0) 0 D.dead)),D.sl true 1 (enS true (deS Int (D.rows (getD (y60_0 c i0) 1 D.dead))))]]))else none else none else none else none else K (Ex.exit 0) (X60_2 c es1):=by kernel_rfl
theorem Zze(c:Card)(n:Nat)(es1:List (List D)):k60_1 n (Ex.exit 0) (X60_2 c es1)=some ([[D.sl true 1 (y60_2 c),D.sl true 2 es1,D.sl true 4 (y60_1 c)]],[]):=by kernel_rfl
def e60(c:Card)(n:Nat):=evFn ⟨prog,Hx,60⟩ T53.call n f60 [zp14.row c]
theorem r60(c:Card)(n:Nat):e60 c n=bif isS Bool false (enS false (Card.Open c))&&decide (length (deS Bool (enS false (Card.Open c)))≤1048576)then bif isS Heard false (enS false (Card.Table c))&&decide (length (deS Heard (enS false (Card.Table c)))≤4194304)then loopRun (B60_0 n) 5 114700 4294901792 n (S60_0 c (0) []) (k60_1 n)else none else none:=by kernel_rfl
theorem m60(c:Card):(o60 c).1=true→e60 c (c.Members.length+1)=some (o60 c).2:=by
 refine pm λhpre=>(r60 c _).trans ?_;obtain⟨hs1,hs2,hs3,hs4⟩:=Zcm hpre;refine Zaj (by rw[Zak,Zad,decide_eq_true hs1];rfl) (Zaj (by rw[Zak,Zad,decide_eq_true (show c.Table.length≤4194304 by omega)];rfl) ?_)
 refine Zai (xs:=c.Members) (λi (ms:List Member)=>S60_0 c (Int.ofNat i) (enS true ms)) (λi ms=>ms=c.Members.take i) (λ_ _ _=>some ([[D.sl true 1 (enS true c.Open),D.sl true 2 (enS true c.Members),D.sl true 4 (enS true c.Table)]],[])) ?_ ?_ (c.Members.length+1) [] (by omega) rfl
 ·rintro ms rfl f;refine(Z1p c _ _ _ f _).trans ?_;delta y60_0;rw[Zaw,cond_false];refine(Zze _ _ _).trans ?_;delta y60_1 y60_2;rw[List.take_length,Zad,Zad]
 ·rintro i ms hi hms f hf;have hpl:=hs3 _ (List.getElem_mem hi);have hml:ms.length≤i:=by rw[hms,List.length_take];omega
  refine(Z1p c _ _ _ f _).trans ?_;delta y60_0;refine Zaj (Zaz false hi) (Zaj (by rw[Zaz false hi,Zaq];rfl) (Zaj (by rw[Zac,Zab false hi];rfl) (Zaj (by rw[Zac,Zab false hi];show(isS Int false (enS false c.Members[i].In)&&decide (List.length (deS Int (enS false c.Members[i].In))≤1048576))=true;rw[Zak,Zad,decide_eq_true hpl];rfl) (Zaj (decide_eq_true (by rw[Zaa];omega)) ?_))))
  rw[Zac,Zab false hi,Zae (show i<4611686018427387904 by omega)]
  have e:List.append (enS true ms) [[D.int .i64 (D.num (List.getD (En.enc false c.Members[i]) 0 D.dead)),D.sl true 1 (enS true (deS Int (D.rows (List.getD (En.enc false c.Members[i]) 1 D.dead))))]]=enS true (ms++[c.Members[i]]):=by
   show List.append (enS true ms) [[D.int .i64 c.Members[i].Own,D.sl true 1 (enS true (deS Int (enS false c.Members[i].In)))]]=_;rw[Zad];exact Zba true ms c.Members[i]
  rw[e];exact hf _ (by rw[hms,List.take_append_getElem])
def T60:Table:=(60,c60)::T53
theorem Zro:Table.Sound prog Hx T60:=sa Zrh func60 (by kernel_rfl) (Zah λc=>Zan λh=>⟨_,m60 c h⟩)
def o49(c:Card):Bool×List Row×List Row:=(Card.small c,[[.sl true 1 (enS true (c).Open),.sl true 2 (enS true (c).Members),.sl true 4 (enS true (c).Table)]],[])
def c49:Contract:=(cp zp14 λc=>c0 (o49 c)) true
def k49_0:KT:=λn↦kThen (λst↦rC 49 T60 n f49 [1,1,1] 4 [] 4 st (lV f49 [] [])) (lV f49 [] [])
def k49_1:KT:=λn↦kBlock (0) (k49_0 n)
def S49_0(c:Card)(i0:Int)(es1:List (List D)):St:=St.mk (U_::V_ [C.ptr 0 0 0 [] 3 0 0]::V_ [C.ptr 1 0 0 [] 3 0 0]::V_ [C.ptr 6 0 0 [] 3 0 0]::I_ i0::u_ 37 []) [Root.mk true 3 [En.enc false c] 0 0 true true false [] 0 [],Root.mk true 3 [[D.sl true 1 [],D.sl true 2 [],D.sl true 4 []]] 0 0 true true false [] 0 [],Root.mk false 1 [] 0 0 false true false [] 0 [],Root.mk false 1 (enS false (Card.Open c)) 0 0 false true false [] 0 [],Root.mk false 4 [] 0 0 false true false [] 0 [],Root.mk false 4 (enS false (Card.Table c)) 0 0 false true false [] 0 [],Root.mk true 3 [[D.sl true 1 (enS false (Card.Open c)),D.sl true 2 es1,D.sl true 4 (enS false (Card.Table c))]] 0 0 true true false [] 0 []]
def B49_0:BT:=λn↦rC 49 T60 n f49 [1,1,0,1,0,0] 30 [(0,12)] 4
def X49_2(c:Card)(es1:List (List D)):St:=St.mk (U_::U_::V_ [C.ptr 1 0 0 [] 3 0 0]::V_ [C.ptr 6 0 0 [] 3 0 0]::u_ 38 []) [Root.mk true 3 [En.enc false c] 0 0 true true false [] 0 [],Root.mk true 3 [[D.sl true 1 [],D.sl true 2 [],D.sl true 4 []]] 0 0 true true false [] 0 [],Root.mk false 1 [] 0 0 false true false [] 0 [],Root.mk false 1 (enS false (Card.Open c)) 0 0 false true false [] 0 [],Root.mk false 4 [] 0 0 false true false [] 0 [],Root.mk false 4 (enS false (Card.Table c)) 0 0 false true false [] 0 [],Root.mk true 3 [[D.sl true 1 (enS false (Card.Open c)),D.sl true 2 es1,D.sl true 4 (enS false (Card.Table c))]] 0 0 true true false [] 0 []]
def y49_0(c:Card)(i0:Int):=getD (enS false (Card.Members c)) (toNat i0) []
theorem Z1g(c:Card)(n:Nat)(i0:Int)(es1:List (List D))(f:St→RR)(K:Ex→St→RR):B49_0 n (S49_0 c i0 es1) (kThen (λst↦f (St.head 7 30 2199023239184 st)) K)=bif decide (i0<ofNat (length (enS false (Card.Members c))))then bif decide (0≤i0)&&decide (i0<ofNat (length (enS false (Card.Members c))))then bif Leaf.fit false (Leaf.int i64) (getD (y49_0 c i0) 0 D.dead)&&true then bif decide (0≤i0)&&decide (i0<ofNat (length (enS false (Card.Members c))))then bif Leaf.fit false (Leaf.sl 1 true) (getD (drop 1 (y49_0 c i0)) 0 D.dead)&&true then bif decide ((0+length (D.rows (getD (drop 1 (y49_0 c i0)) 0 D.dead)))*8≤140737488355328)then bif decide ((length es1+1)*32≤140737488355328)then f (S49_0 c (wrap i64 (i0+1)) (append es1 [[D.int i64 (D.num (getD (y49_0 c i0) 0 D.dead)),D.sl true 1 (D.rows (getD (drop 1 (y49_0 c i0)) 0 D.dead))]]))else none else none else none else none else none else none else K (Ex.exit 0) (X49_2 c es1):=by kernel_rfl
theorem Zy3(c:Card)(n:Nat)(es1:List (List D)):k49_1 n (Ex.exit 0) (X49_2 c es1)=some ([[D.sl true 1 (enS false (Card.Open c)),D.sl true 2 es1,D.sl true 4 (enS false (Card.Table c))]],[]):=by kernel_rfl
def e49(c:Card)(n:Nat):=evFn ⟨prog,Hx,49⟩ T60.call n f49 [zp14.row c]
theorem r49(c:Card)(n:Nat):e49 c n=bif decide ((0+length (enS false (Card.Open c)))*1≤140737488355328)then bif decide ((0+length (enS false (Card.Table c)))*32≤140737488355328)then loopRun (B49_0 n) 7 30 2199023239184 n (S49_0 c (0) []) (k49_1 n)else none else none:=by kernel_rfl
theorem m49(c:Card):(o49 c).1=true→e49 c (c.Members.length+1)=some (o49 c).2:=by
 refine pm λhpre=>(r49 c _).trans ?_;obtain⟨hs1,hs2,hs3,hs4⟩:=Zcm hpre;refine Zaj (decide_eq_true (by rw[Zaa];omega)) (Zaj (decide_eq_true (by rw[Zaa];omega)) ?_)
 refine Zai (xs:=c.Members) (λi (ms:List Member)=>S49_0 c (Int.ofNat i) (enS true ms)) (λi ms=>ms=c.Members.take i) (λ_ _ _=>some ([[D.sl true 1 (enS true c.Open),D.sl true 2 (enS true c.Members),D.sl true 4 (enS true c.Table)]],[])) ?_ ?_ (c.Members.length+1) [] (by omega) rfl
 ·rintro ms rfl f;refine(Z1g c _ _ _ f _).trans ?_;delta y49_0;rw[Zaw,cond_false];refine(Zy3 _ _ _).trans ?_;rw[List.take_length];rfl
 ·rintro i ms hi hms f hf;have hpl:=hs3 _ (List.getElem_mem hi);have hml:ms.length≤i:=by rw[hms,List.length_take];omega
  refine(Z1g c _ _ _ f _).trans ?_;delta y49_0;refine Zaj (Zaz false hi) (Zaj (by rw[Zaz false hi,Zaq];rfl) (Zaj (by rw[Zac,Zab false hi];rfl) (Zaj (by rw[Zaz false hi,Zaq];rfl) (Zaj (by rw[Zac,Zab false hi];rfl) (Zaj (by rw[Zac,Zab false hi];show decide ((0+(enS false c.Members[i].In).length)*8≤140737488355328)=true;rw[Zaa];exact decide_eq_true (by omega)) (Zaj (decide_eq_true (by rw[Zaa];omega)) ?_))))))
  rw[Zac,Zab false hi,Zae (show i<4611686018427387904 by omega)]
  refine(congrArg f (congrArg (S49_0 c _) (Zba true ms c.Members[i]))).trans ?_;exact hf _ (by rw[hms,List.take_append_getElem])
def T49:Table:=(49,c49)::T60
theorem Zrd:Table.Sound prog Hx T49:=sa Zro func49 (by kernel_rfl) (Zah λc=>Zan λh=>⟨_,m49 c h⟩)
def o33(c:Card)(port:Int)(f:TFrame):Bool×List Row×List Row:=(Card.small c&&decide (f.Load.length≤1048576),[[.sl true 1 (enS true (passC c port f).Open),.sl true 2 (enS true (passC c port f).Members),.sl true 4 (enS true (passC c port f).Table)],[.sl true 5 (enS true (passO c port f))]],[])
def c33:Contract:=(cp zp14 λc=>cp zp0 λport=>cp zp20 λf=>c0 (o33 c port f)) true
def k33_0:KT:=λn↦kThen (λst↦rC 33 T49 n f33 [1,1,1,1,1,1,1,1,1,1] 192 [] 192 st (lV f33 [] [])) (lV f33 [] [])
def k33_1:KT:=λn↦kBlock (0) (k33_0 n)
def y33_11(c:Card)(port:Int):=getD (enS false (Card.Members c)) (toNat port) []
def y33_0(c:Card)(f:TFrame)(port:Int):=insideF (En.dec (y33_11 c port)) (TFrame.mk (TFrame.To f) (TFrame.From f) (TFrame.Vlan f) (deS UInt8 (enS false (TFrame.Load f))))
def y33_3(c:Card)(f:TFrame)(port:Int):=enS true (hearL (deS Heard (enS false (Card.Table c))) (TFrame.From (y33_0 c f port)) (TFrame.Vlan (y33_0 c f port)) port)
def y33_5(c:Card):=deS Member (enS false (Card.Members c))
def y33_7(c:Card):=enS true (deS Bool (enS false (Card.Open c)))
def y33_6(c:Card)(f:TFrame)(port:Int):=whereL (deS Heard (enS false (Card.Table c))) (TFrame.To (y33_0 c f port)) (TFrame.Vlan (y33_0 c f port))
def S33_0(c:Card)(port:Int)(f:TFrame)(i0:Int)(es1:List (List D)):St:=St.mk (U_::I_ port::U_::V_ [C.ptr 0 0 0 [] 3 0 0]::U_::U_::V_ [C.ptr 2 0 0 [] 3 0 0]::U_::V_ [C.ptr 6 0 0 [] 3 0 0]::V_ [C.ptr 8 0 0 [] 4 0 0]::U_::I_ (Prod.fst (y33_6 c f port))::B_ (TFrame.To (y33_0 c f port) !=0)::V_ [C.view 10 0 0 [] 5 none]::u_ 55 (V_ [C.d (D.sl false 2 (enS false (Card.Members c)))]::I_ (ofNat (length (enS false (Card.Members c))))::I_ i0::u_ 39 [])) [Root.mk true 3 [En.enc false c] 0 0 true true false [] 0 [],Root.mk true 4 [En.enc false f] 0 0 true true false [] 0 [],Root.mk true 3 [[D.sl true 1 [],D.sl true 2 [],D.sl true 4 []]] 0 0 true true false [] 0 [],Root.mk false 1 (y33_7 c) 0 0 false true false [] 0 [],Root.mk false 2 (enS true (y33_5 c)) 0 0 false true false [] 0 [],Root.mk false 4 (enS true (deS Heard (enS false (Card.Table c)))) 0 0 false true false [] 0 [],Root.mk true 3 [[D.sl true 1 (y33_7 c),D.sl true 2 (enS true (y33_5 c)),D.sl true 4 (y33_3 c f port)]] 0 0 true true false [] 0 [],Root.mk false 1 (enS true (TFrame.Load (y33_0 c f port))) 0 0 false true false [] 0 [],Root.mk true 4 [En.enc true (y33_0 c f port)] 0 0 true true false [] 0 [],Root.mk false 4 (y33_3 c f port) 0 0 false true false [] 0 [],Root.mk false 5 es1 0 0 true true false [] 0 []]
def B33_0:BT:=λn↦rC 33 T49 n f33 [1,1,1,1,1,1,1,1,1,0,1,0,0] 4132070672510939577162 [(0,8512)] 192
def X33_2(c:Card)(port:Int)(f:TFrame)(es1:List (List D)):St:=St.mk (u_ 6 (V_ [C.ptr 2 0 0 [] 3 0 0]::U_::V_ [C.ptr 6 0 0 [] 3 0 0]::u_ 4 (V_ [C.view 10 0 0 [] 5 none]::u_ 97 []))) [Root.mk true 3 [En.enc false c] 0 0 true true false [] 0 [],Root.mk true 4 [En.enc false f] 0 0 true true false [] 0 [],Root.mk true 3 [[D.sl true 1 [],D.sl true 2 [],D.sl true 4 []]] 0 0 true true false [] 0 [],Root.mk false 1 (y33_7 c) 0 0 false true false [] 0 [],Root.mk false 2 (enS true (y33_5 c)) 0 0 false true false [] 0 [],Root.mk false 4 (enS true (deS Heard (enS false (Card.Table c)))) 0 0 false true false [] 0 [],Root.mk true 3 [[D.sl true 1 (y33_7 c),D.sl true 2 (enS true (y33_5 c)),D.sl true 4 (y33_3 c f port)]] 0 0 true true false [] 0 [],Root.mk false 1 (enS true (TFrame.Load (y33_0 c f port))) 0 0 false true false [] 0 [],Root.mk true 4 [En.enc true (y33_0 c f port)] 0 0 true true false [] 0 [],Root.mk false 4 (y33_3 c f port) 0 0 false true false [] 0 [],Root.mk false 5 es1 0 0 true true false [] 0 []]
def y33_1(c:Card)(f:TFrame)(port:Int):=TFrame.mk (TFrame.To (y33_0 c f port)) (TFrame.From (y33_0 c f port)) (TFrame.Vlan (y33_0 c f port)) (deS UInt8 (lendRows (enS true (TFrame.Load (y33_0 c f port)))))
def y33_2(c:Card)(i0:Int):=getD (enS false (Card.Members c)) (toNat i0) []
def y33_8(c:Card)(f:TFrame)(i0:Int)(port:Int):=Member.small (En.dec (y33_2 c i0))&&decide (length (deS UInt8 (lendRows (enS true (TFrame.Load (y33_0 c f port)))))≤1048576)
def y33_10(c:Card)(i0:Int):=getD (getD (enS false (Card.Open c)) (toNat i0) []) 0 D.dead
def y33_12(c:Card)(f:TFrame)(i0:Int)(port:Int):=outsideF (En.dec (y33_2 c i0)) (y33_1 c f port)
theorem Z06(c:Card)(port:Int)(f:TFrame)(n:Nat)(i0:Int)(es1:List (List D))(f_:St→RR)(K:Ex→St→RR):B33_0 n (S33_0 c port f i0 es1) (kThen (λst↦f_ (St.head 10 4132070672510939577162 649037107314492270324877218799616 st)) K)=bif decide (i0<ofNat (length (enS false (Card.Members c))))then bif decide (0≤i0)&&decide (i0<ofNat (length (enS false (Card.Members c))))then bif Leaf.fit false (Leaf.int i64) (getD (y33_2 c i0) 0 D.dead)&&(Leaf.fit false (Leaf.sl 1 true) (getD (y33_2 c i0) 1 D.dead)&&true)then bif i0==port then f_ (S33_0 c port f (wrap i64 (i0+1)) es1)else bif decide (0≤i0)&&decide (i0<ofNat (length (enS false (Card.Open c))))then bif Leaf.fit false Leaf.bool (y33_10 c i0)&&true then bif !D.flag (y33_10 c i0)then f_ (S33_0 c port f (wrap i64 (i0+1)) es1)else bif TFrame.To (y33_0 c f port) !=0 then bif i0 !=Prod.fst (y33_6 c f port)then f_ (S33_0 c port f (wrap i64 (i0+1)) es1)else bif isS Int false (D.rows (getD (y33_2 c i0) 1 D.dead))&&isS UInt8 false (lendRows (enS true (TFrame.Load (y33_0 c f port))))&&(y33_8 c f i0 port)then bif deepRows (enS true (TFrame.Load (y33_12 c f i0 port)))&&true&&true&&true&&true then bif outsideOk (En.dec (y33_2 c i0)) (y33_1 c f port)then bif decide ((length es1+1)*56≤140737488355328)then f_ (S33_0 c port f (wrap i64 (i0+1)) (append es1 [D.int i64 i0::En.enc true (y33_12 c f i0 port)]))else none else f_ (S33_0 c port f (wrap i64 (i0+1)) es1)else none else none else bif isS Int false (D.rows (getD (y33_2 c i0) 1 D.dead))&&isS UInt8 false (lendRows (enS true (TFrame.Load (y33_0 c f port))))&&(y33_8 c f i0 port)then bif deepRows (enS true (TFrame.Load (y33_12 c f i0 port)))&&true&&true&&true&&true then bif outsideOk (En.dec (y33_2 c i0)) (y33_1 c f port)then bif decide ((length es1+1)*56≤140737488355328)then f_ (S33_0 c port f (wrap i64 (i0+1)) (append es1 [D.int i64 i0::En.enc true (y33_12 c f i0 port)]))else none else f_ (S33_0 c port f (wrap i64 (i0+1)) es1)else none else none else none else none else none else none else K (Ex.exit 0) (X33_2 c port f es1):=by kernel_rfl
theorem Zvk(c:Card)(port:Int)(f:TFrame)(n:Nat)(es1:List (List D)):k33_1 n (Ex.exit 0) (X33_2 c port f es1)=some ([[D.sl true 1 (y33_7 c),D.sl true 2 (enS true (y33_5 c)),D.sl true 4 (y33_3 c f port)],[D.sl true 5 es1]],[]):=by kernel_rfl
def S33_1(c:Card)(port:Int)(f:TFrame)(i0:Int)(es1:List (List D)):St:=St.mk (U_::I_ port::U_::V_ [C.ptr 0 0 0 [] 3 0 0]::U_::U_::V_ [C.ptr 2 0 0 [] 3 0 0]::U_::V_ [C.ptr 6 0 0 [] 3 0 0]::V_ [C.ptr 8 0 0 [] 4 0 0]::U_::I_ (Prod.fst (y33_6 c f port))::B_ false::V_ [C.view 10 0 0 [] 5 none]::u_ 55 (V_ [C.d (D.sl false 2 (enS false (Card.Members c)))]::I_ (ofNat (length (enS false (Card.Members c))))::I_ i0::u_ 39 [])) [Root.mk true 3 [En.enc false c] 0 0 true true false [] 0 [],Root.mk true 4 [En.enc false f] 0 0 true true false [] 0 [],Root.mk true 3 [[D.sl true 1 [],D.sl true 2 [],D.sl true 4 []]] 0 0 true true false [] 0 [],Root.mk false 1 (y33_7 c) 0 0 false true false [] 0 [],Root.mk false 2 (enS true (y33_5 c)) 0 0 false true false [] 0 [],Root.mk false 4 (enS true (deS Heard (enS false (Card.Table c)))) 0 0 false true false [] 0 [],Root.mk true 3 [[D.sl true 1 (y33_7 c),D.sl true 2 (enS true (y33_5 c)),D.sl true 4 (y33_3 c f port)]] 0 0 true true false [] 0 [],Root.mk false 1 (enS true (TFrame.Load (y33_0 c f port))) 0 0 false true false [] 0 [],Root.mk true 4 [En.enc true (y33_0 c f port)] 0 0 true true false [] 0 [],Root.mk false 4 (y33_3 c f port) 0 0 false true false [] 0 [],Root.mk false 5 es1 0 0 true true false [] 0 []]
def B33_1:BT:=λn↦rC 33 T49 n f33 [1,1,1,1,1,1,1,1,1,0,1,0,0] 4132070672510939577162 [(0,8512)] 192
theorem Z07(c:Card)(port:Int)(f:TFrame)(n:Nat)(i0:Int)(es1:List (List D))(f_:St→RR)(K:Ex→St→RR):B33_1 n (S33_1 c port f i0 es1) (kThen (λst↦f_ (St.head 10 4132070672510939577162 649037107314492270324877218799616 st)) K)=bif decide (i0<ofNat (length (enS false (Card.Members c))))then bif decide (0≤i0)&&decide (i0<ofNat (length (enS false (Card.Members c))))then bif Leaf.fit false (Leaf.int i64) (getD (y33_2 c i0) 0 D.dead)&&(Leaf.fit false (Leaf.sl 1 true) (getD (y33_2 c i0) 1 D.dead)&&true)then bif i0==port then f_ (S33_1 c port f (wrap i64 (i0+1)) es1)else bif decide (0≤i0)&&decide (i0<ofNat (length (enS false (Card.Open c))))then bif Leaf.fit false Leaf.bool (y33_10 c i0)&&true then bif !D.flag (y33_10 c i0)then f_ (S33_1 c port f (wrap i64 (i0+1)) es1)else bif isS Int false (D.rows (getD (y33_2 c i0) 1 D.dead))&&isS UInt8 false (lendRows (enS true (TFrame.Load (y33_0 c f port))))&&(y33_8 c f i0 port)then bif deepRows (enS true (TFrame.Load (y33_12 c f i0 port)))&&true&&true&&true&&true then bif outsideOk (En.dec (y33_2 c i0)) (y33_1 c f port)then bif decide ((length es1+1)*56≤140737488355328)then f_ (S33_1 c port f (wrap i64 (i0+1)) (append es1 [D.int i64 i0::En.enc true (y33_12 c f i0 port)]))else none else f_ (S33_1 c port f (wrap i64 (i0+1)) es1)else none else none else none else none else none else none else K (Ex.exit 0) (X33_2 c port f es1):=by kernel_rfl
def e33(c:Card)(port:Int)(f:TFrame)(n:Nat):=evFn ⟨prog,Hx,33⟩ T49.call n f33 [zp14.row c,zp0.row port,zp20.row f]
def y33_4(c:Card):List Row×List Row:=([[D.sl true 1 (y33_7 c),D.sl true 2 (enS true (y33_5 c)),D.sl true 4 (enS true (deS Heard (enS false (Card.Table c))))],[D.sl true 5 []]],[])
def y33_9(c:Card):=Card.mk (deS Bool (enS false (Card.Open c))) (y33_5 c) (deS Heard (enS false (Card.Table c)))
theorem r33(c:Card)(port:Int)(f:TFrame)(n:Nat):e33 c port f n=bif isS Bool false (enS false (Card.Open c))&&isS Member false (enS false (Card.Members c))&&isS Heard false (enS false (Card.Table c))&&Card.small (y33_9 c)then bif isS Bool false (enS false (Card.Open c))&&isS Member false (enS false (Card.Members c))&&isS Heard false (enS false (Card.Table c))&&decide (length (deS Bool (enS false (Card.Open c)))≤1048576)then bif !(inR port (0) (ofNat (length (deS Bool (enS false (Card.Open c))))-1)&&getD (deS Bool (enS false (Card.Open c))) (toNat port) false)then some (y33_4 c)else bif isS Bool false (enS false (Card.Open c))&&isS Member false (enS false (Card.Members c))&&isS Heard false (enS false (Card.Table c))&&Card.small (y33_9 c)then bif !cardOk (y33_9 c)then some (y33_4 c)else bif decide (0≤port)&&decide (port<ofNat (length (enS false (Card.Members c))))then bif Leaf.fit false (Leaf.int i64) (getD (y33_11 c port) 0 D.dead)&&(Leaf.fit false (Leaf.sl 1 true) (getD (y33_11 c port) 1 D.dead)&&true)then bif isS Int false (D.rows (getD (y33_11 c port) 1 D.dead))&&isS UInt8 false (enS false (TFrame.Load f))&&(Member.small (En.dec (y33_11 c port))&&decide (length (deS UInt8 (enS false (TFrame.Load f)))≤1048576))then bif !insideOk (En.dec (y33_11 c port)) (TFrame.mk (TFrame.To f) (TFrame.From f) (TFrame.Vlan f) (deS UInt8 (enS false (TFrame.Load f))))then some (y33_4 c)else bif isS Heard false (enS false (Card.Table c))&&decide (length (deS Heard (enS false (Card.Table c)))≤1048576)then bif Prod.snd (y33_6 c f port)then bif isS Heard false (enS false (Card.Table c))&&decide (length (deS Heard (enS false (Card.Table c)))≤1048576)then loopRun (B33_0 n) 10 4132070672510939577162 649037107314492270324877218799616 n (S33_0 c port f (0) []) (k33_1 n)else none else bif isS Heard false (enS false (Card.Table c))&&decide (length (deS Heard (enS false (Card.Table c)))≤1048576)then loopRun (B33_1 n) 10 4132070672510939577162 649037107314492270324877218799616 n (S33_1 c port f (0) []) (k33_1 n)else none else none else none else none else none else none else none else none:=by kernel_rfl
theorem m33(c:Card)(port:Int)(f:TFrame):(o33 c port f).1=true→e33 c port f (c.Members.length+1)=some (o33 c port f).2:=by
 refine pm λhpre=>(r33 c port f _).trans ?_;delta y33_0 y33_4 y33_5 y33_6 y33_7 y33_9 y33_11;rw[Bool.and_eq_true]at hpre;obtain⟨hsm,hfl⟩:=hpre;obtain⟨hs1,hs2,hs3,hs4⟩:=Zcm hsm;have hd1:decide (c.Open.length≤1048576)=true:=decide_eq_true hs1;have hd4:decide (c.Table.length≤1048576)=true:=decide_eq_true hs4;show _=resP (passC c port f) (passC c port f).Table (passO c port f);simp only[gos,Zbo,hsm,hd1];cases h1:inR port 0 (Int.ofNat c.Open.length-1)&&c.Open.getD port.toNat false
 ·rw[Zfr (by unfold passOk;cases cardOk c<;>cases h2:inR port 0 ((c.Open.length:Int)-1)<;>(try rfl);have h2:inR port 0 (Int.ofNat c.Open.length-1)=true:=h2;rw[h2,Bool.true_and]at h1;rw[h1];rfl)]
  rfl
 rw[Bool.and_eq_true]at h1;obtain⟨h1,hop⟩:=h1;cases hok:cardOk c
 ·rw[Zfr (by unfold passOk;rw[hok];rfl)]
  rfl
 have hml:c.Members.length=c.Open.length:=by
  unfold cardOk at hok;simp only[Bool.and_eq_true,decide_eq_true_eq]at hok;exact hok.2.2.1
 obtain⟨k,rfl,hk⟩:=Zij h1;have hkm:k<c.Members.length:=by omega
 have hmk:memAt c (Int.ofNat k)=c.Members[k]:=by
  unfold memAt;rw[Zac,List.getD_eq_getElem?_getD,List.getElem?_eq_getElem hkm];rfl
 have hms:=hs3 _ (List.getElem_mem hkm);have hmsb:Member.small c.Members[k]=true:=decide_eq_true hms;simp only[Bool.not_true,cond_false];refine Zaj (by rw[Zap,Zaq,decide_eq_true hkm];rfl) (Zaj (by rw[Zac,Zab false hkm];rfl) (Zaj (by rw[Zac,Zab false hkm,En.dec_enc,hmsb,hfl];show(isS Int false (enS false c.Members[k].In)&&(true&&true))=true;rw[Zak];rfl) ?_))
 cases hin:insideOk c.Members[k] f
 ·rw[Zfr (by unfold passOk;rw[hmk,hin];cases cardOk c<;>cases inR (Int.ofNat k) 0 ((c.Open.length:Int)-1)<;>cases c.Open.getD (Int.ofNat k).toNat false<;>rfl)]
  exact Zaj (by rw[Zac,Zab false hkm,En.dec_enc,hin];rfl) rfl
 refine Za5 (by rw[Zac,Zab false hkm,En.dec_enc,hin];rfl) ?_
 generalize hx:insideF c.Members[k] f=x;have hpo:passOk c (Int.ofNat k) f=true:=by
  have h1:inR (Int.ofNat k) 0 ((c.Open.length:Int)-1)=true:=h1;unfold passOk;rw[hok,h1,hmk,hin,hop];rfl
 rw[Znm (x:=x) hpo (by rw[hmk];exact hx)]
 have hxe:insideF (En.dec (List.getD (enS false c.Members) (Int.toNat (Int.ofNat k)) [])) (TFrame.mk f.To f.From f.Vlan (deS UInt8 (enS false f.Load)))=x:=by
  rw[Zac,Zab false hkm,En.dec_enc,Zad];exact hx
 have hxl:decide (x.Load.length≤1048576)=true:=by
  rw[←hx];unfold insideF;rw[hin];exact hfl
 have hxe2:insideF (En.dec (List.getD (enS false c.Members) k [])) f=x:=by
  rw[Zab false hkm,En.dec_enc];exact hx
 simp only[hd4,cond_true,Zac,hxe2];have step:∀(i:Nat) (hi:i<c.Members.length) (f_:St→RR) (St_:List Out1→St) (acc:List Out1) (A:RR),(∀acc':List Out1,acc'.length≤i+1→f_ (St_ acc')=resP c (hearL c.Table x.From x.Vlan (Int.ofNat k)) (acc'++passMs c (Int.ofNat k) x (i+1) (c.Members.drop (i+1))))→acc.length≤i→
   (bif Int.ofNat i==Int.ofNat k then f_ (St_ acc)else bif !c.Open[i]'(by omega)then f_ (St_ acc)else bif knownB c x then bif Int.ofNat i !=(whereL c.Table x.To x.Vlan).1 then f_ (St_ acc)else bif outsideOk c.Members[i] x then f_ (St_ (acc++[⟨Int.ofNat i,outsideF c.Members[i] x⟩]))else f_ (St_ acc)else bif outsideOk c.Members[i] x then f_ (St_ (acc++[⟨Int.ofNat i,outsideF c.Members[i] x⟩]))else f_ (St_ acc))=
    resP c (hearL c.Table x.From x.Vlan (Int.ofNat k)) (acc++passMs c (Int.ofNat k) x i (c.Members[i]::c.Members.drop (i+1))):=by
  intro i hi f_ St_ acc A hf hacc;have hsk:=Zt8 (c:=c) (port:=Int.ofNat k) (x:=x) (i:=i) (by omega)
  have hs:skipB c (Int.ofNat k) x i=true→f_ (St_ acc)=resP c (hearL c.Table x.From x.Vlan (Int.ofNat k)) (acc++passMs c (Int.ofNat k) x i (c.Members[i]::c.Members.drop (i+1))):=λh=>by rw[Zlv h];exact hf acc (by omega)
  have ho:skipB c (Int.ofNat k) x i=false→(bif outsideOk c.Members[i] x then f_ (St_ (acc++[⟨Int.ofNat i,outsideF c.Members[i] x⟩]))else f_ (St_ acc))=resP c (hearL c.Table x.From x.Vlan (Int.ofNat k)) (acc++passMs c (Int.ofNat k) x i (c.Members[i]::c.Members.drop (i+1))):=λh=>by
   rw[Zt3 h];cases outsideOk c.Members[i] x
   ·exact hf acc (by omega)
   ·exact hf _ (by rw[List.length_append,List.length_singleton];omega)
  rw[hsk]at hs ho;cases h1:Int.ofNat i==Int.ofNat k
  case true=>exact hs (by rw[h1];rfl)
  cases h2:c.Open[i]'(by omega)
  case false=>exact hs (by rw[h1,h2];rfl)
  cases h3:knownB c x
  case false=>exact ho (by rw[h1,h2,h3];rfl)
  simp only[Bool.not_true,cond_true,cond_false];cases h4:Int.ofNat i==(whereL c.Table x.To x.Vlan).1
  case false=>exact Zaj (by show(!(Int.ofNat i==(whereL c.Table x.To x.Vlan).1))=true;rw[h4];rfl) (hs (by rw[h1,h2,h3,h4];rfl))
  case true=>exact Za5 (by show(!(Int.ofNat i==(whereL c.Table x.To x.Vlan).1))=false;rw[h4];rfl) (ho (by rw[h1,h2,h3,h4];rfl))
 cases hw:(whereL c.Table x.To x.Vlan).2
 ·refine Za5 rfl ?_;have hkn:knownB c x=false:=by unfold knownB;rw[hw];rfl
  refine(Zai (xs:=c.Members) (λi (acc:List Out1)=>S33_1 c (Int.ofNat k) f (Int.ofNat i) (enS true acc)) (λi acc=>acc.length≤i) (λi acc rest=>resP c (hearL c.Table x.From x.Vlan (Int.ofNat k)) (acc++passMs c (Int.ofNat k) x i rest)) ?_ ?_ (c.Members.length+1) [] (by omega) (Nat.le_refl _))
  ·rintro acc hacc f_;refine(Z07 c (Int.ofNat k) f _ _ _ f_ _).trans ?_;delta y33_0 y33_1 y33_2 y33_8 y33_10 y33_11 y33_12;rw[Zaw,cond_false];refine(Zvk _ _ _ _ _).trans ?_;delta y33_0 y33_3 y33_5 y33_7 y33_11;rw[hxe,Zad,Zad,Zad];show resP c _ acc=resP c _ (acc++passMs c (Int.ofNat k) x c.Members.length []);rw[show passMs c (Int.ofNat k) x c.Members.length []=[]from rfl,List.append_nil]
  ·rintro i acc hi hacc f_ hf;have hio:i<c.Open.length:=by omega
   have hmi:=hs3 _ (List.getElem_mem hi);have hmb:Member.small c.Members[i]=true:=decide_eq_true hmi;have hal:decide (((enS true acc).length+1)*56≤140737488355328)=true:=decide_eq_true (by rw[Zaa];have:acc.length≤i:=hacc;omega)
   refine(Z07 c (Int.ofNat k) f _ _ _ f_ _).trans ?_;delta y33_0 y33_1 y33_2 y33_8 y33_10 y33_11 y33_12;refine Zaj (Zaz false hi) (Zaj (by rw[Zaz false hi,Zaq];rfl) (Zaj (by rw[Zac,Zab false hi];rfl) ?_))
   rw[Zae (show i<4611686018427387904 by omega)]
   simp only[hxe];have e0:(TFrame.mk x.To x.From x.Vlan (deS UInt8 (lendRows (enS true x.Load))))=x:=by rw[Zaf,Zad]
   have e1:(isS Int false (D.rows (List.getD (List.getD (enS false c.Members) (Int.toNat (Int.ofNat i)) []) 1 D.dead))&&isS UInt8 false (lendRows (enS true x.Load))&&(Member.small c.Members[i]&&decide ((deS UInt8 (lendRows (enS true x.Load))).length≤1048576)))=true:=by
    rw[Zac,Zab false hi,hmb,Zaf,Zak,Zad,hxl];show(isS Int false (enS false c.Members[i].In)&&true&&(true&&true))=true;rw[Zak];rfl
   have e2:En.dec (List.getD (enS false c.Members) (Int.toNat (Int.ofNat i)) [])=c.Members[i]:=by rw[Zac,Zab false hi,En.dec_enc]
   have e3:D.flag (List.getD (List.getD (enS false c.Open) (Int.toNat (Int.ofNat i)) []) 0 D.dead)=c.Open[i]:=by rw[Zac,Zab false hio];rfl
   have e4:(decide (0≤Int.ofNat i)&&decide (Int.ofNat i<Int.ofNat (enS false c.Open).length))=true:=by rw[Zaz false hio,Zaq];rfl
   have e5:(Leaf.fit false Leaf.bool (List.getD (List.getD (enS false c.Open) (Int.toNat (Int.ofNat i)) []) 0 D.dead)&&true)=true:=by rw[Zac,Zab false hio];rfl
   have e6:List.append (enS true acc) [D.int .i64 (Int.ofNat i)::En.enc true (outsideF c.Members[i] x)]=enS true (acc++[⟨Int.ofNat i,outsideF c.Members[i] x⟩]):=Zba true acc ⟨Int.ofNat i,outsideF c.Members[i] x⟩;have e7:(deepRows (enS true (outsideF c.Members[i] x).Load)&&true&&true&&true&&true)=true:=by rw[Zal];rfl
   simp only[e0,e1,e2,e3,e4,e5,e6,e7,hal,Zad,cond_true];have hfin:=step i hi f_ (λacc=>S33_1 c (Int.ofNat k) f (Int.ofNat (i+1)) (enS true acc)) acc none (λacc' h=>hf acc' h) hacc;rw[hkn]at hfin;exact hfin
 ·refine Zaj rfl ?_;have hkn:knownB c x=(x.To !=0):=by unfold knownB;rw[hw];rfl
  refine(Zai (xs:=c.Members) (λi (acc:List Out1)=>S33_0 c (Int.ofNat k) f (Int.ofNat i) (enS true acc)) (λi acc=>acc.length≤i) (λi acc rest=>resP c (hearL c.Table x.From x.Vlan (Int.ofNat k)) (acc++passMs c (Int.ofNat k) x i rest)) ?_ ?_ (c.Members.length+1) [] (by omega) (Nat.le_refl _))
  ·rintro acc hacc f_;refine(Z06 c (Int.ofNat k) f _ _ _ f_ _).trans ?_;delta y33_0 y33_1 y33_2 y33_6 y33_8 y33_10 y33_11 y33_12;rw[Zaw,cond_false];refine(Zvk _ _ _ _ _).trans ?_;delta y33_0 y33_3 y33_5 y33_7 y33_11;rw[hxe,Zad,Zad,Zad];show resP c _ acc=resP c _ (acc++passMs c (Int.ofNat k) x c.Members.length []);rw[show passMs c (Int.ofNat k) x c.Members.length []=[]from rfl,List.append_nil]
  ·rintro i acc hi hacc f_ hf;have hio:i<c.Open.length:=by omega
   have hmi:=hs3 _ (List.getElem_mem hi);have hmb:Member.small c.Members[i]=true:=decide_eq_true hmi;have hal:decide (((enS true acc).length+1)*56≤140737488355328)=true:=decide_eq_true (by rw[Zaa];have:acc.length≤i:=hacc;omega)
   refine(Z06 c (Int.ofNat k) f _ _ _ f_ _).trans ?_;delta y33_0 y33_1 y33_2 y33_6 y33_8 y33_10 y33_11 y33_12;refine Zaj (Zaz false hi) (Zaj (by rw[Zaz false hi,Zaq];rfl) (Zaj (by rw[Zac,Zab false hi];rfl) ?_))
   rw[Zae (show i<4611686018427387904 by omega)]
   simp only[hxe];have e0:(TFrame.mk x.To x.From x.Vlan (deS UInt8 (lendRows (enS true x.Load))))=x:=by rw[Zaf,Zad]
   have e1:(isS Int false (D.rows (List.getD (List.getD (enS false c.Members) (Int.toNat (Int.ofNat i)) []) 1 D.dead))&&isS UInt8 false (lendRows (enS true x.Load))&&(Member.small c.Members[i]&&decide ((deS UInt8 (lendRows (enS true x.Load))).length≤1048576)))=true:=by
    rw[Zac,Zab false hi,hmb,Zaf,Zak,Zad,hxl];show(isS Int false (enS false c.Members[i].In)&&true&&(true&&true))=true;rw[Zak];rfl
   have e2:En.dec (List.getD (enS false c.Members) (Int.toNat (Int.ofNat i)) [])=c.Members[i]:=by rw[Zac,Zab false hi,En.dec_enc]
   have e3:D.flag (List.getD (List.getD (enS false c.Open) (Int.toNat (Int.ofNat i)) []) 0 D.dead)=c.Open[i]:=by rw[Zac,Zab false hio];rfl
   have e4:(decide (0≤Int.ofNat i)&&decide (Int.ofNat i<Int.ofNat (enS false c.Open).length))=true:=by rw[Zaz false hio,Zaq];rfl
   have e5:(Leaf.fit false Leaf.bool (List.getD (List.getD (enS false c.Open) (Int.toNat (Int.ofNat i)) []) 0 D.dead)&&true)=true:=by rw[Zac,Zab false hio];rfl
   have e6:List.append (enS true acc) [D.int .i64 (Int.ofNat i)::En.enc true (outsideF c.Members[i] x)]=enS true (acc++[⟨Int.ofNat i,outsideF c.Members[i] x⟩]):=Zba true acc ⟨Int.ofNat i,outsideF c.Members[i] x⟩;have e7:(deepRows (enS true (outsideF c.Members[i] x).Load)&&true&&true&&true&&true)=true:=by rw[Zal];rfl
   simp only[e0,e1,e2,e3,e4,e5,e6,e7,hal,Zad,cond_true];have hfin:=step i hi f_ (λacc=>S33_0 c (Int.ofNat k) f (Int.ofNat (i+1)) (enS true acc)) acc none (λacc' h=>hf acc' h) hacc;rw[hkn]at hfin;exact hfin
def T33:Table:=(33,c33)::T49
theorem Zqx:Table.Sound prog Hx T33:=sa Zrd func33 (by kernel_rfl) (Zah λc=>Zah λport=>Zah λf=>Zan λh=>⟨_,m33 c port f h⟩)
def o25(c:Card)(port:Int)(f:TFrame):Bool×List Row×List Row:=(Card.small c&&decide (f.Load.length≤1048576),[[.sl true 1 (enS true (passC c port f).Open),.sl true 2 (enS true (passC c port f).Members),.sl true 4 (enS true (passC c port f).Table)],[.sl true 5 (enS true (passO c port f))]],[])
def c25:Contract:=(cp zp14 λc=>cp zp0 λport=>cp zp20 λf=>c0 (o25 c port f)) true
def k25_0:KT:=λn↦kThen (λst↦rC 25 T33 n f25 [1,1,1,1,1,1,1,1,1,1] 192 [] 192 st (lV f25 [] [])) (lV f25 [] [])
def k25_1:KT:=λn↦kBlock (0) (k25_0 n)
def y25_11(c:Card)(port:Int):=getD (enS false (Card.Members c)) (toNat port) []
def y25_0(c:Card)(f:TFrame)(port:Int):=insideF (En.dec (y25_11 c port)) (TFrame.mk (TFrame.To f) (TFrame.From f) (TFrame.Vlan f) (deS UInt8 (enS false (TFrame.Load f))))
def y25_3(c:Card)(f:TFrame)(port:Int):=enS true (hearL (deS Heard (enS false (Card.Table c))) (TFrame.From (y25_0 c f port)) (TFrame.Vlan (y25_0 c f port)) port)
def y25_5(c:Card):=deS Member (enS false (Card.Members c))
def y25_7(c:Card):=enS true (deS Bool (enS false (Card.Open c)))
def y25_6(c:Card)(f:TFrame)(port:Int):=whereL (deS Heard (enS false (Card.Table c))) (TFrame.To (y25_0 c f port)) (TFrame.Vlan (y25_0 c f port))
def S25_0(c:Card)(port:Int)(f:TFrame)(i0:Int)(es1:List (List D)):St:=St.mk (U_::I_ port::U_::V_ [C.ptr 0 0 0 [] 3 0 0]::U_::U_::V_ [C.ptr 2 0 0 [] 3 0 0]::U_::V_ [C.ptr 6 0 0 [] 3 0 0]::V_ [C.view 11 0 0 [] 5 none]::V_ [C.ptr 9 0 0 [] 4 0 0]::U_::I_ (Prod.fst (y25_6 c f port))::B_ (TFrame.To (y25_0 c f port) !=0)::I_ i0::u_ 111 []) [Root.mk true 3 [En.enc false c] 0 0 true true false [] 0 [],Root.mk true 4 [En.enc false f] 0 0 true true false [] 0 [],Root.mk true 3 [[D.sl true 1 [],D.sl true 2 [],D.sl true 4 []]] 0 0 true true false [] 0 [],Root.mk false 1 (y25_7 c) 0 0 false true false [] 0 [],Root.mk false 2 (enS true (y25_5 c)) 0 0 false true false [] 0 [],Root.mk false 4 (enS true (deS Heard (enS false (Card.Table c)))) 0 0 false true false [] 0 [],Root.mk true 3 [[D.sl true 1 (y25_7 c),D.sl true 2 (enS true (y25_5 c)),D.sl true 4 (y25_3 c f port)]] 0 0 true true false [] 0 [],Root.mk false 5 [] 0 0 false true false [] 0 [],Root.mk false 1 (enS true (TFrame.Load (y25_0 c f port))) 0 0 false true false [] 0 [],Root.mk true 4 [En.enc true (y25_0 c f port)] 0 0 true true false [] 0 [],Root.mk false 4 (y25_3 c f port) 0 0 false true false [] 0 [],Root.mk false 5 es1 0 0 true true false [] 0 []]
def B25_0:BT:=λn↦rC 25 T33 n f25 [1,1,1,1,1,1,1,1,1,0,1,0,0] 30538 [(0,832)] 192
def X25_2(c:Card)(port:Int)(f:TFrame)(es1:List (List D)):St:=St.mk (u_ 6 (V_ [C.ptr 2 0 0 [] 3 0 0]::U_::V_ [C.ptr 6 0 0 [] 3 0 0]::V_ [C.view 11 0 0 [] 5 none]::u_ 116 [])) [Root.mk true 3 [En.enc false c] 0 0 true true false [] 0 [],Root.mk true 4 [En.enc false f] 0 0 true true false [] 0 [],Root.mk true 3 [[D.sl true 1 [],D.sl true 2 [],D.sl true 4 []]] 0 0 true true false [] 0 [],Root.mk false 1 (y25_7 c) 0 0 false true false [] 0 [],Root.mk false 2 (enS true (y25_5 c)) 0 0 false true false [] 0 [],Root.mk false 4 (enS true (deS Heard (enS false (Card.Table c)))) 0 0 false true false [] 0 [],Root.mk true 3 [[D.sl true 1 (y25_7 c),D.sl true 2 (enS true (y25_5 c)),D.sl true 4 (y25_3 c f port)]] 0 0 true true false [] 0 [],Root.mk false 5 [] 0 0 false true false [] 0 [],Root.mk false 1 (enS true (TFrame.Load (y25_0 c f port))) 0 0 false true false [] 0 [],Root.mk true 4 [En.enc true (y25_0 c f port)] 0 0 true true false [] 0 [],Root.mk false 4 (y25_3 c f port) 0 0 false true false [] 0 [],Root.mk false 5 es1 0 0 true true false [] 0 []]
def y25_1(c:Card)(f:TFrame)(port:Int):=TFrame.mk (TFrame.To (y25_0 c f port)) (TFrame.From (y25_0 c f port)) (TFrame.Vlan (y25_0 c f port)) (deS UInt8 (lendRows (enS true (TFrame.Load (y25_0 c f port)))))
def y25_2(c:Card)(i0:Int):=getD (enS false (Card.Members c)) (toNat i0) []
def y25_8(c:Card)(f:TFrame)(i0:Int)(port:Int):=Member.small (En.dec (y25_2 c i0))&&decide (length (deS UInt8 (lendRows (enS true (TFrame.Load (y25_0 c f port)))))≤1048576)
def y25_10(c:Card)(i0:Int):=getD (getD (enS false (Card.Open c)) (toNat i0) []) 0 D.dead
def y25_12(c:Card)(f:TFrame)(i0:Int)(port:Int):=outsideF (En.dec (y25_2 c i0)) (y25_1 c f port)
theorem Z0z(c:Card)(port:Int)(f:TFrame)(n:Nat)(i0:Int)(es1:List (List D))(f_:St→RR)(K:Ex→St→RR):B25_0 n (S25_0 c port f i0 es1) (kThen (λst↦f_ (St.head 11 30538 21267647932556236114821683706136216064 st)) K)=bif decide (i0<ofNat (length (enS false (Card.Open c))))then bif i0==port then f_ (S25_0 c port f (wrap i64 (i0+1)) es1)else bif decide (0≤i0)&&decide (i0<ofNat (length (enS false (Card.Open c))))then bif Leaf.fit false Leaf.bool (y25_10 c i0)&&true then bif !D.flag (y25_10 c i0)then f_ (S25_0 c port f (wrap i64 (i0+1)) es1)else bif TFrame.To (y25_0 c f port) !=0 then bif i0 !=Prod.fst (y25_6 c f port)then f_ (S25_0 c port f (wrap i64 (i0+1)) es1)else bif decide (0≤i0)&&decide (i0<ofNat (length (enS false (Card.Members c))))then bif Leaf.fit false (Leaf.int i64) (getD (y25_2 c i0) 0 D.dead)&&(Leaf.fit false (Leaf.sl 1 true) (getD (y25_2 c i0) 1 D.dead)&&true)then bif isS Int false (D.rows (getD (y25_2 c i0) 1 D.dead))&&isS UInt8 false (lendRows (enS true (TFrame.Load (y25_0 c f port))))&&(y25_8 c f i0 port)then bif deepRows (enS true (TFrame.Load (y25_12 c f i0 port)))&&true&&true&&true&&true then bif outsideOk (En.dec (y25_2 c i0)) (y25_1 c f port)then bif decide ((length es1+1)*56≤140737488355328)then f_ (S25_0 c port f (wrap i64 (i0+1)) (append es1 [D.int i64 i0::En.enc true (y25_12 c f i0 port)]))else none else f_ (S25_0 c port f (wrap i64 (i0+1)) es1)else none else none else none else none else bif decide (0≤i0)&&decide (i0<ofNat (length (enS false (Card.Members c))))then bif Leaf.fit false (Leaf.int i64) (getD (y25_2 c i0) 0 D.dead)&&(Leaf.fit false (Leaf.sl 1 true) (getD (y25_2 c i0) 1 D.dead)&&true)then bif isS Int false (D.rows (getD (y25_2 c i0) 1 D.dead))&&isS UInt8 false (lendRows (enS true (TFrame.Load (y25_0 c f port))))&&(y25_8 c f i0 port)then bif deepRows (enS true (TFrame.Load (y25_12 c f i0 port)))&&true&&true&&true&&true then bif outsideOk (En.dec (y25_2 c i0)) (y25_1 c f port)then bif decide ((length es1+1)*56≤140737488355328)then f_ (S25_0 c port f (wrap i64 (i0+1)) (append es1 [D.int i64 i0::En.enc true (y25_12 c f i0 port)]))else none else f_ (S25_0 c port f (wrap i64 (i0+1)) es1)else none else none else none else none else none else none else K (Ex.exit 0) (X25_2 c port f es1):=by kernel_rfl
theorem Zvi(c:Card)(port:Int)(f:TFrame)(n:Nat)(es1:List (List D)):k25_1 n (Ex.exit 0) (X25_2 c port f es1)=some ([[D.sl true 1 (y25_7 c),D.sl true 2 (enS true (y25_5 c)),D.sl true 4 (y25_3 c f port)],[D.sl true 5 es1]],[]):=by kernel_rfl
def S25_1(c:Card)(port:Int)(f:TFrame)(i0:Int)(es1:List (List D)):St:=St.mk (U_::I_ port::U_::V_ [C.ptr 0 0 0 [] 3 0 0]::U_::U_::V_ [C.ptr 2 0 0 [] 3 0 0]::U_::V_ [C.ptr 6 0 0 [] 3 0 0]::V_ [C.view 11 0 0 [] 5 none]::V_ [C.ptr 9 0 0 [] 4 0 0]::U_::I_ (Prod.fst (y25_6 c f port))::B_ false::I_ i0::u_ 111 []) [Root.mk true 3 [En.enc false c] 0 0 true true false [] 0 [],Root.mk true 4 [En.enc false f] 0 0 true true false [] 0 [],Root.mk true 3 [[D.sl true 1 [],D.sl true 2 [],D.sl true 4 []]] 0 0 true true false [] 0 [],Root.mk false 1 (y25_7 c) 0 0 false true false [] 0 [],Root.mk false 2 (enS true (y25_5 c)) 0 0 false true false [] 0 [],Root.mk false 4 (enS true (deS Heard (enS false (Card.Table c)))) 0 0 false true false [] 0 [],Root.mk true 3 [[D.sl true 1 (y25_7 c),D.sl true 2 (enS true (y25_5 c)),D.sl true 4 (y25_3 c f port)]] 0 0 true true false [] 0 [],Root.mk false 5 [] 0 0 false true false [] 0 [],Root.mk false 1 (enS true (TFrame.Load (y25_0 c f port))) 0 0 false true false [] 0 [],Root.mk true 4 [En.enc true (y25_0 c f port)] 0 0 true true false [] 0 [],Root.mk false 4 (y25_3 c f port) 0 0 false true false [] 0 [],Root.mk false 5 es1 0 0 true true false [] 0 []]
def B25_1:BT:=λn↦rC 25 T33 n f25 [1,1,1,1,1,1,1,1,1,0,1,0,0] 30538 [(0,832)] 192
theorem Z00(c:Card)(port:Int)(f:TFrame)(n:Nat)(i0:Int)(es1:List (List D))(f_:St→RR)(K:Ex→St→RR):B25_1 n (S25_1 c port f i0 es1) (kThen (λst↦f_ (St.head 11 30538 21267647932556236114821683706136216064 st)) K)=bif decide (i0<ofNat (length (enS false (Card.Open c))))then bif i0==port then f_ (S25_1 c port f (wrap i64 (i0+1)) es1)else bif decide (0≤i0)&&decide (i0<ofNat (length (enS false (Card.Open c))))then bif Leaf.fit false Leaf.bool (y25_10 c i0)&&true then bif !D.flag (y25_10 c i0)then f_ (S25_1 c port f (wrap i64 (i0+1)) es1)else bif decide (0≤i0)&&decide (i0<ofNat (length (enS false (Card.Members c))))then bif Leaf.fit false (Leaf.int i64) (getD (y25_2 c i0) 0 D.dead)&&(Leaf.fit false (Leaf.sl 1 true) (getD (y25_2 c i0) 1 D.dead)&&true)then bif isS Int false (D.rows (getD (y25_2 c i0) 1 D.dead))&&isS UInt8 false (lendRows (enS true (TFrame.Load (y25_0 c f port))))&&(y25_8 c f i0 port)then bif deepRows (enS true (TFrame.Load (y25_12 c f i0 port)))&&true&&true&&true&&true then bif outsideOk (En.dec (y25_2 c i0)) (y25_1 c f port)then bif decide ((length es1+1)*56≤140737488355328)then f_ (S25_1 c port f (wrap i64 (i0+1)) (append es1 [D.int i64 i0::En.enc true (y25_12 c f i0 port)]))else none else f_ (S25_1 c port f (wrap i64 (i0+1)) es1)else none else none else none else none else none else none else K (Ex.exit 0) (X25_2 c port f es1):=by kernel_rfl
def e25(c:Card)(port:Int)(f:TFrame)(n:Nat):=evFn ⟨prog,Hx,25⟩ T33.call n f25 [zp14.row c,zp0.row port,zp20.row f]
def y25_4(c:Card):List Row×List Row:=([[D.sl true 1 (y25_7 c),D.sl true 2 (enS true (y25_5 c)),D.sl true 4 (enS true (deS Heard (enS false (Card.Table c))))],[D.sl true 5 []]],[])
def y25_9(c:Card):=Card.mk (deS Bool (enS false (Card.Open c))) (y25_5 c) (deS Heard (enS false (Card.Table c)))
theorem r25(c:Card)(port:Int)(f:TFrame)(n:Nat):e25 c port f n=bif isS Bool false (enS false (Card.Open c))&&isS Member false (enS false (Card.Members c))&&isS Heard false (enS false (Card.Table c))&&Card.small (y25_9 c)then bif isS Bool false (enS false (Card.Open c))&&isS Member false (enS false (Card.Members c))&&isS Heard false (enS false (Card.Table c))&&Card.small (y25_9 c)then bif !cardOk (y25_9 c)then some (y25_4 c)else bif !inR port (0) (wrap i64 (ofNat (length (enS false (Card.Open c)))-1))then some (y25_4 c)else bif decide (0≤port)&&decide (port<ofNat (length (enS false (Card.Open c))))then bif Leaf.fit false Leaf.bool (getD (getD (enS false (Card.Open c)) (toNat port) []) 0 D.dead)&&true then bif !D.flag (getD (getD (enS false (Card.Open c)) (toNat port) []) 0 D.dead)then some (y25_4 c)else bif decide (0≤port)&&decide (port<ofNat (length (enS false (Card.Members c))))then bif Leaf.fit false (Leaf.int i64) (getD (y25_11 c port) 0 D.dead)&&(Leaf.fit false (Leaf.sl 1 true) (getD (y25_11 c port) 1 D.dead)&&true)then bif isS Int false (D.rows (getD (y25_11 c port) 1 D.dead))&&isS UInt8 false (enS false (TFrame.Load f))&&(Member.small (En.dec (y25_11 c port))&&decide (length (deS UInt8 (enS false (TFrame.Load f)))≤1048576))then bif !insideOk (En.dec (y25_11 c port)) (TFrame.mk (TFrame.To f) (TFrame.From f) (TFrame.Vlan f) (deS UInt8 (enS false (TFrame.Load f))))then some (y25_4 c)else bif isS Heard false (enS false (Card.Table c))&&decide (length (deS Heard (enS false (Card.Table c)))≤1048576)then bif Prod.snd (y25_6 c f port)then bif isS Heard false (enS false (Card.Table c))&&decide (length (deS Heard (enS false (Card.Table c)))≤1048576)then loopRun (B25_0 n) 11 30538 21267647932556236114821683706136216064 n (S25_0 c port f (0) []) (k25_1 n)else none else bif isS Heard false (enS false (Card.Table c))&&decide (length (deS Heard (enS false (Card.Table c)))≤1048576)then loopRun (B25_1 n) 11 30538 21267647932556236114821683706136216064 n (S25_1 c port f (0) []) (k25_1 n)else none else none else none else none else none else none else none else none else none:=by kernel_rfl
theorem m25(c:Card)(port:Int)(f:TFrame):(o25 c port f).1=true→e25 c port f (c.Members.length+1)=some (o25 c port f).2:=by
 refine pm λhpre=>(r25 c port f _).trans ?_;delta y25_0 y25_4 y25_5 y25_6 y25_7 y25_9 y25_11;rw[Bool.and_eq_true]at hpre;obtain⟨hsm,hfl⟩:=hpre;obtain⟨hs1,hs2,hs3,hs4⟩:=Zcm hsm;have hd1:decide (c.Open.length≤1048576)=true:=decide_eq_true hs1;have hd4:decide (c.Table.length≤1048576)=true:=decide_eq_true hs4;show _=resP (passC c port f) (passC c port f).Table (passO c port f);simp only[gos,Zbo,hsm];cases hok:cardOk c
 ·rw[Zfr (by unfold passOk;rw[hok];rfl)]
  rfl
 have hml:c.Members.length=c.Open.length:=by
  unfold cardOk at hok;simp only[Bool.and_eq_true,decide_eq_true_eq]at hok;exact hok.2.2.1
 rw[Z2s hs1];cases h1:inR port 0 ((c.Open.length:Int)-1)
 ·rw[Zfr (by unfold passOk;rw[hok,h1];rfl)]
  rfl
 obtain⟨k,rfl,hk⟩:=Zij h1;have hgo:c.Open.getD (Int.ofNat k).toNat false=c.Open[k]:=by rw[Zac,List.getD_eq_getElem?_getD,List.getElem?_eq_getElem hk];rfl
 have hfo:D.flag (List.getD (List.getD (enS false c.Open) (Int.toNat (Int.ofNat k)) []) 0 D.dead)=c.Open[k]:=by rw[Zac,Zab false hk];rfl
 simp only[Bool.not_true,cond_false];refine Zaj (by rw[Zap,Zaq,decide_eq_true hk];rfl) (Zaj (by rw[Zac,Zab false hk];rfl) ?_)
 rw[hfo];cases hop:c.Open[k]
 ·rw[Zfr (by unfold passOk;rw[hok,h1,hgo,hop];rfl)]
  rfl
 rw[←hgo]at hop;simp only[Bool.not_true,cond_false];have hkm:k<c.Members.length:=by omega
 have hmk:memAt c (Int.ofNat k)=c.Members[k]:=by
  unfold memAt;rw[Zac,List.getD_eq_getElem?_getD,List.getElem?_eq_getElem hkm];rfl
 have hms:=hs3 _ (List.getElem_mem hkm);have hmsb:Member.small c.Members[k]=true:=decide_eq_true hms;refine Zaj (by rw[Zap,Zaq,decide_eq_true hkm];rfl) (Zaj (by rw[Zac,Zab false hkm];rfl) (Zaj (by rw[Zac,Zab false hkm,En.dec_enc,hmsb,hfl];show(isS Int false (enS false c.Members[k].In)&&(true&&true))=true;rw[Zak];rfl) ?_))
 cases hin:insideOk c.Members[k] f
 ·rw[Zfr (by unfold passOk;rw[hmk,hin];cases cardOk c<;>cases inR (Int.ofNat k) 0 ((c.Open.length:Int)-1)<;>cases c.Open.getD (Int.ofNat k).toNat false<;>rfl)]
  exact Zaj (by rw[Zac,Zab false hkm,En.dec_enc,hin];rfl) rfl
 refine Za5 (by rw[Zac,Zab false hkm,En.dec_enc,hin];rfl) ?_
 generalize hx:insideF c.Members[k] f=x;have hpo:passOk c (Int.ofNat k) f=true:=by
  have h1:inR (Int.ofNat k) 0 ((c.Open.length:Int)-1)=true:=h1;unfold passOk;rw[hok,h1,hmk,hin,hop];rfl
 rw[Znm (x:=x) hpo (by rw[hmk];exact hx)]
 have hxe:insideF (En.dec (List.getD (enS false c.Members) (Int.toNat (Int.ofNat k)) [])) (TFrame.mk f.To f.From f.Vlan (deS UInt8 (enS false f.Load)))=x:=by
  rw[Zac,Zab false hkm,En.dec_enc,Zad];exact hx
 have hxl:decide (x.Load.length≤1048576)=true:=by
  rw[←hx];unfold insideF;rw[hin];exact hfl
 have hxe2:insideF (En.dec (List.getD (enS false c.Members) k [])) f=x:=by
  rw[Zab false hkm,En.dec_enc];exact hx
 simp only[hd4,cond_true,Zac,hxe2];have step:∀(i:Nat) (hi:i<c.Members.length) (f_:St→RR) (St_:List Out1→St) (acc:List Out1) (A:RR),(∀acc':List Out1,acc'.length≤i+1→f_ (St_ acc')=resP c (hearL c.Table x.From x.Vlan (Int.ofNat k)) (acc'++passMs c (Int.ofNat k) x (i+1) (c.Members.drop (i+1))))→acc.length≤i→
   (bif Int.ofNat i==Int.ofNat k then f_ (St_ acc)else bif !c.Open[i]'(by omega)then f_ (St_ acc)else bif knownB c x then bif Int.ofNat i !=(whereL c.Table x.To x.Vlan).1 then f_ (St_ acc)else bif outsideOk c.Members[i] x then f_ (St_ (acc++[⟨Int.ofNat i,outsideF c.Members[i] x⟩]))else f_ (St_ acc)else bif outsideOk c.Members[i] x then f_ (St_ (acc++[⟨Int.ofNat i,outsideF c.Members[i] x⟩]))else f_ (St_ acc))=
    resP c (hearL c.Table x.From x.Vlan (Int.ofNat k)) (acc++passMs c (Int.ofNat k) x i (c.Members[i]::c.Members.drop (i+1))):=by
  intro i hi f_ St_ acc A hf hacc;have hsk:=Zt8 (c:=c) (port:=Int.ofNat k) (x:=x) (i:=i) (by omega)
  have hs:skipB c (Int.ofNat k) x i=true→f_ (St_ acc)=resP c (hearL c.Table x.From x.Vlan (Int.ofNat k)) (acc++passMs c (Int.ofNat k) x i (c.Members[i]::c.Members.drop (i+1))):=λh=>by rw[Zlv h];exact hf acc (by omega)
  have ho:skipB c (Int.ofNat k) x i=false→(bif outsideOk c.Members[i] x then f_ (St_ (acc++[⟨Int.ofNat i,outsideF c.Members[i] x⟩]))else f_ (St_ acc))=resP c (hearL c.Table x.From x.Vlan (Int.ofNat k)) (acc++passMs c (Int.ofNat k) x i (c.Members[i]::c.Members.drop (i+1))):=λh=>by
   rw[Zt3 h];cases outsideOk c.Members[i] x
   ·exact hf acc (by omega)
   ·exact hf _ (by rw[List.length_append,List.length_singleton];omega)
  rw[hsk]at hs ho;cases h1:Int.ofNat i==Int.ofNat k
  case true=>exact hs (by rw[h1];rfl)
  cases h2:c.Open[i]'(by omega)
  case false=>exact hs (by rw[h1,h2];rfl)
  cases h3:knownB c x
  case false=>exact ho (by rw[h1,h2,h3];rfl)
  simp only[Bool.not_true,cond_true,cond_false];cases h4:Int.ofNat i==(whereL c.Table x.To x.Vlan).1
  case false=>exact Zaj (by show(!(Int.ofNat i==(whereL c.Table x.To x.Vlan).1))=true;rw[h4];rfl) (hs (by rw[h1,h2,h3,h4];rfl))
  case true=>exact Za5 (by show(!(Int.ofNat i==(whereL c.Table x.To x.Vlan).1))=false;rw[h4];rfl) (ho (by rw[h1,h2,h3,h4];rfl))
 cases hw:(whereL c.Table x.To x.Vlan).2
 ·refine Za5 rfl ?_;have hkn:knownB c x=false:=by unfold knownB;rw[hw];rfl
  refine(Zai (xs:=c.Members) (λi (acc:List Out1)=>S25_1 c (Int.ofNat k) f (Int.ofNat i) (enS true acc)) (λi acc=>acc.length≤i) (λi acc rest=>resP c (hearL c.Table x.From x.Vlan (Int.ofNat k)) (acc++passMs c (Int.ofNat k) x i rest)) ?_ ?_ (c.Members.length+1) [] (by omega) (Nat.le_refl _))
  ·rintro acc hacc f_;refine(Z00 c (Int.ofNat k) f _ _ _ f_ _).trans ?_;delta y25_0 y25_1 y25_2 y25_8 y25_10 y25_11 y25_12;rw[Zaa,Zap,decide_eq_false (show ¬c.Members.length<c.Open.length by omega),cond_false]
   refine(Zvi _ _ _ _ _).trans ?_;delta y25_0 y25_3 y25_5 y25_7 y25_11;rw[hxe,Zad,Zad,Zad];show resP c _ acc=resP c _ (acc++passMs c (Int.ofNat k) x c.Members.length []);rw[show passMs c (Int.ofNat k) x c.Members.length []=[]from rfl,List.append_nil]
  ·rintro i acc hi hacc f_ hf;have hio:i<c.Open.length:=by omega
   have hmi:=hs3 _ (List.getElem_mem hi);have hmb:Member.small c.Members[i]=true:=decide_eq_true hmi;have hal:decide (((enS true acc).length+1)*56≤140737488355328)=true:=decide_eq_true (by rw[Zaa];have:acc.length≤i:=hacc;omega)
   refine(Z00 c (Int.ofNat k) f _ _ _ f_ _).trans ?_;delta y25_0 y25_1 y25_2 y25_8 y25_10 y25_11 y25_12;refine Zaj (Zaz false hio) ?_;rw[Zae (show i<4611686018427387904 by omega)]
   simp only[hxe];have e0:(TFrame.mk x.To x.From x.Vlan (deS UInt8 (lendRows (enS true x.Load))))=x:=by rw[Zaf,Zad]
   have e1:(isS Int false (D.rows (List.getD (List.getD (enS false c.Members) (Int.toNat (Int.ofNat i)) []) 1 D.dead))&&isS UInt8 false (lendRows (enS true x.Load))&&(Member.small c.Members[i]&&decide ((deS UInt8 (lendRows (enS true x.Load))).length≤1048576)))=true:=by
    rw[Zac,Zab false hi,hmb,Zaf,Zak,Zad,hxl];show(isS Int false (enS false c.Members[i].In)&&true&&(true&&true))=true;rw[Zak];rfl
   have e2:En.dec (List.getD (enS false c.Members) (Int.toNat (Int.ofNat i)) [])=c.Members[i]:=by rw[Zac,Zab false hi,En.dec_enc]
   have e3:D.flag (List.getD (List.getD (enS false c.Open) (Int.toNat (Int.ofNat i)) []) 0 D.dead)=c.Open[i]:=by rw[Zac,Zab false hio];rfl
   have e4:(decide (0≤Int.ofNat i)&&decide (Int.ofNat i<Int.ofNat (enS false c.Open).length))=true:=by rw[Zaz false hio,Zaq];rfl
   have e5:(Leaf.fit false Leaf.bool (List.getD (List.getD (enS false c.Open) (Int.toNat (Int.ofNat i)) []) 0 D.dead)&&true)=true:=by rw[Zac,Zab false hio];rfl
   have e6:List.append (enS true acc) [D.int .i64 (Int.ofNat i)::En.enc true (outsideF c.Members[i] x)]=enS true (acc++[⟨Int.ofNat i,outsideF c.Members[i] x⟩]):=Zba true acc ⟨Int.ofNat i,outsideF c.Members[i] x⟩;have e7:(deepRows (enS true (outsideF c.Members[i] x).Load)&&true&&true&&true&&true)=true:=by rw[Zal];rfl
   have e8:(decide (0≤Int.ofNat i)&&decide (Int.ofNat i<Int.ofNat (enS false c.Members).length))=true:=by rw[Zaz false hi,Zaq];rfl
   have e9:(Leaf.fit false (Leaf.int .i64) (List.getD (List.getD (enS false c.Members) (Int.toNat (Int.ofNat i)) []) 0 D.dead)&&(Leaf.fit false (Leaf.sl 1 true) (List.getD (List.getD (enS false c.Members) (Int.toNat (Int.ofNat i)) []) 1 D.dead)&&true))=true:=by rw[Zac,Zab false hi];rfl
   simp only[e0,e1,e2,e3,e4,e5,e6,e7,e8,e9,hal,Zad,cond_true];have hfin:=step i hi f_ (λacc=>S25_1 c (Int.ofNat k) f (Int.ofNat (i+1)) (enS true acc)) acc none (λacc' h=>hf acc' h) hacc;rw[hkn]at hfin;exact hfin
 ·refine Zaj rfl ?_;have hkn:knownB c x=(x.To !=0):=by unfold knownB;rw[hw];rfl
  refine(Zai (xs:=c.Members) (λi (acc:List Out1)=>S25_0 c (Int.ofNat k) f (Int.ofNat i) (enS true acc)) (λi acc=>acc.length≤i) (λi acc rest=>resP c (hearL c.Table x.From x.Vlan (Int.ofNat k)) (acc++passMs c (Int.ofNat k) x i rest)) ?_ ?_ (c.Members.length+1) [] (by omega) (Nat.le_refl _))
  ·rintro acc hacc f_;refine(Z0z c (Int.ofNat k) f _ _ _ f_ _).trans ?_;delta y25_0 y25_1 y25_2 y25_6 y25_8 y25_10 y25_11 y25_12;rw[Zaa,Zap,decide_eq_false (show ¬c.Members.length<c.Open.length by omega),cond_false]
   refine(Zvi _ _ _ _ _).trans ?_;delta y25_0 y25_3 y25_5 y25_7 y25_11;rw[hxe,Zad,Zad,Zad];show resP c _ acc=resP c _ (acc++passMs c (Int.ofNat k) x c.Members.length []);rw[show passMs c (Int.ofNat k) x c.Members.length []=[]from rfl,List.append_nil]
  ·rintro i acc hi hacc f_ hf;have hio:i<c.Open.length:=by omega
   have hmi:=hs3 _ (List.getElem_mem hi);have hmb:Member.small c.Members[i]=true:=decide_eq_true hmi;have hal:decide (((enS true acc).length+1)*56≤140737488355328)=true:=decide_eq_true (by rw[Zaa];have:acc.length≤i:=hacc;omega)
   refine(Z0z c (Int.ofNat k) f _ _ _ f_ _).trans ?_;delta y25_0 y25_1 y25_2 y25_6 y25_8 y25_10 y25_11 y25_12;refine Zaj (Zaz false hio) ?_;rw[Zae (show i<4611686018427387904 by omega)]
   simp only[hxe];have e0:(TFrame.mk x.To x.From x.Vlan (deS UInt8 (lendRows (enS true x.Load))))=x:=by rw[Zaf,Zad]
   have e1:(isS Int false (D.rows (List.getD (List.getD (enS false c.Members) (Int.toNat (Int.ofNat i)) []) 1 D.dead))&&isS UInt8 false (lendRows (enS true x.Load))&&(Member.small c.Members[i]&&decide ((deS UInt8 (lendRows (enS true x.Load))).length≤1048576)))=true:=by
    rw[Zac,Zab false hi,hmb,Zaf,Zak,Zad,hxl];show(isS Int false (enS false c.Members[i].In)&&true&&(true&&true))=true;rw[Zak];rfl
   have e2:En.dec (List.getD (enS false c.Members) (Int.toNat (Int.ofNat i)) [])=c.Members[i]:=by rw[Zac,Zab false hi,En.dec_enc]
   have e3:D.flag (List.getD (List.getD (enS false c.Open) (Int.toNat (Int.ofNat i)) []) 0 D.dead)=c.Open[i]:=by rw[Zac,Zab false hio];rfl
   have e4:(decide (0≤Int.ofNat i)&&decide (Int.ofNat i<Int.ofNat (enS false c.Open).length))=true:=by rw[Zaz false hio,Zaq];rfl
   have e5:(Leaf.fit false Leaf.bool (List.getD (List.getD (enS false c.Open) (Int.toNat (Int.ofNat i)) []) 0 D.dead)&&true)=true:=by rw[Zac,Zab false hio];rfl
   have e6:List.append (enS true acc) [D.int .i64 (Int.ofNat i)::En.enc true (outsideF c.Members[i] x)]=enS true (acc++[⟨Int.ofNat i,outsideF c.Members[i] x⟩]):=Zba true acc ⟨Int.ofNat i,outsideF c.Members[i] x⟩;have e7:(deepRows (enS true (outsideF c.Members[i] x).Load)&&true&&true&&true&&true)=true:=by rw[Zal];rfl
   have e8:(decide (0≤Int.ofNat i)&&decide (Int.ofNat i<Int.ofNat (enS false c.Members).length))=true:=by rw[Zaz false hi,Zaq];rfl
   have e9:(Leaf.fit false (Leaf.int .i64) (List.getD (List.getD (enS false c.Members) (Int.toNat (Int.ofNat i)) []) 0 D.dead)&&(Leaf.fit false (Leaf.sl 1 true) (List.getD (List.getD (enS false c.Members) (Int.toNat (Int.ofNat i)) []) 1 D.dead)&&true))=true:=by rw[Zac,Zab false hi];rfl
   simp only[e0,e1,e2,e3,e4,e5,e6,e7,e8,e9,hal,Zad,cond_true];have hfin:=step i hi f_ (λacc=>S25_0 c (Int.ofNat k) f (Int.ofNat (i+1)) (enS true acc)) acc none (λacc' h=>hf acc' h) hacc;rw[hkn]at hfin;exact hfin
def T25:Table:=(25,c25)::T33
theorem Zqp:Table.Sound prog Hx T25:=sa Zqx func25 (by kernel_rfl) (Zah λc=>Zah λport=>Zah λf=>Zan λh=>⟨_,m25 c port f h⟩)
end Go.Ev
end
