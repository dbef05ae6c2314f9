/- Contracts of functions, each by its evaluation. -/
import Derived.Test.YtihhlajibgoemaaGreatEvMd
import Derived.Test.YtihhlajibgoemaaGreatProg
import Derived.KernelRfl
import Derived.WalkKit
import Derived.Lib.Walk
import Derived.Lib.SliceRun
import Derived.Lib.AppendZerosOnto
import Derived.Test.YtihhlajibgoemaaGreatFHca
set_option linter.unusedVariables false
set_option linter.unusedSimpArgs false
set_option maxRecDepth 100000
noncomputable section
open List (getD length drop take set append replicate all isEmpty)
open Int (toNat ofNat)
open Go.IntKind (i64 wrap)
open Go.Proofs.Tryz (prog f105 f109 f113 f114 f115 f138 f139 f143 f54 f68 f92 f96 func105 func109 func113 func114 func115 func138 func139 func143 func54 func68 func92 func96)
namespace Go.Ev
open Go.RowKit Go.Md
end Go.Ev
namespace Go.Md
open Go Go.Ev
instance:En (List Heard) where
 leaves:=[.sl 4 true]
 enc o xs:=[.sl o 4 (enS o xs)]
 dec r:=deS Heard (r.getD 0 .dead).rows
 nil:=[]
 dec_enc o x:=by simp[D.rows,Zad]
 fit o x:=by simp[fits,Leaf.fit]
 lend o x:=by simp[lendRow,D.lend,Zaf]
 deep x:=by simp[deepRow,D.deep,Zal]
def emptyH:List Heard:=[]
def heardOk(x:Heard):Bool:=inR x.Addr 1 9&&(inR x.Vlan 1 4&&(inR x.Port 0 3&&inR x.Left 1 20))
def aheadB(a b:Heard):Bool:=decide (a.Vlan<b.Vlan)||(a.Vlan==b.Vlan&&decide (a.Addr<b.Addr))
def stepsOk:Option Heard→List Heard→Bool
 |_,[]=>true
 |p,x::xs=>heardOk x&&((match p with|none=>true|some y=>aheadB y x)&&stepsOk (some x) xs)
def tableOk(l:List Heard):Bool:=stepsOk none l&&decide (l.length≤12)
def prevAt(l:List Heard):Nat→Option Heard
 |0=>none
 |i+1=>l[i]?
def keepB(a v:Int)(x:Heard):Bool:=!(x.Addr==a)||!(x.Vlan==v)
def hearI(l:List Heard)(a v p:Int):List Heard:=(l.takeWhile (λy=>aheadB y ⟨a,v,p,20⟩)).filter (keepB a v)++(⟨a,v,p,20⟩::(l.dropWhile (λy=>aheadB y ⟨a,v,p,20⟩)).filter (keepB a v))
def hearL(l:List Heard)(a v p:Int):List Heard:=bif tableOk (hearI l a v p)then hearI l a v p else l
def upOk(u:Up):Bool:=inR u.Seq 0 100000&&(inR u.Addr 1 9&&(inR u.Vlan 1 4&&inR u.Port 0 3))
def copyOk(c:Copy):Bool:=inR c.Next 0 100001&&tableOk c.Table
def feedM(c:Copy)(u:Up):Copy×Bool:=bif copyOk c&&(upOk u&&u.Seq==c.Next)then(⟨c.Next+1,hearL c.Table u.Addr u.Vlan u.Port⟩,true)else(c,false)
theorem Z0h(xs:List Heard):enS false xs=enS true xs:=rfl
theorem Zxw(l:List Heard)(p:Heard→Bool):l.take (l.takeWhile p).length=l.takeWhile p∧l.drop (l.takeWhile p).length=l.dropWhile p:=by
 have h:l.takeWhile p++l.dropWhile p=l:=List.takeWhile_append_dropWhile;constructor
 ·conv=>lhs;rhs;rw[←h]
  rw[List.take_left'];rfl
 ·conv=>lhs;rhs;rw[←h]
  rw[List.drop_left'];rfl
def catAt(l:List Heard)(a v p:Int)(k:Nat):List Heard:=(l.take k).filter (keepB a v)++(⟨a,v,p,20⟩::(l.drop k).filter (keepB a v))
def hearAt(l:List Heard)(a v p:Int)(k:Nat):List Heard:=bif tableOk (catAt l a v p k)then catAt l a v p k else l
theorem Zuy(l:List Heard)(a v p:Int):hearL l a v p=hearAt l a v p (l.takeWhile (λy=>aheadB y ⟨a,v,p,20⟩)).length:=by
 obtain⟨h1,h2⟩:=Zxw l (λy=>aheadB y ⟨a,v,p,20⟩);unfold hearL hearAt;have:catAt l a v p (l.takeWhile (λy=>aheadB y ⟨a,v,p,20⟩)).length=hearI l a v p:=by
  unfold catAt hearI;rw[h1,h2]
 rw[this]
def resH(l r:List Heard):Go.Ev.RR:=some ([[D.sl true 4 (enS true (bif tableOk r then r else l))]],[])
def resA(l:List Heard)(a v p:Int)(k:Nat):Go.Ev.RR:=some ([[D.sl true 4 (enS true (hearAt l a v p k))]],[])
def insB(a v p:Int):Bool→List Heard→List Heard
 |d,[]=>bif d then[]else[⟨a,v,p,20⟩]
 |d,y::ys=>(bif !d&&!aheadB y ⟨a,v,p,20⟩then[⟨a,v,p,20⟩]else[])++((bif keepB a v y then[y]else[])++insB a v p (d||!aheadB y ⟨a,v,p,20⟩) ys)
theorem Znb(a v p:Int):∀l:List Heard,insB a v p true l=l.filter (keepB a v)
 |[]=>rfl
 |y::ys=>by
  unfold insB;rw[show(true||!aheadB y ⟨a,v,p,20⟩)=true from rfl,Znb a v p ys,List.filter_cons];cases keepB a v y<;>rfl
theorem Zlh(a v p:Int):∀l:List Heard,insB a v p false l=hearI l a v p
 |[]=>rfl
 |y::ys=>by
  unfold insB;unfold hearI;rw[List.takeWhile_cons,List.dropWhile_cons];cases h:aheadB y ⟨a,v,p,20⟩
  ·rw[show(false||!false)=true from rfl,Znb a v p ys];simp only[Bool.not_false,Bool.and_self,cond_true,Bool.false_eq_true,if_false,List.filter_nil,List.nil_append,List.filter_cons];cases keepB a v y<;>rfl
  ·rw[show(false||!true)=false from rfl,Zlh a v p ys];simp only[Bool.not_true,Bool.not_false,Bool.and_false,cond_false,if_true,List.nil_append,List.filter_cons];unfold hearI;cases keepB a v y<;>simp
theorem Zj1(p:Option Heard)(x:Heard)(xs:List Heard):stepsOk p (x::xs)=(heardOk x&&((match p with|none=>true|some y=>aheadB y x)&&stepsOk (some x) xs)):=by simp only[stepsOk]
end Go.Md
namespace Go.Ev
open Go.Md
def o139(n_:Int):Bool×List Row×List Row:=(true,[[.bool (inR n_ 1 9)]],[])
def c139:Contract:=(cp zp0 λn_=>c0 (o139 n_)) true
def e139(n_:Int)(n:Nat):=evFn ⟨prog,Hx,139⟩ T8.call n f139 [zp0.row n_]
theorem r139(n_:Int)(n:Nat):e139 n_ n=some ([[D.bool (inR n_ (1) (9))]],[]):=by kernel_rfl
theorem m139(n_:Int):(o139 n_).1=true→e139 n_ 0=some (o139 n_).2:=by
 refine pm λhpre=>(r139 n_ _).trans ?_;rfl
def T139:Table:=(139,c139)::T8
theorem Zo4:Table.Sound prog Hx T139:=sa Zuj func139 (by kernel_rfl) (Zah λn_=>Zan λh=>⟨_,m139 n_ h⟩)
def o138(n_:Int):Bool×List Row×List Row:=(true,[[.bool (inR n_ 1 4)]],[])
def c138:Contract:=(cp zp0 λn_=>c0 (o138 n_)) true
def e138(n_:Int)(n:Nat):=evFn ⟨prog,Hx,138⟩ T139.call n f138 [zp0.row n_]
theorem r138(n_:Int)(n:Nat):e138 n_ n=some ([[D.bool (inR n_ (1) (4))]],[]):=by kernel_rfl
theorem m138(n_:Int):(o138 n_).1=true→e138 n_ 0=some (o138 n_).2:=by
 refine pm λhpre=>(r138 n_ _).trans ?_;rfl
def T138:Table:=(138,c138)::T139
theorem Zo3:Table.Sound prog Hx T138:=sa Zo4 func138 (by kernel_rfl) (Zah λn_=>Zan λh=>⟨_,m138 n_ h⟩)
def o113(a:Heard)(b:Heard):Bool×List Row×List Row:=(true,[[.bool (aheadB a b)]],[])
def c113:Contract:=(cp zp12 λa=>cp zp12 λb=>c0 (o113 a b)) true
def e113(a:Heard)(b:Heard)(n:Nat):=evFn ⟨prog,Hx,113⟩ T138.call n f113 [zp12.row a,zp12.row b]
theorem r113(a:Heard)(b:Heard)(n:Nat):e113 a b n=bif decide (Heard.Vlan a<Heard.Vlan b)then some ([[D.bool true]],[])else bif Heard.Vlan a==Heard.Vlan b then some ([[D.bool (decide (Heard.Addr a<Heard.Addr b))]],[])else some ([[D.bool false]],[]):=by kernel_rfl
theorem m113(a:Heard)(b:Heard):(o113 a b).1=true→e113 a b 0=some (o113 a b).2:=by
 refine pm λhpre=>(r113 a b _).trans ?_;unfold aheadB;cases decide (a.Vlan<b.Vlan)<;>cases a.Vlan==b.Vlan<;>rfl
def T113:Table:=(113,c113)::T138
theorem Zoe:Table.Sound prog Hx T113:=sa Zo3 func113 (by kernel_rfl) (Zah λa=>Zah λb=>Zan λh=>⟨_,m113 a b h⟩)
def o96(a:Heard)(b:Heard):Bool×List Row×List Row:=(true,[[.bool (aheadB a b)]],[])
def c96:Contract:=(cp zp12 λa=>cp zp12 λb=>c0 (o96 a b)) true
def e96(a:Heard)(b:Heard)(n:Nat):=evFn ⟨prog,Hx,96⟩ T113.call n f96 [zp12.row a,zp12.row b]
theorem r96(a:Heard)(b:Heard)(n:Nat):e96 a b n=bif decide (Heard.Vlan a<Heard.Vlan b)then some ([[D.bool true]],[])else bif Heard.Vlan a==Heard.Vlan b then some ([[D.bool (decide (Heard.Addr a<Heard.Addr b))]],[])else some ([[D.bool false]],[]):=by kernel_rfl
theorem m96(a:Heard)(b:Heard):(o96 a b).1=true→e96 a b 0=some (o96 a b).2:=by
 refine pm λhpre=>(r96 a b _).trans ?_;unfold aheadB;cases decide (a.Vlan<b.Vlan)<;>cases a.Vlan==b.Vlan<;>rfl
def T96:Table:=(96,c96)::T113
theorem Zso:Table.Sound prog Hx T96:=sa Zoe func96 (by kernel_rfl) (Zah λa=>Zah λb=>Zan λh=>⟨_,m96 a b h⟩)
def o109(list:List Heard):Bool×List Row×List Row:=(decide (list.length≤2097152),[[.bool (tableOk list)]],[])
def c109:Contract:=(cp zp13 λlist=>c0 (o109 list)) true
def k109_0:KT:=λn↦kThen (λst↦rC 109 T96 n f109 [1,1] 4 [] 4 st (lV f109 [] [])) (lV f109 [] [])
def k109_1:KT:=λn↦kBlock (0) (k109_0 n)
def S109_0(list:List Heard)(i0:Int):St:=St.mk (V_ [C.d (D.sl false 4 (enS false list))]::u_ 4 (V_ [C.d (D.sl false 4 (enS false list))]::I_ (ofNat (length (enS false list)))::I_ i0::u_ 42 [])) []
def B109_0:BT:=λn↦rC 109 T96 n f109 [1,0,1,0,0] 225 [(0,1)] 4
def X109_2(list:List Heard)(i0:Int):St:=St.mk (U_::U_::B_ false::u_ 47 []) [Root.mk true 4 [[D.int i64 (D.num (getD (getD (enS false list) (toNat i0) []) 0 D.dead)),D.int i64 (D.num (getD (getD (enS false list) (toNat i0) []) 1 D.dead)),D.int i64 (D.num (getD (getD (enS false list) (toNat i0) []) 2 D.dead)),D.int i64 (D.num (getD (getD (enS false list) (toNat i0) []) 3 D.dead))]] 0 0 true true false [] 0 []]
def X109_7(list:List Heard):St:=St.mk (V_ [C.d (D.sl false 4 (enS false list))]::u_ 49 []) []
def y109_0(i0:Int)(list:List Heard):=getD (enS false list) (toNat (wrap i64 (i0-1))) []
theorem Zv0(list:List Heard)(n:Nat)(i0:Int)(f:St→RR)(K:Ex→St→RR):B109_0 n (S109_0 list i0) (kThen (λst↦f (St.head 0 225 140737488355228 st)) K)=bif decide (i0<ofNat (length (enS false list)))then bif decide (0≤i0)&&decide (i0<ofNat (length (enS false list)))then bif Leaf.fit false (Leaf.int i64) (getD (getD (enS false list) (toNat i0) []) 0 D.dead)&&(Leaf.fit false (Leaf.int i64) (getD (getD (enS false list) (toNat i0) []) 1 D.dead)&&(Leaf.fit false (Leaf.int i64) (getD (getD (enS false list) (toNat i0) []) 2 D.dead)&&(Leaf.fit false (Leaf.int i64) (getD (getD (enS false list) (toNat i0) []) 3 D.dead)&&true)))then bif !inR (D.num (getD (getD (enS false list) (toNat i0) []) 0 D.dead)) (1) (9)then K Ex.ret (X109_2 list i0)else bif !inR (D.num (getD (getD (enS false list) (toNat i0) []) 1 D.dead)) (1) (4)then K Ex.ret (X109_2 list i0)else bif !isPortB (D.num (getD (getD (enS false list) (toNat i0) []) 2 D.dead))then K Ex.ret (X109_2 list i0)else bif !inR (D.num (getD (getD (enS false list) (toNat i0) []) 3 D.dead)) (1) (20)then K Ex.ret (X109_2 list i0)else bif decide (i0>0)then bif decide (0≤wrap i64 (i0-1))&&decide (wrap i64 (i0-1)<ofNat (length (enS false list)))then bif Leaf.fit false (Leaf.int i64) (getD (y109_0 i0 list) 0 D.dead)&&(Leaf.fit false (Leaf.int i64) (getD (y109_0 i0 list) 1 D.dead)&&(Leaf.fit false (Leaf.int i64) (getD (y109_0 i0 list) 2 D.dead)&&(Leaf.fit false (Leaf.int i64) (getD (y109_0 i0 list) 3 D.dead)&&true)))then bif !aheadB (Heard.mk (D.num (getD (y109_0 i0 list) 0 D.dead)) (D.num (getD (y109_0 i0 list) 1 D.dead)) (D.num (getD (y109_0 i0 list) 2 D.dead)) (D.num (getD (y109_0 i0 list) 3 D.dead))) (Heard.mk (D.num (getD (getD (enS false list) (toNat i0) []) 0 D.dead)) (D.num (getD (getD (enS false list) (toNat i0) []) 1 D.dead)) (D.num (getD (getD (enS false list) (toNat i0) []) 2 D.dead)) (D.num (getD (getD (enS false list) (toNat i0) []) 3 D.dead)))then K Ex.ret (X109_2 list i0)else f (S109_0 list (wrap i64 (i0+1)))else none else none else f (S109_0 list (wrap i64 (i0+1)))else none else none else K (Ex.exit 0) (X109_7 list):=by kernel_rfl
theorem Zhw(list:List Heard)(n:Nat)(i0:Int):k109_1 n Ex.ret (X109_2 list i0)=some ([[D.bool false]],[]):=by kernel_rfl
theorem Zww(list:List Heard)(n:Nat):k109_1 n (Ex.exit 0) (X109_7 list)=some ([[D.bool (decide (ofNat (length (enS false list))≤12))]],[]):=by kernel_rfl
def e109(list:List Heard)(n:Nat):=evFn ⟨prog,Hx,109⟩ T96.call n f109 [zp13.row list]
theorem r109(list:List Heard)(n:Nat):e109 list n=loopRun (B109_0 n) 0 225 140737488355228 n (S109_0 list (0)) (k109_1 n):=by kernel_rfl
theorem m109(list:List Heard):(o109 list).1=true→e109 list (list.length+1)=some (o109 list).2:=by
 refine pm λhpre=>(r109 list _).trans ?_;have hlen:=of_decide_eq_true hpre;unfold tableOk;refine Zai (xs:=list) (λi (_:Unit)=>S109_0 list (Int.ofNat i)) (λ_ _=>True) (λi _ rest=>some ([[D.bool (stepsOk (prevAt list i) rest&&decide (list.length≤12))]],[])) ?_ ?_ (list.length+1) () (by omega) trivial
 ·rintro _ _ f;refine(Zv0 list _ _ f _).trans ?_;delta y109_0;rw[Zaw,cond_false];refine(Zww _ _).trans ?_;simp only[Zaa,stepsOk,Bool.true_and];have hd:decide (Int.ofNat list.length≤12)=decide (list.length≤12):=decide_eq_decide.2 (by show(list.length:Int)≤12↔_;omega)
  rw[hd]
 ·rintro i _ hi _ f hf;refine(Zv0 list _ _ f _).trans ?_;delta y109_0;rw[Zj1];unfold heardOk;cases h1:inR list[i].Addr 1 9
  ·simp only[gos,En.enc,D.num,D.flag,D.text,D.rows,Leaf.fit,Zbo,Zab _ hi,hi,Zae (show i<4611686018427387904 by omega),h1]
   exact Zhw _ _ _
  cases h2:inR list[i].Vlan 1 4
  ·simp only[gos,En.enc,D.num,D.flag,D.text,D.rows,Leaf.fit,Zbo,Zab _ hi,hi,Zae (show i<4611686018427387904 by omega),h1,h2]
   exact Zhw _ _ _
  cases h3:inR list[i].Port 0 3
  ·simp only[gos,En.enc,D.num,D.flag,D.text,D.rows,Leaf.fit,Zbo,Zab _ hi,hi,Zae (show i<4611686018427387904 by omega),h1,h2,h3,isPortB]
   exact Zhw _ _ _
  cases h4:inR list[i].Left 1 20
  ·simp only[gos,En.enc,D.num,D.flag,D.text,D.rows,Leaf.fit,Zbo,Zab _ hi,hi,Zae (show i<4611686018427387904 by omega),h1,h2,h3,h4,isPortB]
   exact Zhw _ _ _
  cases i with
  |zero=>
   have h0:decide (Int.ofNat 0>0)=false:=rfl;simp only[Zaa,Zac,Zap,Zaq,decide_true,decide_false,cond_true,cond_false,Bool.and_self,Bool.and_true,Bool.true_and,Bool.not_true,Bool.not_false,En.enc,List.getD_cons_zero,List.getD_cons_succ,D.num,Leaf.fit,Heard.eta,Zab _ hi,hi,h0,h1,h2,h3,h4,isPortB,beq_self_eq_true,Zae (show 0<4611686018427387904 by omega)]
   exact(hf () trivial).trans (by rw[show prevAt list (0+1)=some list[0]from List.getElem?_eq_getElem hi];rfl)
  |succ i=>
   have hi':i<list.length:=by omega
   have h0:decide (Int.ofNat (i+1)>0)=true:=decide_eq_true (by show(0:Int)<((i+1:Nat):Int);omega)
   have hw:IntKind.wrap IntKind.i64 (Int.ofNat (i+1)-1)=Int.ofNat i:=by rw[show Int.ofNat (i+1)-1=Int.ofNat i by show((i+1:Nat):Int)-1=(i:Int);omega];exact Zhv (by omega)
   have h5:decide (0≤Int.ofNat i)=true:=decide_eq_true (by show(0:Int)≤(i:Int);omega)
   have hp:prevAt list (i+1)=some list[i]:=List.getElem?_eq_getElem hi';have hn:prevAt list (i+1+1)=some list[i+1]:=List.getElem?_eq_getElem hi;rw[hp];cases h6:aheadB list[i] list[i+1]
   ·simp only[Zaa,Zac,Zap,Zaq,decide_true,decide_false,cond_true,cond_false,Bool.and_self,Bool.and_true,Bool.true_and,Bool.not_true,Bool.not_false,En.enc,List.getD_cons_zero,List.getD_cons_succ,D.num,Leaf.fit,Heard.eta,Zab _ hi,Zab _ hi',hi,hi',h0,h1,h2,h3,h4,h5,hw,h6,isPortB,beq_self_eq_true,Bool.false_and];exact Zhw _ _ _
   ·simp only[Zaa,Zac,Zap,Zaq,decide_true,decide_false,cond_true,cond_false,Bool.and_self,Bool.and_true,Bool.true_and,Bool.not_true,Bool.not_false,En.enc,List.getD_cons_zero,List.getD_cons_succ,D.num,Leaf.fit,Heard.eta,Zab _ hi,Zab _ hi',hi,hi',h0,h1,h2,h3,h4,h5,hw,h6,isPortB,beq_self_eq_true,Zae (show i+1<4611686018427387904 by omega)]
    exact(hf () trivial).trans (by rw[hn])
def T109:Table:=(109,c109)::T96
theorem Zoa:Table.Sound prog Hx T109:=sa Zso func109 (by kernel_rfl) (Zah λlist=>Zan λh=>⟨_,m109 list h⟩)
def o92(list:List Heard):Bool×List Row×List Row:=(decide (list.length≤2097152),[[.bool (tableOk list)]],[])
def c92:Contract:=(cp zp13 λlist=>c0 (o92 list)) true
def k92_0:KT:=λn↦kThen (λst↦rC 92 T109 n f92 [1,1] 4 [] 4 st (lV f92 [] [])) (lV f92 [] [])
def k92_1:KT:=λn↦kBlock (0) (k92_0 n)
def S92_0(list:List Heard)(i0:Int):St:=St.mk (V_ [C.d (D.sl false 4 (enS false list))]::U_::U_::I_ i0::u_ 50 []) []
def B92_0:BT:=λn↦rC 92 T109 n f92 [1,0,1,0,0] 9 [(0,1)] 4
def X92_2(list:List Heard)(i0:Int):St:=St.mk (U_::U_::B_ false::u_ 51 []) [Root.mk true 4 [[D.int i64 (D.num (getD (getD (enS false list) (toNat i0) []) 0 D.dead)),D.int i64 (D.num (getD (getD (enS false list) (toNat i0) []) 1 D.dead)),D.int i64 (D.num (getD (getD (enS false list) (toNat i0) []) 2 D.dead)),D.int i64 (D.num (getD (getD (enS false list) (toNat i0) []) 3 D.dead))]] 0 0 true true false [] 0 []]
def X92_7(list:List Heard):St:=St.mk (V_ [C.d (D.sl false 4 (enS false list))]::u_ 53 []) []
def y92_0(i0:Int)(list:List Heard):=getD (enS false list) (toNat (wrap i64 (i0-1))) []
theorem Z2d(list:List Heard)(n:Nat)(i0:Int)(f:St→RR)(K:Ex→St→RR):B92_0 n (S92_0 list i0) (kThen (λst↦f (St.head 0 9 2251799813685244 st)) K)=bif decide (i0<ofNat (length (enS false list)))then bif decide (0≤i0)&&decide (i0<ofNat (length (enS false list)))then bif Leaf.fit false (Leaf.int i64) (getD (getD (enS false list) (toNat i0) []) 0 D.dead)&&(Leaf.fit false (Leaf.int i64) (getD (getD (enS false list) (toNat i0) []) 1 D.dead)&&(Leaf.fit false (Leaf.int i64) (getD (getD (enS false list) (toNat i0) []) 2 D.dead)&&(Leaf.fit false (Leaf.int i64) (getD (getD (enS false list) (toNat i0) []) 3 D.dead)&&true)))then bif !inR (D.num (getD (getD (enS false list) (toNat i0) []) 0 D.dead)) (1) (9)then K Ex.ret (X92_2 list i0)else bif !inR (D.num (getD (getD (enS false list) (toNat i0) []) 1 D.dead)) (1) (4)then K Ex.ret (X92_2 list i0)else bif !inR (D.num (getD (getD (enS false list) (toNat i0) []) 2 D.dead)) (0) (3)then K Ex.ret (X92_2 list i0)else bif !inR (D.num (getD (getD (enS false list) (toNat i0) []) 3 D.dead)) (1) (20)then K Ex.ret (X92_2 list i0)else bif decide (i0>0)then bif decide (0≤wrap i64 (i0-1))&&decide (wrap i64 (i0-1)<ofNat (length (enS false list)))then bif Leaf.fit false (Leaf.int i64) (getD (y92_0 i0 list) 0 D.dead)&&(Leaf.fit false (Leaf.int i64) (getD (y92_0 i0 list) 1 D.dead)&&(Leaf.fit false (Leaf.int i64) (getD (y92_0 i0 list) 2 D.dead)&&(Leaf.fit false (Leaf.int i64) (getD (y92_0 i0 list) 3 D.dead)&&true)))then bif !aheadB (Heard.mk (D.num (getD (y92_0 i0 list) 0 D.dead)) (D.num (getD (y92_0 i0 list) 1 D.dead)) (D.num (getD (y92_0 i0 list) 2 D.dead)) (D.num (getD (y92_0 i0 list) 3 D.dead))) (Heard.mk (D.num (getD (getD (enS false list) (toNat i0) []) 0 D.dead)) (D.num (getD (getD (enS false list) (toNat i0) []) 1 D.dead)) (D.num (getD (getD (enS false list) (toNat i0) []) 2 D.dead)) (D.num (getD (getD (enS false list) (toNat i0) []) 3 D.dead)))then K Ex.ret (X92_2 list i0)else f (S92_0 list (wrap i64 (i0+1)))else none else none else f (S92_0 list (wrap i64 (i0+1)))else none else none else K (Ex.exit 0) (X92_7 list):=by kernel_rfl
theorem Zkw(list:List Heard)(n:Nat)(i0:Int):k92_1 n Ex.ret (X92_2 list i0)=some ([[D.bool false]],[]):=by kernel_rfl
theorem Zz8(list:List Heard)(n:Nat):k92_1 n (Ex.exit 0) (X92_7 list)=some ([[D.bool (decide (ofNat (length (enS false list))≤12))]],[]):=by kernel_rfl
def e92(list:List Heard)(n:Nat):=evFn ⟨prog,Hx,92⟩ T109.call n f92 [zp13.row list]
theorem r92(list:List Heard)(n:Nat):e92 list n=loopRun (B92_0 n) 0 9 2251799813685244 n (S92_0 list (0)) (k92_1 n):=by kernel_rfl
theorem m92(list:List Heard):(o92 list).1=true→e92 list (list.length+1)=some (o92 list).2:=by
 refine pm λhpre=>(r92 list _).trans ?_;have hlen:=of_decide_eq_true hpre;unfold tableOk;refine Zai (xs:=list) (λi (_:Unit)=>S92_0 list (Int.ofNat i)) (λ_ _=>True) (λi _ rest=>some ([[D.bool (stepsOk (prevAt list i) rest&&decide (list.length≤12))]],[])) ?_ ?_ (list.length+1) () (by omega) trivial
 ·rintro _ _ f;refine(Z2d list _ _ f _).trans ?_;delta y92_0;rw[Zaw,cond_false];refine(Zz8 _ _).trans ?_;simp only[Zaa,stepsOk,Bool.true_and];have hd:decide (Int.ofNat list.length≤12)=decide (list.length≤12):=decide_eq_decide.2 (by show(list.length:Int)≤12↔_;omega)
  rw[hd]
 ·rintro i _ hi _ f hf;refine(Z2d list _ _ f _).trans ?_;delta y92_0;rw[Zj1];unfold heardOk;cases h1:inR list[i].Addr 1 9
  ·simp only[gos,En.enc,D.num,D.flag,D.text,D.rows,Leaf.fit,Zbo,Zab _ hi,hi,Zae (show i<4611686018427387904 by omega),h1]
   exact Zkw _ _ _
  cases h2:inR list[i].Vlan 1 4
  ·simp only[gos,En.enc,D.num,D.flag,D.text,D.rows,Leaf.fit,Zbo,Zab _ hi,hi,Zae (show i<4611686018427387904 by omega),h1,h2]
   exact Zkw _ _ _
  cases h3:inR list[i].Port 0 3
  ·simp only[gos,En.enc,D.num,D.flag,D.text,D.rows,Leaf.fit,Zbo,Zab _ hi,hi,Zae (show i<4611686018427387904 by omega),h1,h2,h3,isPortB]
   exact Zkw _ _ _
  cases h4:inR list[i].Left 1 20
  ·simp only[gos,En.enc,D.num,D.flag,D.text,D.rows,Leaf.fit,Zbo,Zab _ hi,hi,Zae (show i<4611686018427387904 by omega),h1,h2,h3,h4,isPortB]
   exact Zkw _ _ _
  cases i with
  |zero=>
   have h0:decide (Int.ofNat 0>0)=false:=rfl;simp only[Zaa,Zac,Zap,Zaq,decide_true,decide_false,cond_true,cond_false,Bool.and_self,Bool.and_true,Bool.true_and,Bool.not_true,Bool.not_false,En.enc,List.getD_cons_zero,List.getD_cons_succ,D.num,Leaf.fit,Heard.eta,Zab _ hi,hi,h0,h1,h2,h3,h4,isPortB,beq_self_eq_true,Zae (show 0<4611686018427387904 by omega)]
   exact(hf () trivial).trans (by rw[show prevAt list (0+1)=some list[0]from List.getElem?_eq_getElem hi];rfl)
  |succ i=>
   have hi':i<list.length:=by omega
   have h0:decide (Int.ofNat (i+1)>0)=true:=decide_eq_true (by show(0:Int)<((i+1:Nat):Int);omega)
   have hw:IntKind.wrap IntKind.i64 (Int.ofNat (i+1)-1)=Int.ofNat i:=by rw[show Int.ofNat (i+1)-1=Int.ofNat i by show((i+1:Nat):Int)-1=(i:Int);omega];exact Zhv (by omega)
   have h5:decide (0≤Int.ofNat i)=true:=decide_eq_true (by show(0:Int)≤(i:Int);omega)
   have hp:prevAt list (i+1)=some list[i]:=List.getElem?_eq_getElem hi';have hn:prevAt list (i+1+1)=some list[i+1]:=List.getElem?_eq_getElem hi;rw[hp];cases h6:aheadB list[i] list[i+1]
   ·simp only[Zaa,Zac,Zap,Zaq,decide_true,decide_false,cond_true,cond_false,Bool.and_self,Bool.and_true,Bool.true_and,Bool.not_true,Bool.not_false,En.enc,List.getD_cons_zero,List.getD_cons_succ,D.num,Leaf.fit,Heard.eta,Zab _ hi,Zab _ hi',hi,hi',h0,h1,h2,h3,h4,h5,hw,h6,isPortB,beq_self_eq_true,Bool.false_and];exact Zkw _ _ _
   ·simp only[Zaa,Zac,Zap,Zaq,decide_true,decide_false,cond_true,cond_false,Bool.and_self,Bool.and_true,Bool.true_and,Bool.not_true,Bool.not_false,En.enc,List.getD_cons_zero,List.getD_cons_succ,D.num,Leaf.fit,Heard.eta,Zab _ hi,Zab _ hi',hi,hi',h0,h1,h2,h3,h4,h5,hw,h6,isPortB,beq_self_eq_true,Zae (show i+1<4611686018427387904 by omega)]
    exact(hf () trivial).trans (by rw[hn])
def T92:Table:=(92,c92)::T109
theorem Zsk:Table.Sound prog Hx T92:=sa Zoa func92 (by kernel_rfl) (Zah λlist=>Zan λh=>⟨_,m92 list h⟩)
def o114(list:List Heard)(addr:Int)(vlan:Int):Bool×List Row×List Row:=(decide (list.length≤1048576),[[.sl true 4 (enS true (list.filter (keepB addr vlan)))]],[])
def c114:Contract:=(cp zp13 λlist=>cp zp0 λaddr=>cp zp0 λvlan=>c0 (o114 list addr vlan)) true
def k114_0:KT:=λn↦kThen (λst↦rC 114 T92 n f114 [1,1,1] 64 [] 64 st (lV f114 [] [])) (lV f114 [] [])
def k114_1:KT:=λn↦kBlock (0) (k114_0 n)
def S114_0(list:List Heard)(addr:Int)(vlan:Int)(i0:Int)(es1:List (List D)):St:=St.mk (U_::I_ addr::I_ vlan::u_ 4 (V_ [C.view 0 0 0 [] 4 none]::U_::U_::V_ [C.d (D.sl false 4 (enS false list))]::I_ (ofNat (length (enS false list)))::I_ i0::u_ 19 [])) [Root.mk false 4 es1 0 0 true true false [] 0 []]
def B114_0:BT:=λn↦rC 114 T92 n f114 [1,1,0,1,0,0] 7302 [(0,128)] 64
def X114_2(es1:List (List D)):St:=St.mk (u_ 7 (V_ [C.view 0 0 0 [] 4 none]::u_ 24 [])) [Root.mk false 4 es1 0 0 true true false [] 0 []]
def y114_0(addr:Int)(es1:List (List D))(i0:Int)(list:List Heard)(vlan:Int):=S114_0 list addr vlan (wrap i64 (i0+1)) (append es1 [[D.int i64 (D.num (getD (getD (enS false list) (toNat i0) []) 0 D.dead)),D.int i64 (D.num (getD (getD (enS false list) (toNat i0) []) 1 D.dead)),D.int i64 (D.num (getD (getD (enS false list) (toNat i0) []) 2 D.dead)),D.int i64 (D.num (getD (getD (enS false list) (toNat i0) []) 3 D.dead))]])
theorem Zv1(list:List Heard)(addr:Int)(vlan:Int)(n:Nat)(i0:Int)(es1:List (List D))(f:St→RR)(K:Ex→St→RR):B114_0 n (S114_0 list addr vlan i0 es1) (kThen (λst↦f (St.head 0 7302 2147480192 st)) K)=bif decide (i0<ofNat (length (enS false list)))then bif decide (0≤i0)&&decide (i0<ofNat (length (enS false list)))then bif Leaf.fit false (Leaf.int i64) (getD (getD (enS false list) (toNat i0) []) 0 D.dead)&&(Leaf.fit false (Leaf.int i64) (getD (getD (enS false list) (toNat i0) []) 1 D.dead)&&(Leaf.fit false (Leaf.int i64) (getD (getD (enS false list) (toNat i0) []) 2 D.dead)&&(Leaf.fit false (Leaf.int i64) (getD (getD (enS false list) (toNat i0) []) 3 D.dead)&&true)))then bif D.num (getD (getD (enS false list) (toNat i0) []) 0 D.dead) !=addr then bif decide ((length es1+1)*32≤140737488355328)then f (y114_0 addr es1 i0 list vlan)else none else bif D.num (getD (getD (enS false list) (toNat i0) []) 1 D.dead) !=vlan then bif decide ((length es1+1)*32≤140737488355328)then f (y114_0 addr es1 i0 list vlan)else none else f (S114_0 list addr vlan (wrap i64 (i0+1)) es1)else none else none else K (Ex.exit 0) (X114_2 es1):=by kernel_rfl
theorem Zwx(n:Nat)(es1:List (List D)):k114_1 n (Ex.exit 0) (X114_2 es1)=some ([[D.sl true 4 es1]],[]):=by kernel_rfl
def e114(list:List Heard)(addr:Int)(vlan:Int)(n:Nat):=evFn ⟨prog,Hx,114⟩ T92.call n f114 [zp13.row list,zp0.row addr,zp0.row vlan]
theorem r114(list:List Heard)(addr:Int)(vlan:Int)(n:Nat):e114 list addr vlan n=loopRun (B114_0 n) 0 7302 2147480192 n (S114_0 list addr vlan (0) []) (k114_1 n):=by kernel_rfl
theorem m114(list:List Heard)(addr:Int)(vlan:Int):(o114 list addr vlan).1=true→e114 list addr vlan (list.length+1)=some (o114 list addr vlan).2:=by
 refine pm λhpre=>(r114 list addr vlan _).trans ?_;have hlen:=of_decide_eq_true hpre;refine Zai (xs:=list) (λi (acc:List Heard)=>S114_0 list addr vlan (Int.ofNat i) (enS true acc)) (λi acc=>acc.length≤i) (λi acc rest=>some ([[D.sl true 4 (enS true (acc++rest.filter (keepB addr vlan)))]],[])) ?_ ?_ (list.length+1) [] (by omega) (Nat.le_refl _)
 ·rintro acc _ f;refine(Zv1 list addr vlan _ _ _ f _).trans ?_;delta y114_0;rw[Zaw,cond_false];refine(Zwx _ _).trans ?_;rw[List.filter_nil,List.append_nil]
 ·rintro i acc hi hacc f hf;refine(Zv1 list addr vlan _ _ _ f _).trans ?_;delta y114_0;have hr:decide ((acc.length+1)*32≤140737488355328)=true:=decide_eq_true (by omega)
  have ha:enS true acc++[[D.int .i64 list[i].Addr,D.int .i64 list[i].Vlan,D.int .i64 list[i].Port,D.int .i64 list[i].Left]]=enS true (acc++[list[i]]):=by rw[Zce,Zgz];rfl
  have b1:(list[i].Addr !=addr)=!(list[i].Addr==addr):=rfl;have b2:(list[i].Vlan !=vlan)=!(list[i].Vlan==vlan):=rfl;have hk:keepB addr vlan list[i]=(!(list[i].Addr==addr)||!(list[i].Vlan==vlan)):=rfl;have yes:keepB addr vlan list[i]=true→f (S114_0 list addr vlan (Int.ofNat (i+1)) (enS true (acc++[list[i]])))=some ([[D.sl true 4 (enS true (acc++(list[i]::list.drop (i+1)).filter (keepB addr vlan)))]],[]):=by
   intro h;refine(hf (acc++[list[i]]) (by simp;omega)).trans ?_
   rw[List.filter_cons,if_pos h,List.append_assoc];rfl
  cases h1:list[i].Addr==addr
  ·simp only[gos,En.enc,D.num,D.flag,D.text,D.rows,Leaf.fit,Zbo,Zab _ hi,hi,Zae (show i<4611686018427387904 by omega),hr,ha,b1,h1]
   exact yes (by rw[hk,h1];rfl)
  cases h2:list[i].Vlan==vlan
  ·simp only[gos,En.enc,D.num,D.flag,D.text,D.rows,Leaf.fit,Zbo,Zab _ hi,hi,Zae (show i<4611686018427387904 by omega),hr,ha,b1,b2,h1,h2]
   exact yes (by rw[hk,h1,h2];rfl)
  ·simp only[gos,En.enc,D.num,D.flag,D.text,D.rows,Leaf.fit,Zbo,Zab _ hi,hi,Zae (show i<4611686018427387904 by omega),hr,ha,b1,b2,h1,h2]
   refine(hf acc (by omega)).trans ?_
   rw[List.filter_cons,if_neg (by rw[hk,h1,h2];decide)]
def T114:Table:=(114,c114)::T92
theorem Zof:Table.Sound prog Hx T114:=sa Zsk func114 (by kernel_rfl) (Zah λlist=>Zah λaddr=>Zah λvlan=>Zan λh=>⟨_,m114 list addr vlan h⟩)
def o105(s:List Heard):Bool×List Row×List Row:=(decide (s.length≤4194304),[[.sl true 4 (enS true (s))]],[])
def c105:Contract:=(cp zp13 λs=>c0 (o105 s)) true
def e105(s:List Heard)(n:Nat):=evFn ⟨prog,Hx,105⟩ T114.call n f105 [zp13.row s]
theorem r105(s:List Heard)(n:Nat):e105 s n=bif isEmpty (enS false s)then both (some ([[D.sl true 4 []]],[])) (bif decide ((0+length (enS false s))*32≤140737488355328)then some ([[D.sl true 4 (enS false s)]],[])else none)else bif decide ((0+length (enS false s))*32≤140737488355328)then some ([[D.sl true 4 (enS false s)]],[])else none:=by kernel_rfl
theorem m105(s:List Heard):(o105 s).1=true→e105 s 0=some (o105 s).2:=by
 refine pm λhpre=>(r105 s _).trans ?_;have hlen:=of_decide_eq_true hpre;have h1:decide ((0+s.length)*32≤140737488355328)=true:=decide_eq_true (by omega)
 simp only[Zaa,h1,cond_true];cases s with
 |nil=>
  rw[show List.isEmpty (enS false ([]:List Heard))=true from rfl,cond_true];exact Zds _
 |cons x xs=>
  rw[show List.isEmpty (enS false (x::xs))=false from rfl,cond_false];rfl
def T105:Table:=(105,c105)::T114
theorem Zn6:Table.Sound prog Hx T105:=sa Zof func105 (by kernel_rfl) (Zah λs=>Zan λh=>⟨_,m105 s h⟩)
def o143(s:List Heard)(n_:Int):Bool×List Row×List Row:=(decide (s.length=0)&&(decide (0≤n_)&&decide (n_≤16777216)),[[.sl true 4 (enS true (emptyH))]],[])
def c143:Contract
 |[[.sl true 4 s],[.int .i64 n_]]=>some (isS Heard true s&&(o143 (deS Heard s) n_).1,(o143 (deS Heard s) n_).2.1,(o143 (deS Heard s) n_).2.2)
 |_=>none
section
open Go.Lib Go.Proofs Go.RowKit
set_option maxHeartbeats 2000000 in
set_option maxRecDepth 100000 in
theorem Zx8(base:Option Addr)(l c n:Nat)(w:World)(hlc:l≤c)(hc63:c≤9223372036854775807)(hn63:n≤9223372036854775807)(hroom:l+n≤c):
  Calls Go.Proofs.Tryz.prog 143 #[.slice base l c,.int .i64 n] w λe w'=>e=.returned (.slice base l c)∧w'=w:=by
 have h1:¬((n:Int)<0):=by omega
 have h2:wrap64 ((c:Int)-(l:Int))=(c:Int)-(l:Int):=by unfold wrap64;omega
 have h3:wrap64 ((n:Int)-((c:Int)-(l:Int)))=(n:Int)-((c:Int)-(l:Int)):=by unfold wrap64;omega
 have h4:¬((n:Int)-((c:Int)-(l:Int))>0):=by omega
 go_enter func143,Go.Proofs.Tryz.ntmps143
 go_wp2
 go_ret
 exact⟨rfl,rfl⟩
theorem Zxy:((Go.Proofs.Tryz.prog.info? 154).bind λi=>i.zero.map λz=>(i.size,i.bytes,z.cells.size))=some (4,32,4):=by kernel_rfl
theorem Z3d:Go.Proofs.Tryz.prog.underlying 66=some (.slice 154):=by kernel_rfl
def Grew143(w:World)(n:Nat)(e:Ending)(w':World):Prop:=∃(G:Nat) (ca:Array Value),n≤G∧G≤9223372036854775807∧G*4≤ca.size∧
 e=.returned (.slice (some ⟨w.heap.size,0,none⟩) 0 G)∧w'=w.drew.alloc (.cells ca 154)
set_option maxHeartbeats 4000000 in
set_option maxRecDepth 100000 in
theorem Zxv(base:Option Addr)(c n:Nat)(cs:List Value)(w:World)(hroom:c<n)(hbig:n*32≤140737488355328)(h63:n≤4611686018427387904)
  (hcl:cs.length=c*4) (hnil:base=none→c=0) (hcs:∀a,base=some a→∀j v,cs[j]?=some v→w.cell? (a.add j)=some v):
  Calls Go.Proofs.Tryz.prog 143 #[.slice base 0 c,.int .i64 n] w λe w'=>Grew143 w n e w':=by
 obtain⟨i0,z,hi0,hz0,hs0,hb0,hzc⟩:∃i z,Go.Proofs.Tryz.prog.info? 154=some i∧i.zero=some z∧i.size=4∧i.bytes=32∧z.cells.size=4:=by
  have h:=Zxy;cases hi:Go.Proofs.Tryz.prog.info? 154 with
  |none=>rw[hi]at h;cases h
  |some i=>
   rw[hi]at h;cases hz:i.zero with
   |none=>rw[show(some i:Option TypeInfo).bind (λi=>i.zero.map λz=>(i.size,i.bytes,z.cells.size))=i.zero.map (λz=>(i.size,i.bytes,z.cells.size))from rfl,hz]at h;cases h
   |some z=>
    rw[show(some i:Option TypeInfo).bind (λi=>i.zero.map λz=>(i.size,i.bytes,z.cells.size))=i.zero.map (λz=>(i.size,i.bytes,z.cells.size))from rfl,hz]at h;have h2:=Option.some.inj h;simp only[Prod.mk.injEq]at h2;exact⟨i,z,rfl,hz,h2.1,h2.2.1,h2.2.2⟩
 have h1:¬((n:Int)<0):=by omega
 have h2:wrap64 ((c:Int)-((0:Nat):Int))=(c:Int):=by unfold wrap64;omega
 have h3:wrap64 ((n:Int)-(c:Int))=(n:Int)-(c:Int):=by unfold wrap64;omega
 have h4:(n:Int)-(c:Int)>0:=by omega
 have z25:∀w,(Go.sizeOf 154).run Go.Proofs.Tryz.prog w=.ok i0.size w:=λw=>by simp[Go.sizeOf,typeInfo,hi0]
 have t22:=Z3d;have u22:=run_underlying t22;have t3:Go.Proofs.Tryz.prog.underlying 3=some (.int .i64):=by kernel_rfl
 have hck:c+(n-c)=n:=by omega
 have hold:(Builtin.firstCells i0.size c (.slice base c c)).run Go.Proofs.Tryz.prog w.drew=.ok cs.toArray w.drew:=by
  rw[hs0];cases base with
  |none=>
   have h0:=hnil rfl;subst h0;have hc0:cs=[]:=List.length_eq_zero_iff.1 (by simpa using hcl)
   rw[hc0];exact run_firstCells_none w.drew 4 0 0 0
  |some a=>exact run_firstCells_some w.drew 4 c a c c cs hcl (λj v hj=>hcs a rfl j v hj)
 have hrz:∀ty,(Builtin.append_ #[66,3] ty #[.slice base c c,.int .i64 ((n:Int)-(c:Int))]).run Go.Proofs.Tryz.prog w=
   .ok (.slice (some ⟨w.heap.size,0,none⟩) n (grownCap w n c 154)) (w.drew.alloc (.cells (cs.toArray++Builtin.zeroCells z.cells (n-c)++Builtin.zeroCells z.cells (grownCap w n c 154-n)) 154)):=λty=>by
  have h:=Lib.run_append_grow_zeros w 66 3 ty 154 i0 z .i64 .i64 t22 t3 hi0 hz0 base c c cs hold (n-c) (by omega) (by omega) (by omega) (by omega)
   (by rw[hb0];omega)
   (by rw[hck];exact growslice_fits hroom (by rw[hb0];exact hbig))
  rw[hck]at h;rw[show(n:Int)-(c:Int)=((n-c:Nat):Int) by omega]
  exact h
 have hGn:n≤grownCap w n c 154:=grownCap_ge w _ _ _;obtain⟨G,hG⟩:∃G,G=grownCap w n c 154:=⟨_,rfl⟩;rw[←hG]at hrz hGn;have hG63:G≤9223372036854775807:=by
  have:=grownCap_le_maxLen w n c 154 (by unfold maxLen;omega)
  rw[←hG]at this;unfold maxLen at this;omega
 have hsz:G*4≤(cs.toArray++Builtin.zeroCells z.cells (n-c)++Builtin.zeroCells z.cells (G-n)).size:=by
  simp only[Array.size_append,List.size_toArray,size_zeroCells,hzc,hcl];omega
 obtain⟨ca,hca⟩:∃ca,ca=cs.toArray++Builtin.zeroCells z.cells (n-c)++Builtin.zeroCells z.cells (G-n):=⟨_,rfl⟩;rw[←hca]at hrz hsz;clear hold hck hG hcs hcl hca
 go_enter func143,Go.Proofs.Tryz.ntmps143
 cases base with
 |none=>
  have h0:=hnil rfl;subst h0
  go_wp2_with (at_builtin;refine Lib.wpList_append_run _ rfl _ _ _ _ rfl _ _ rfl rfl _ _ (hrz _) ?_)
  all_goals (go_ret;exact⟨G,ca,hGn,hG63,hsz,rfl,rfl⟩)
 |some a=>
  obtain⟨ab,ao,asp⟩:=a
  go_wp2_with (at_builtin;refine Lib.wpList_append_run _ rfl _ _ _ _ rfl _ _ rfl rfl _ _ (hrz _) ?_)
  all_goals (go_ret;exact⟨G,ca,hGn,hG63,hsz,rfl,rfl⟩)
end
section
open Go.RowKit
theorem Zsv:isAggB Go.Proofs.Tryz.prog 66=false:=by kernel_rfl
theorem Zxq:isAggB Go.Proofs.Tryz.prog 3=false:=by kernel_rfl
theorem Z0s:isPtrB Go.Proofs.Tryz.prog 66=false:=by kernel_rfl
theorem Zx1:(Hx.modes 143 f143.params.size).zip f143.params.toList=[(.give,66),(.lend,3)]:=by kernel_rfl
theorem Z0r:Hx.muts 143=[]:=by kernel_rfl
theorem Z2j:f143.resultTypes.toList=[66]:=by kernel_rfl
theorem Zne{w w':World}{S F:FP}{r1 r2:Row}{v u:Value}{A:Option Addr}{cap:Nat}{G1:FP}
  (hb:Below 0 w w') (hfr:∀b,b<w.heap.size→¬F b→w'.heap[b]?=w.heap[b]?) (hrep:repD w' S (.sl true 4 []) (.slice A 0 cap) G1)
  (hG:∀b,G1 b→(F b∨w.heap.size≤b)∧b<w'.heap.size∧¬S b):
  Leaves Go.Proofs.Tryz.prog w S F [(.give,66),(.lend,3)] [] [66] [r1,r2] [v,u] [[.sl true 4 []]] [] (.slice A 0 cap) w':=by
 refine⟨hb,hfr,trivial,[.slice A 0 cap],G1,λ_=>False,λ_=>False,rfl,?_,?_,?_,⟨λb _ h=>h,λb hb=>?_⟩,λb h=>h.elim,λb h=>h.elim⟩
 ·refine⟨G1,λ_=>False,?_,λb h=>h,λb=>by simp,λb _ h=>h⟩
  unfold outOne;rw[Z0s,if_neg Bool.false_ne_true];refine⟨?_,?_⟩
  ·unfold aggOk;rw[Zsv,if_neg Bool.false_ne_true];rfl
  ·exact⟨G1,λ_=>False,hrep,λb h=>h,λb=>by simp,λb _ h=>h⟩
 ·exact λb h=>h
 ·exact λb h=>h
 ·rcases hb with h|h
  ·exact hG b h
  ·exact h.elim
theorem s143:SoundAt Go.Proofs.Tryz.prog Hx 143 c143:=by
 intro fn rows out back h1 h2;rw[func143]at h1;injection h1 with h1;subst h1;unfold c143 at h2;split at h2
 ·rename_i s n_;obtain⟨hp,hr⟩:=Prod.mk.inj (Option.some.inj h2);simp only[Bool.and_eq_true]at hp;obtain⟨hs0,hp⟩:=hp;obtain⟨xs0,rfl⟩:=Zay hs0;simp only[Zad]at hp hr;replace hp:(decide (xs0.length=0)&&(decide (0≤n_)&&decide (n_≤16777216)))=true:=hp;simp only[Bool.and_eq_true,decide_eq_true_eq]at hp;obtain⟨hx,hn0,hn1⟩:=hp;obtain rfl:=List.length_eq_zero_iff.1 hx;replace hr:([[D.sl true 4 []]],[])=(out,back):=hr;obtain⟨rfl,rfl⟩:=Prod.mk.inj hr;refine⟨by kernel_rfl,by kernel_rfl,λw S F vs hS hF ha=>?_⟩
  rw[Zx1]at ha⊢;rw[Z0r,Z2j];rcases vs with _|⟨v,_|⟨u,_|⟨_,_⟩⟩⟩
  ·exact ha.elim
  ·obtain⟨_,_,_,h,_⟩:=ha;exact h.elim
  ·obtain⟨F1,F2,⟨ag,hd⟩,⟨F3,F4,⟨hF3,ag2,hd2⟩,hF4,hF2,_⟩,hFF,_⟩:=ha;have v1:v.oneCell'=true:=by unfold aggOk at ag;rw[Zsv,if_neg Bool.false_ne_true]at ag;exact ag
   have u1:u.oneCell'=true:=by unfold aggOk at ag2;rw[Zxq,if_neg Bool.false_ne_true]at ag2;exact ag2
   rw[Zcs v1]at hd;rw[Zcs u1]at hd2;obtain⟨G1,G2,hv,hnil,hG,_⟩:=hd;obtain⟨G3,G4,hu,_,_,_⟩:=hd2;obtain⟨A,cap,rfl,hle,hv⟩:=hv;obtain⟨rfl,_⟩:=hu;obtain⟨n,rfl⟩:=Int.eq_ofNat_of_zero_le hn0;have hn2:n≤16777216:=by omega
   have hFG:∀b,F b↔G1 b:=λb=>by
    rw[hFF b,hG b,hF2 b];constructor
    ·rintro((h|h)|(h|h))
     ·exact h
     ·exact(hnil b h).elim
     ·exact(hF3 b h).elim
     ·exact(hF4 b h).elim
    ·exact λh=>.inl (.inl h)
   have hc63:cap≤9223372036854775807:=by
    rcases hv with⟨_,_,h,_⟩|⟨B,off,F',_,_,⟨_,_,_,_,h⟩|⟨h,_⟩⟩
    ·omega
    ·exact h
    ·cases h
   by_cases hroom:n≤cap
   ·refine Calls.mono (Zx8 A 0 cap n w (Nat.zero_le _) hc63 (by omega) (by omega)) (λe w' he=>?_)
    obtain⟨rfl,rfl⟩:=he;exact Zne (Below.refl 0 _) (λb _ _=>rfl) ⟨A,cap,rfl,hle,hv⟩ (λb hb=>⟨.inl ((hFG b).2 hb),hF b ((hFG b).2 hb)⟩)
   ·have hmem:∃cs:List Value,cs.length=cap*4∧(A=none→cap=0)∧∀a,A=some a→∀j v,cs[j]?=some v→w.cell? (a.add j)=some v:=by
     rcases hv with⟨h1,_,rfl,_⟩|⟨B,off,F',rfl,_,⟨_,_,_,⟨cs,t,hh,hsz⟩,_⟩|⟨h,_⟩⟩
     ·have h1:=h1.resolve_right (by simp)
      subst h1;exact⟨[],by simp,λ_=>rfl,λa h=>by cases h⟩
     ·refine⟨(cs.toList.drop off).take (cap*4),?_,(λh=>nomatch h),λa ha j v hj=>?_⟩
      ·rw[List.length_take,List.length_drop,Array.length_toList];omega
      ·injection ha with ha;subst ha;rw[List.getElem?_take]at hj;split at hj
       ·rw[List.getElem?_drop,Array.getElem?_toList]at hj;rw[Zbv];unfold World.cell?;rw[hh];exact hj
       ·cases hj
     ·cases h
    obtain⟨cs,hcl,hnilA,hcs⟩:=hmem;refine Calls.mono (Zxv A cap n cs w (by omega) (by omega) (by omega) hcl hnilA hcs) (λe w' he=>?_)
    obtain⟨G,ca,hGn,hG63,hsz,rfl,rfl⟩:=he;refine Zne (G1:=λb=>b=w.heap.size) ((Below.drew (Below.refl 0 w)).trans (Zfe _ _)) (λb hb _=>Zee (w:=w.drew) _ hb) ?_ ?_
    ·exact⟨some ⟨w.heap.size,0,none⟩,G,rfl,Nat.zero_le _,.inr ⟨w.heap.size,0,λ_=>False,rfl,λb h=>h,.inl ⟨rfl,λh=>h,λb=>by simp,⟨ca,154,heap_alloc_new w.drew _,by omega⟩,hG63⟩⟩⟩
    ·rintro b rfl;exact⟨.inr (Nat.le_refl _),by rw[Zgv];show w.heap.size<w.heap.size+1;omega,λh=>Nat.lt_irrefl _ (hS _ h)⟩
  ·obtain⟨_,_,_,⟨_,_,_,h,_⟩,_⟩:=ha;exact h.elim
 ·cases h2
end
def T143:Table:=(143,c143)::T105
theorem Zo8:Table.Sound Go.Proofs.Tryz.prog Hx T143:=Table.sound_cons s143 Zn6
def o115(s:List (List Heard)):Bool×List Row×List Row:=(decide (s.length≤16)&&s.all (λx=>decide (x.length≤1048576)),[[.sl true 4 (enS true (s.flatten))]],[])
def zp23:Pa (List (List Heard)):=⟨λs=>[.sl false 1 (enS false s)],λr=>match r with|[.sl false 1 s]=>some (λt=>t&&isS (List Heard) false s,(deS (List Heard) s))|_=>none,by
 intro r f x h t ht;split at h
 ·cases h;simp only[Bool.and_eq_true]at ht;obtain⟨ht,h0⟩:=ht;obtain⟨_,rfl⟩:=Zay h0;exact⟨ht,by simp only[Zad]⟩
 ·cases h⟩
def c115:Contract:=(cp zp23 λs=>c0 (o115 s)) true
def k115_0:KT:=λn↦kThen (λst↦rC 115 T143 n f115 [1,1,1] 4 [] 4 st (lV f115 [] [])) (lV f115 [] [])
def k115_1:KT:=λn↦kBlock (0) (k115_0 n)
def S115_0(s:List (List Heard))(i0:Int)(i1:Int):St:=St.mk (V_ [C.d (D.sl false 1 (enS false s))]::U_::U_::I_ i0::u_ 5 (V_ [C.d (D.sl false 1 (enS false s))]::I_ (ofNat (length (enS false s)))::I_ i1::u_ 24 [])) []
def B115_0:BT:=λn↦rC 115 T143 n f115 [1,1,0,1,0,0] 3593 [(0,9)] 4
def X115_2(s:List (List Heard))(i0:Int):St:=St.mk (V_ [C.d (D.sl false 1 (enS false s))]::U_::U_::I_ i0::u_ 32 []) []
theorem Zv2(s:List (List Heard))(n:Nat)(i0:Int)(i1:Int)(f:St→RR)(K:Ex→St→RR):B115_0 n (S115_0 s i0 i1) (kThen (λst↦f (St.head 0 3593 8386600 st)) K)=bif decide (i1<ofNat (length (enS false s)))then bif decide (0≤i1)&&decide (i1<ofNat (length (enS false s)))then bif Leaf.fit false (Leaf.sl 4 true) (getD (getD (enS false s) (toNat i1) []) 0 D.dead)&&true then bif decide (wrap i64 (i0+ofNat (length (D.rows (getD (getD (enS false s) (toNat i1) []) 0 D.dead))))<0)then none else f (S115_0 s (wrap i64 (i0+ofNat (length (D.rows (getD (getD (enS false s) (toNat i1) []) 0 D.dead))))) (wrap i64 (i1+1)))else none else none else K (Ex.exit 0) (X115_2 s i0):=by kernel_rfl
def k115_3:KT:=λn↦kThen (λst↦rC 115 T143 n f115 [1,1,1,1,1] 4 [] 4 st (lV f115 [] [])) (lV f115 [] [])
def k115_4:KT:=λn↦kBlock (2) (k115_3 n)
def S115_1(s:List (List Heard))(i0_:Int)(es1:List (List D)):St:=St.mk (u_ 6 (V_ [C.view 1 0 0 [] 4 none]::u_ 18 (V_ [C.d (D.sl false 1 (enS false s))]::I_ (ofNat (length (enS false s)))::I_ i0_::u_ 8 []))) [Root.mk false 4 (enS true emptyH) 0 0 false true false [] 0 [],Root.mk false 4 es1 0 0 true true false [] 0 []]
def B115_1:BT:=λn↦rC 115 T143 n f115 [1,1,1,1,0,1,0,0] 234881088 [(2,64)] 4
def X115_5(es1:List (List D)):St:=St.mk (u_ 6 (V_ [C.view 1 0 0 [] 4 none]::u_ 29 [])) [Root.mk false 4 (enS true emptyH) 0 0 false true false [] 0 [],Root.mk false 4 es1 0 0 true true false [] 0 []]
theorem Zv3(s:List (List Heard))(n:Nat)(i0_:Int)(es1:List (List D))(f:St→RR)(K:Ex→St→RR):B115_1 n (S115_1 s i0_ es1) (kThen (λst↦f (St.head 1 234881088 34225520960 st)) K)=bif decide (i0_<ofNat (length (enS false s)))then bif decide (0≤i0_)&&decide (i0_<ofNat (length (enS false s)))then bif Leaf.fit false (Leaf.sl 4 true) (getD (getD (enS false s) (toNat i0_) []) 0 D.dead)&&true then bif decide ((length es1+length (D.rows (getD (getD (enS false s) (toNat i0_) []) 0 D.dead)))*32≤140737488355328)then f (S115_1 s (wrap i64 (i0_+1)) (append es1 (D.rows (getD (getD (enS false s) (toNat i0_) []) 0 D.dead))))else none else none else none else K (Ex.exit 2) (X115_5 es1):=by kernel_rfl
theorem Zwz(n:Nat)(es1:List (List D)):k115_4 n (Ex.exit 2) (X115_5 es1)=some ([[D.sl true 4 es1]],[]):=by kernel_rfl
theorem Zwy(s:List (List Heard))(n:Nat)(i0:Int):k115_1 n (Ex.exit 0) (X115_2 s i0)=bif isS Heard true []&&(decide (length (deS Heard [])=0)&&(decide (0≤i0)&&decide (i0≤16777216)))then loopRun (B115_1 n) 1 234881088 34225520960 n (S115_1 s (0) (enS true emptyH)) (k115_4 n)else none:=by kernel_rfl
def e115(s:List (List Heard))(n:Nat):=evFn ⟨prog,Hx,115⟩ T143.call n f115 [zp23.row s]
theorem r115(s:List (List Heard))(n:Nat):e115 s n=loopRun (B115_0 n) 0 3593 8386600 n (S115_0 s (0) (0)) (k115_1 n):=by kernel_rfl
theorem m115(s:List (List Heard)):(o115 s).1=true→e115 s (s.length+1)=some (o115 s).2:=by
 refine pm λhpre=>(r115 s _).trans ?_;rw[Bool.and_eq_true]at hpre;obtain⟨h16,hall⟩:=hpre;have h16:=of_decide_eq_true h16;have hx:∀i (hi:i<s.length),s[i].length≤1048576:=λi hi=>of_decide_eq_true (List.all_eq_true.1 hall _ (List.getElem_mem hi));refine Zai (xs:=s) (λi (a:Int)=>S115_0 s a (Int.ofNat i)) (λi a=>0≤a∧a≤(i:Int)*1048576) (λ_ _ _=>some ([[D.sl true 4 (enS true s.flatten)]],[])) ?_ ?_ (s.length+1) 0 (by omega) ⟨by omega,by omega⟩
 ·rintro a ⟨ha0,ha1⟩ f;refine(Zv2 s _ _ _ f _).trans ?_;rw[Zaw,cond_false];refine(Zwy _ _ _).trans ?_;have c1:decide (0≤a)=true:=decide_eq_true ha0;have c2:decide (a≤16777216)=true:=decide_eq_true (by omega)
  have c3:(deS Heard []).length=0:=rfl;simp only[Ztl,c1,c2,c3,decide_true,Bool.and_self,cond_true];refine Zai (xs:=s) (λi (acc:List Heard)=>S115_1 s (Int.ofNat i) (enS true acc)) (λi acc=>acc.length≤i*1048576) (λi acc rest=>some ([[D.sl true 4 (enS true (acc++rest.flatten))]],[])) ?_ ?_ (s.length+1) [] (by omega) (Nat.zero_le _)
  ·rintro acc _ f;refine(Zv3 s _ _ _ f _).trans ?_;rw[Zaw,cond_false];refine(Zwz _ _).trans ?_;rw[List.flatten_nil,List.append_nil]
  ·rintro i acc hi hacc f hf;refine(Zv3 s _ _ _ f _).trans ?_;have:=hx i hi;have hr:decide ((acc.length+s[i].length)*32≤140737488355328)=true:=decide_eq_true (by omega)
   have ha:enS true acc++enS false s[i]=enS true (acc++s[i]):=by rw[Zce];rfl
   simp only[gos,En.enc,D.num,D.flag,D.text,D.rows,Leaf.fit,Zbo,Zab _ hi,hi,Zae (show i<4611686018427387904 by omega),hr,ha,beq_self_eq_true]
   refine(hf (acc++s[i]) (by rw[List.length_append];omega)).trans ?_
   rw[List.flatten_cons,List.append_assoc]
 ·rintro i a hi ⟨ha0,ha1⟩ f hf;refine(Zv2 s _ _ _ f _).trans ?_;have:=hx i hi;have hw:IntKind.wrap IntKind.i64 (a+Int.ofNat s[i].length)=a+Int.ofNat s[i].length:=Zb6 (by show _≤a+(s[i].length:Int);omega) (by show a+(s[i].length:Int)≤_;omega)
  have hn:decide (a+Int.ofNat s[i].length<0)=false:=decide_eq_false (by show ¬(a+(s[i].length:Int)<0);omega)
  simp only[gos,En.enc,D.num,D.flag,D.text,D.rows,Leaf.fit,Zbo,Zab _ hi,hi,Zae (show i<4611686018427387904 by omega),hw,hn,beq_self_eq_true]
  refine(hf _ ⟨by show 0≤a+(s[i].length:Int);omega,by show a+(s[i].length:Int)≤((i+1:Nat):Int)*1048576;omega⟩)
def T115:Table:=(115,c115)::T143
theorem Zog:Table.Sound prog Hx T115:=sa Zo8 func115 (by kernel_rfl) (Zah λs=>Zan λh=>⟨_,m115 s h⟩)
def o68(list:List Heard)(addr:Int)(vlan:Int)(port:Int):Bool×List Row×List Row:=(decide (list.length≤1048576),[[.sl true 4 (enS true (hearL list addr vlan port))]],[])
def c68:Contract:=(cp zp13 λlist=>cp zp0 λaddr=>cp zp0 λvlan=>cp zp0 λport=>c0 (o68 list addr vlan port)) true
def k68_0:KT:=λn↦kThen (λst↦rC 68 T115 n f68 [1,1,1,1,1] 256 [] 256 st (lV f68 [] [])) (lV f68 [] [])
def k68_1:KT:=λn↦kBlock (0) (k68_0 n)
def S68_0(list:List Heard)(addr:Int)(vlan:Int)(port:Int)(i0:Int):St:=St.mk (V_ [C.d (D.sl false 4 (enS false list))]::I_ addr::I_ vlan::u_ 6 (V_ [C.ptr 0 0 0 [] 4 0 0]::V_ [C.view 1 0 0 [] 4 none]::I_ i0::u_ 46 [])) [Root.mk true 4 [[D.int i64 addr,D.int i64 vlan,D.int i64 port,D.int i64 (20)]] 0 0 true true false [] 0 [],Root.mk false 4 (enS true (deS Heard (enS false list))) 0 0 true true false [] 0 []]
def B68_0:BT:=λn↦rC 68 T115 n f68 [1,1,1,1,0,0,0] 3591 [(0,3591)] 256
def X68_2(list:List Heard)(addr:Int)(vlan:Int)(port:Int)(i0:Int):St:=St.mk (V_ [C.d (D.sl false 4 (enS false list))]::I_ addr::I_ vlan::u_ 6 (V_ [C.ptr 0 0 0 [] 4 0 0]::V_ [C.view 1 0 0 [] 4 none]::I_ i0::u_ 46 [])) [Root.mk true 4 [[D.int i64 addr,D.int i64 vlan,D.int i64 port,D.int i64 (20)]] 0 0 true true false [] 0 [],Root.mk false 4 (enS true (deS Heard (enS false list))) 0 0 true true false [] 0 []]
def y68_0(i0:Int)(list:List Heard):=getD (enS true (deS Heard (enS false list))) (0+toNat i0) []
theorem Z1u(list:List Heard)(addr:Int)(vlan:Int)(port:Int)(n:Nat)(i0:Int)(f:St→RR)(K:Ex→St→RR):B68_0 n (S68_0 list addr vlan port i0) (kThen (λst↦f (St.head 2 3591 17178822656 st)) K)=bif decide (i0<ofNat (length (enS true (deS Heard (enS false list)))))then bif decide (0≤i0)&&decide (i0<ofNat (length (enS true (deS Heard (enS false list)))))then bif Leaf.fit true (Leaf.int i64) (getD (y68_0 i0 list) 0 D.dead)&&(Leaf.fit true (Leaf.int i64) (getD (y68_0 i0 list) 1 D.dead)&&(Leaf.fit true (Leaf.int i64) (getD (y68_0 i0 list) 2 D.dead)&&(Leaf.fit true (Leaf.int i64) (getD (y68_0 i0 list) 3 D.dead)&&true)))then bif aheadB (Heard.mk (D.num (getD (y68_0 i0 list) 0 D.dead)) (D.num (getD (y68_0 i0 list) 1 D.dead)) (D.num (getD (y68_0 i0 list) 2 D.dead)) (D.num (getD (y68_0 i0 list) 3 D.dead))) (Heard.mk addr vlan port (20))then f (S68_0 list addr vlan port (wrap i64 (i0+1)))else K (Ex.exit 0) (X68_2 list addr vlan port i0)else none else none else K (Ex.exit 0) (X68_2 list addr vlan port i0):=by kernel_rfl
theorem Zst(list:List Heard)(addr:Int)(vlan:Int)(port:Int)(n:Nat)(i0:Int):k68_1 n (Ex.exit 0) (X68_2 list addr vlan port i0)=bif decide (0≤i0)&&decide (i0≤ofNat (length (enS true (deS Heard (enS false list)))))then bif isS Heard false (lendRows (take (toNat (i0-0)) (enS true (deS Heard (enS false list)))))&&decide (length (deS Heard (lendRows (take (toNat (i0-0)) (enS true (deS Heard (enS false list))))))≤1048576)then bif deepRows (enS true (List.filter (keepB addr vlan) (deS Heard (lendRows (take (toNat (i0-0)) (enS true (deS Heard (enS false list))))))))&&true&&true&&true&&true then bif decide (0≤i0)&&(decide (i0≤ofNat (length (enS true (deS Heard (enS false list)))))&&decide (ofNat (length (enS true (deS Heard (enS false list))))≤ofNat (length (enS true (deS Heard (enS false list))))))then bif isS Heard false (lendRows (take (toNat (ofNat (length (enS true (deS Heard (enS false list))))-i0)) (drop (0+toNat i0) (enS true (deS Heard (enS false list))))))&&decide (length (deS Heard (lendRows (take (toNat (ofNat (length (enS true (deS Heard (enS false list))))-i0)) (drop (0+toNat i0) (enS true (deS Heard (enS false list)))))))≤1048576)then bif deepRows (enS true (List.filter (keepB addr vlan) (deS Heard (lendRows (take (toNat (ofNat (length (enS true (deS Heard (enS false list))))-i0)) (drop (0+toNat i0) (enS true (deS Heard (enS false list)))))))))&&true&&true&&true&&true then bif isS (List Heard) false [[D.sl false 4 (lendRows (enS true (List.filter (keepB addr vlan) (deS Heard (lendRows (take (toNat (i0-0)) (enS true (deS Heard (enS false list)))))))))],[D.sl false 4 [[D.int i64 addr,D.int i64 vlan,D.int i64 port,D.int i64 (20)]]],[D.sl false 4 (lendRows (enS true (List.filter (keepB addr vlan) (deS Heard (lendRows (take (toNat (ofNat (length (enS true (deS Heard (enS false list))))-i0)) (drop (0+toNat i0) (enS true (deS Heard (enS false list))))))))))]]&&(decide (length (deS (List Heard) [[D.sl false 4 (lendRows (enS true (List.filter (keepB addr vlan) (deS Heard (lendRows (take (toNat (i0-0)) (enS true (deS Heard (enS false list)))))))))],[D.sl false 4 [[D.int i64 addr,D.int i64 vlan,D.int i64 port,D.int i64 (20)]]],[D.sl false 4 (lendRows (enS true (List.filter (keepB addr vlan) (deS Heard (lendRows (take (toNat (ofNat (length (enS true (deS Heard (enS false list))))-i0)) (drop (0+toNat i0) (enS true (deS Heard (enS false list))))))))))]])≤16)&&all (deS (List Heard) [[D.sl false 4 (lendRows (enS true (List.filter (keepB addr vlan) (deS Heard (lendRows (take (toNat (i0-0)) (enS true (deS Heard (enS false list)))))))))],[D.sl false 4 [[D.int i64 addr,D.int i64 vlan,D.int i64 port,D.int i64 (20)]]],[D.sl false 4 (lendRows (enS true (List.filter (keepB addr vlan) (deS Heard (lendRows (take (toNat (ofNat (length (enS true (deS Heard (enS false list))))-i0)) (drop (0+toNat i0) (enS true (deS Heard (enS false list))))))))))]]) λx↦decide (length x≤1048576))then bif deepRows (enS true (List.flatten (deS (List Heard) [[D.sl false 4 (lendRows (enS true (List.filter (keepB addr vlan) (deS Heard (lendRows (take (toNat (i0-0)) (enS true (deS Heard (enS false list)))))))))],[D.sl false 4 [[D.int i64 addr,D.int i64 vlan,D.int i64 port,D.int i64 (20)]]],[D.sl false 4 (lendRows (enS true (List.filter (keepB addr vlan) (deS Heard (lendRows (take (toNat (ofNat (length (enS true (deS Heard (enS false list))))-i0)) (drop (0+toNat i0) (enS true (deS Heard (enS false list))))))))))]])))&&true&&true&&true&&true then bif isS Heard false (lendRows (enS true (List.flatten (deS (List Heard) [[D.sl false 4 (lendRows (enS true (List.filter (keepB addr vlan) (deS Heard (lendRows (take (toNat (i0-0)) (enS true (deS Heard (enS false list)))))))))],[D.sl false 4 [[D.int i64 addr,D.int i64 vlan,D.int i64 port,D.int i64 (20)]]],[D.sl false 4 (lendRows (enS true (List.filter (keepB addr vlan) (deS Heard (lendRows (take (toNat (ofNat (length (enS true (deS Heard (enS false list))))-i0)) (drop (0+toNat i0) (enS true (deS Heard (enS false list))))))))))]]))))&&decide (length (deS Heard (lendRows (enS true (List.flatten (deS (List Heard) [[D.sl false 4 (lendRows (enS true (List.filter (keepB addr vlan) (deS Heard (lendRows (take (toNat (i0-0)) (enS true (deS Heard (enS false list)))))))))],[D.sl false 4 [[D.int i64 addr,D.int i64 vlan,D.int i64 port,D.int i64 (20)]]],[D.sl false 4 (lendRows (enS true (List.filter (keepB addr vlan) (deS Heard (lendRows (take (toNat (ofNat (length (enS true (deS Heard (enS false list))))-i0)) (drop (0+toNat i0) (enS true (deS Heard (enS false list))))))))))]])))))≤2097152)then bif !tableOk (deS Heard (lendRows (enS true (List.flatten (deS (List Heard) [[D.sl false 4 (lendRows (enS true (List.filter (keepB addr vlan) (deS Heard (lendRows (take (toNat (i0-0)) (enS true (deS Heard (enS false list)))))))))],[D.sl false 4 [[D.int i64 addr,D.int i64 vlan,D.int i64 port,D.int i64 (20)]]],[D.sl false 4 (lendRows (enS true (List.filter (keepB addr vlan) (deS Heard (lendRows (take (toNat (ofNat (length (enS true (deS Heard (enS false list))))-i0)) (drop (0+toNat i0) (enS true (deS Heard (enS false list))))))))))]])))))then bif isS Heard false (enS false list)&&decide (length (deS Heard (enS false list))≤4194304)then some ([[D.sl true 4 (enS true (deS Heard (enS false list)))]],[])else none else some ([[D.sl true 4 (enS true (List.flatten (deS (List Heard) [[D.sl false 4 (lendRows (enS true (List.filter (keepB addr vlan) (deS Heard (lendRows (take (toNat (i0-0)) (enS true (deS Heard (enS false list)))))))))],[D.sl false 4 [[D.int i64 addr,D.int i64 vlan,D.int i64 port,D.int i64 (20)]]],[D.sl false 4 (lendRows (enS true (List.filter (keepB addr vlan) (deS Heard (lendRows (take (toNat (ofNat (length (enS true (deS Heard (enS false list))))-i0)) (drop (0+toNat i0) (enS true (deS Heard (enS false list))))))))))]])))]],[])else none else none else none else none else none else none else none else none else none:=by kernel_rfl
def e68(list:List Heard)(addr:Int)(vlan:Int)(port:Int)(n:Nat):=evFn ⟨prog,Hx,68⟩ T115.call n f68 [zp13.row list,zp0.row addr,zp0.row vlan,zp0.row port]
theorem r68(list:List Heard)(addr:Int)(vlan:Int)(port:Int)(n:Nat):e68 list addr vlan port n=bif isS Heard false (enS false list)&&decide (length (deS Heard (enS false list))≤4194304)then loopRun (B68_0 n) 2 3591 17178822656 n (S68_0 list addr vlan port (0)) (k68_1 n)else none:=by kernel_rfl
set_option maxHeartbeats 1000000 in
theorem Ztn(list:List Heard)(addr vlan port:Int)(hlen:list.length≤1048576)(k:Nat)(hk:k≤list.length)(n':Nat):k68_1 n' (.exit 0) (X68_2 list addr vlan port (Int.ofNat k))=resA list addr vlan port k:=by
 unfold resA;have hl4:decide (list.length≤4194304)=true:=decide_eq_true (by omega)
 refine(Zst _ _ _ _ _ _).trans ?_;have e1:decide (0≤Int.ofNat k)=true:=decide_eq_true (Int.natCast_nonneg k);have e2:decide (Int.ofNat k≤Int.ofNat list.length)=true:=decide_eq_true (Int.ofNat_le.2 hk);have e3:(Int.ofNat k-0).toNat=k:=by show((k:Int)-0).toNat=k;omega
 have e4:(Int.ofNat list.length-Int.ofNat k).toNat=list.length-k:=by show((list.length:Int)-(k:Int)).toNat=_;omega
 have e5:decide (Int.ofNat list.length≤Int.ofNat list.length)=true:=decide_eq_true (Int.le_refl _);have e6:(list.drop k).take (list.length-k)=list.drop k:=List.take_of_length_le (by rw[List.length_drop];omega)
 have e7:decide ((list.take k).length≤1048576)=true:=decide_eq_true (by rw[List.length_take];omega)
 have e8:decide ((list.drop k).length≤1048576)=true:=decide_eq_true (by rw[List.length_drop];omega)
 simp only[Zad,Zaa,e1,e2,e3,e4,e5,Zm3,Zuv,e6,Zaf,Zak,e7,e8,Zal,Bool.and_self,cond_true,Zac,Nat.zero_add];generalize hF1:(list.take k).filter (keepB addr vlan)=F1;generalize hF2:(list.drop k).filter (keepB addr vlan)=F2;have l1:F1.length≤k:=by rw[←hF1];exact Nat.le_trans (List.length_filter_le ..) (by rw[List.length_take];omega)
 have l2:F2.length≤list.length-k:=by rw[←hF2];exact Nat.le_trans (List.length_filter_le ..) (by rw[List.length_drop];omega)
 have hc:hearAt list addr vlan port k=bif tableOk (F1++(⟨addr,vlan,port,20⟩::F2))then F1++(⟨addr,vlan,port,20⟩::F2)else list:=by
  unfold hearAt catAt;rw[hF1,hF2]
 rw[hc];have hs:([[D.sl false 4 (enS false F1)],[D.sl false 4 [[D.int .i64 addr,D.int .i64 vlan,D.int .i64 port,D.int .i64 20]]],[D.sl false 4 (enS false F2)]]:List (List D))=enS false [F1,[⟨addr,vlan,port,20⟩],F2]:=rfl;have hall:([F1,[⟨addr,vlan,port,20⟩],F2]:List (List Heard)).all (λx=>decide (x.length≤1048576))=true:=by
  simp only[List.all_cons,List.all_nil,Bool.and_true,Bool.and_eq_true,decide_eq_true_eq,List.length_singleton];omega
 have h3:decide (([F1,[⟨addr,vlan,port,20⟩],F2]:List (List Heard)).length≤16)=true:=rfl;have hfl:([F1,[⟨addr,vlan,port,20⟩],F2]:List (List Heard)).flatten=F1++(⟨addr,vlan,port,20⟩::F2):=by simp
 have hfl2:decide ((F1++(⟨addr,vlan,port,20⟩::F2):List Heard).length≤2097152)=true:=decide_eq_true (by simp;omega)
 simp only[hs,Zad,Zak,hall,h3,hfl,hfl2,hl4,Zaf,Zal,Bool.and_self,cond_true];cases tableOk (F1++(⟨addr,vlan,port,20⟩::F2))
 ·rfl
 ·rfl
theorem Zuz(list:List Heard)(addr vlan port:Int)(hlen:list.length≤1048576)(k:Nat)(hk:k≤list.length)(n':Nat):k68_1 n' (.exit 0) (X68_2 list addr vlan port (Int.ofNat k))=resA list addr vlan port k:=
 (Zst _ _ _ _ _ _).trans ((Zst _ _ _ _ _ _).symm.trans (Ztn list addr vlan port hlen k hk n'))
theorem m68(list:List Heard)(addr:Int)(vlan:Int)(port:Int):(o68 list addr vlan port).1=true→e68 list addr vlan port (list.length+1)=some (o68 list addr vlan port).2:=by
 refine pm λhpre=>(r68 list addr vlan port _).trans ?_;have hlen:=of_decide_eq_true hpre;have hl4:decide (list.length≤4194304)=true:=decide_eq_true (by omega)
 refine Zaj (by rw[Zad,Zak,hl4];rfl) ?_
 rw[Zuy];refine(Zai (xs:=list) (λi (_:Unit)=>S68_0 list addr vlan port (Int.ofNat i)) (λ_ _=>True) (λi _ rest=>resA list addr vlan port (i+(rest.takeWhile (λy=>aheadB y ⟨addr,vlan,port,20⟩)).length)) ?_ ?_ (list.length+1) () (by omega) trivial).trans (by rw[Nat.zero_add];rfl)
 ·rintro _ _ f;refine(Z1u list addr vlan port _ _ f _).trans ?_;delta y68_0;rw[Zad];rw[Zaw,cond_false];exact Ztn list addr vlan port hlen list.length (Nat.le_refl _) _
 ·rintro i _ hi _ f hf;refine(Z1u list addr vlan port _ _ f _).trans ?_;delta y68_0;rw[Zad];cases h1:aheadB list[i] ⟨addr,vlan,port,20⟩
  ·have hk:i+((list[i]::list.drop (i+1)).takeWhile (λy=>aheadB y ⟨addr,vlan,port,20⟩)).length=i:=by
    rw[List.takeWhile_cons_of_neg (p:=λy=>aheadB y ⟨addr,vlan,port,20⟩) (by rw[h1];decide)]
    rfl
   rw[hk];refine Zaj (Zaz true hi) (Zaj ?_ (Zaj ?_ (Za5 ?_ (Zuz list addr vlan port hlen i (by omega) _))))
   ·simp only[gos,En.enc,D.num,D.flag,D.text,D.rows,Leaf.fit,Zbo,Zab _ hi,hi,Zae (show i<4611686018427387904 by omega),beq_self_eq_true]
   ·simp only[gos,En.enc,D.num,D.flag,D.text,D.rows,Leaf.fit,Zbo,Zab _ hi,hi,Zae (show i<4611686018427387904 by omega),beq_self_eq_true]
   ·simp only[gos,En.enc,D.num,D.flag,D.text,D.rows,Leaf.fit,Zbo,Zab _ hi,hi,Zae (show i<4611686018427387904 by omega),h1]
  ·have hk:i+((list[i]::list.drop (i+1)).takeWhile (λy=>aheadB y ⟨addr,vlan,port,20⟩)).length=i+1+((list.drop (i+1)).takeWhile (λy=>aheadB y ⟨addr,vlan,port,20⟩)).length:=by
    rw[List.takeWhile_cons_of_pos (p:=λy=>aheadB y ⟨addr,vlan,port,20⟩) h1,List.length_cons];omega
   rw[hk];have h9:=hf () trivial;generalize hR:resA list addr vlan port (i+1+((list.drop (i+1)).takeWhile (λy=>aheadB y ⟨addr,vlan,port,20⟩)).length)=R at h9⊢;simp only[gos,En.enc,D.num,D.flag,D.text,D.rows,Leaf.fit,Zbo,Zab _ hi,hi,Zae (show i<4611686018427387904 by omega),h1,beq_self_eq_true]
   exact h9
def T68:Table:=(68,c68)::T115
theorem Zrw:Table.Sound prog Hx T68:=sa Zog func68 (by kernel_rfl) (Zah λlist=>Zah λaddr=>Zah λvlan=>Zah λport=>Zan λh=>⟨_,m68 list addr vlan port h⟩)
def o54(list:List Heard)(addr:Int)(vlan:Int)(port:Int):Bool×List Row×List Row:=(decide (list.length≤1048576),[[.sl true 4 (enS true (hearL list addr vlan port))]],[])
def c54:Contract:=(cp zp13 λlist=>cp zp0 λaddr=>cp zp0 λvlan=>cp zp0 λport=>c0 (o54 list addr vlan port)) true
def k54_0:KT:=λn↦kThen (λst↦rC 54 T68 n f54 [1,1,1,1,1] 256 [] 256 st (lV f54 [] [])) (lV f54 [] [])
def k54_1:KT:=λn↦kBlock (0) (k54_0 n)
def S54_0(list:List Heard)(addr:Int)(vlan:Int)(port:Int)(b0:Bool)(i1:Int)(es2:List (List D)):St:=St.mk (V_ [C.d (D.sl false 4 (enS false list))]::I_ addr::I_ vlan::u_ 6 (V_ [C.ptr 0 0 0 [] 4 0 0]::V_ [C.view 2 0 0 [] 4 none]::B_ b0::I_ i1::u_ 62 [])) [Root.mk true 4 [[D.int i64 addr,D.int i64 vlan,D.int i64 port,D.int i64 (20)]] 0 0 true true false [] 0 [],Root.mk false 4 [] 0 0 false true false [] 0 [],Root.mk false 4 es2 0 0 true true false [] 0 []]
def B54_0:BT:=λn↦rC 54 T68 n f54 [1,1,1,1,0,1,0,0] 7687 [(0,3585)] 256
def X54_2(list:List Heard)(addr:Int)(vlan:Int)(port:Int)(b0:Bool)(es2:List (List D)):St:=St.mk (V_ [C.d (D.sl false 4 (enS false list))]::u_ 8 (V_ [C.ptr 0 0 0 [] 4 0 0]::V_ [C.view 2 0 0 [] 4 none]::B_ b0::u_ 63 [])) [Root.mk true 4 [[D.int i64 addr,D.int i64 vlan,D.int i64 port,D.int i64 (20)]] 0 0 true true false [] 0 [],Root.mk false 4 [] 0 0 false true false [] 0 [],Root.mk false 4 es2 0 0 true true false [] 0 []]
def y54_0(i1:Int)(list:List Heard):=Leaf.fit false (Leaf.int i64) (getD (getD (enS false list) (toNat i1) []) 1 D.dead)&&(Leaf.fit false (Leaf.int i64) (getD (getD (enS false list) (toNat i1) []) 2 D.dead)&&(Leaf.fit false (Leaf.int i64) (getD (getD (enS false list) (toNat i1) []) 3 D.dead)&&true))
def y54_2(i1:Int)(list:List Heard):=getD (getD (enS false list) (toNat i1) []) 0 D.dead
def y54_1(addr:Int)(b0:Bool)(es2:List (List D))(i1:Int)(list:List Heard)(port:Int)(vlan:Int):=S54_0 list addr vlan port b0 (wrap i64 (i1+1)) (append es2 [[D.int i64 (D.num (y54_2 i1 list)),D.int i64 (D.num (getD (getD (enS false list) (toNat i1) []) 1 D.dead)),D.int i64 (D.num (getD (getD (enS false list) (toNat i1) []) 2 D.dead)),D.int i64 (D.num (getD (getD (enS false list) (toNat i1) []) 3 D.dead))]])
def y54_3(addr:Int)(es2:List (List D))(port:Int)(vlan:Int):=append es2 [[D.int i64 addr,D.int i64 vlan,D.int i64 port,D.int i64 (20)]]
def y54_4(addr:Int)(es2:List (List D))(i1:Int)(list:List Heard)(port:Int)(vlan:Int):=S54_0 list addr vlan port true (wrap i64 (i1+1)) (append (y54_3 addr es2 port vlan) [[D.int i64 (D.num (y54_2 i1 list)),D.int i64 (D.num (getD (getD (enS false list) (toNat i1) []) 1 D.dead)),D.int i64 (D.num (getD (getD (enS false list) (toNat i1) []) 2 D.dead)),D.int i64 (D.num (getD (getD (enS false list) (toNat i1) []) 3 D.dead))]])
def y54_5(i1:Int)(list:List Heard):=getD (drop 1 (getD (enS false list) (toNat i1) [])) 0 D.dead
theorem Z1l(list:List Heard)(addr:Int)(vlan:Int)(port:Int)(n:Nat)(b0:Bool)(i1:Int)(es2:List (List D))(f:St→RR)(K:Ex→St→RR):B54_0 n (S54_0 list addr vlan port b0 i1 es2) (kThen (λst↦f (St.head 2 7687 4611686018427132928 st)) K)=bif decide (i1<ofNat (length (enS false list)))then bif !b0 then bif decide (0≤i1)&&decide (i1<ofNat (length (enS false list)))then bif Leaf.fit false (Leaf.int i64) (y54_2 i1 list)&&(y54_0 i1 list)then bif !aheadB (Heard.mk (D.num (y54_2 i1 list)) (D.num (getD (getD (enS false list) (toNat i1) []) 1 D.dead)) (D.num (getD (getD (enS false list) (toNat i1) []) 2 D.dead)) (D.num (getD (getD (enS false list) (toNat i1) []) 3 D.dead))) (Heard.mk addr vlan port (20))then bif decide ((length es2+1)*32≤140737488355328)then bif decide (0≤i1)&&decide (i1<ofNat (length (enS false list)))then bif Leaf.fit false (Leaf.int i64) (y54_2 i1 list)&&true then bif D.num (y54_2 i1 list) !=addr then bif decide (0≤i1)&&decide (i1<ofNat (length (enS false list)))then bif Leaf.fit false (Leaf.int i64) (y54_2 i1 list)&&(y54_0 i1 list)then bif decide ((length (y54_3 addr es2 port vlan)+1)*32≤140737488355328)then f (y54_4 addr es2 i1 list port vlan)else none else none else none else bif decide (0≤i1)&&decide (i1<ofNat (length (enS false list)))then bif Leaf.fit false (Leaf.int i64) (y54_5 i1 list)&&true then bif D.num (y54_5 i1 list) !=vlan then bif decide (0≤i1)&&decide (i1<ofNat (length (enS false list)))then bif Leaf.fit false (Leaf.int i64) (y54_2 i1 list)&&(y54_0 i1 list)then bif decide ((length (y54_3 addr es2 port vlan)+1)*32≤140737488355328)then f (y54_4 addr es2 i1 list port vlan)else none else none else none else f (S54_0 list addr vlan port true (wrap i64 (i1+1)) (y54_3 addr es2 port vlan))else none else none else none else none else none else bif decide (0≤i1)&&decide (i1<ofNat (length (enS false list)))then bif Leaf.fit false (Leaf.int i64) (y54_2 i1 list)&&true then bif D.num (y54_2 i1 list) !=addr then bif decide (0≤i1)&&decide (i1<ofNat (length (enS false list)))then bif Leaf.fit false (Leaf.int i64) (y54_2 i1 list)&&(y54_0 i1 list)then bif decide ((length es2+1)*32≤140737488355328)then f (y54_1 addr b0 es2 i1 list port vlan)else none else none else none else bif decide (0≤i1)&&decide (i1<ofNat (length (enS false list)))then bif Leaf.fit false (Leaf.int i64) (y54_5 i1 list)&&true then bif D.num (y54_5 i1 list) !=vlan then bif decide (0≤i1)&&decide (i1<ofNat (length (enS false list)))then bif Leaf.fit false (Leaf.int i64) (y54_2 i1 list)&&(y54_0 i1 list)then bif decide ((length es2+1)*32≤140737488355328)then f (y54_1 addr b0 es2 i1 list port vlan)else none else none else none else f (S54_0 list addr vlan port b0 (wrap i64 (i1+1)) es2)else none else none else none else none else none else none else bif decide (0≤i1)&&decide (i1<ofNat (length (enS false list)))then bif Leaf.fit false (Leaf.int i64) (y54_2 i1 list)&&true then bif D.num (y54_2 i1 list) !=addr then bif decide (0≤i1)&&decide (i1<ofNat (length (enS false list)))then bif Leaf.fit false (Leaf.int i64) (y54_2 i1 list)&&(y54_0 i1 list)then bif decide ((length es2+1)*32≤140737488355328)then f (y54_1 addr b0 es2 i1 list port vlan)else none else none else none else bif decide (0≤i1)&&decide (i1<ofNat (length (enS false list)))then bif Leaf.fit false (Leaf.int i64) (y54_5 i1 list)&&true then bif D.num (y54_5 i1 list) !=vlan then bif decide (0≤i1)&&decide (i1<ofNat (length (enS false list)))then bif Leaf.fit false (Leaf.int i64) (y54_2 i1 list)&&(y54_0 i1 list)then bif decide ((length es2+1)*32≤140737488355328)then f (y54_1 addr b0 es2 i1 list port vlan)else none else none else none else f (S54_0 list addr vlan port b0 (wrap i64 (i1+1)) es2)else none else none else none else none else K (Ex.exit 0) (X54_2 list addr vlan port b0 es2):=by kernel_rfl
theorem Zza(list:List Heard)(addr:Int)(vlan:Int)(port:Int)(n:Nat)(b0:Bool)(es2:List (List D)):k54_1 n (Ex.exit 0) (X54_2 list addr vlan port b0 es2)=bif !b0 then bif decide ((length es2+1)*32≤140737488355328)then bif isS Heard false (lendRows (y54_3 addr es2 port vlan))&&decide (length (deS Heard (lendRows (y54_3 addr es2 port vlan)))≤2097152)then bif !tableOk (deS Heard (lendRows (y54_3 addr es2 port vlan)))then bif decide ((0+length (enS false list))*32≤140737488355328)then some ([[D.sl true 4 (enS false list)]],[])else none else some ([[D.sl true 4 (y54_3 addr es2 port vlan)]],[])else none else none else bif isS Heard false (lendRows es2)&&decide (length (deS Heard (lendRows es2))≤2097152)then bif !tableOk (deS Heard (lendRows es2))then bif decide ((0+length (enS false list))*32≤140737488355328)then some ([[D.sl true 4 (enS false list)]],[])else none else some ([[D.sl true 4 es2]],[])else none:=by kernel_rfl
def e54(list:List Heard)(addr:Int)(vlan:Int)(port:Int)(n:Nat):=evFn ⟨prog,Hx,54⟩ T68.call n f54 [zp13.row list,zp0.row addr,zp0.row vlan,zp0.row port]
theorem r54(list:List Heard)(addr:Int)(vlan:Int)(port:Int)(n:Nat):e54 list addr vlan port n=loopRun (B54_0 n) 2 7687 4611686018427132928 n (S54_0 list addr vlan port false (0) []) (k54_1 n):=by kernel_rfl
theorem Ztm(list r:List Heard)(hlen:list.length≤1048576)(hr:r.length≤2097152):(bif isS Heard false (lendRows (enS true r))&&decide (length (deS Heard (lendRows (enS true r)))≤2097152)then bif !tableOk (deS Heard (lendRows (enS true r)))then bif decide ((0+length (enS false list))*32≤140737488355328)then some ([[D.sl true 4 (enS false list)]],[])else none else some ([[D.sl true 4 (enS true r)]],[])else none:RR)=resH list r:=by
 unfold resH;have h1:decide (r.length≤2097152)=true:=decide_eq_true hr;have h2:decide ((0+list.length)*32≤140737488355328)=true:=decide_eq_true (by omega)
 simp only[Zaf,Zad,Zak,Zaa,h1,h2,Bool.and_self,cond_true];cases tableOk r<;>rfl
theorem Zxz(list:List Heard)(addr vlan port:Int)(hlen:list.length≤1048576)(d:Bool)(acc:List Heard)(ha:acc.length≤2097151)(n':Nat):k54_1 n' (.exit 0) (X54_2 list addr vlan port d (enS true acc))=resH list (acc++insB addr vlan port d []):=by
 refine(Zza _ _ _ _ _ _ _).trans ?_;delta y54_3;have e:List.append (enS true acc) [[D.int .i64 addr,D.int .i64 vlan,D.int .i64 port,D.int .i64 20]]=enS true (acc++[⟨addr,vlan,port,20⟩]):=by rw[Zce,Zgz];rfl
 have hr:decide ((acc.length+1)*32≤140737488355328)=true:=decide_eq_true (by omega)
 rw[e];cases d
 ·refine Zaj rfl (Zaj (by rw[Zaa];exact hr) ?_)
  exact Ztm list (acc++[⟨addr,vlan,port,20⟩]) hlen (by simp;omega)
 ·refine Za5 rfl ?_;have:=Ztm list acc hlen (by omega)
  rw[show acc++insB addr vlan port true []=acc from List.append_nil _];exact this
theorem m54(list:List Heard)(addr:Int)(vlan:Int)(port:Int):(o54 list addr vlan port).1=true→e54 list addr vlan port (list.length+1)=some (o54 list addr vlan port).2:=by
 refine pm λhpre=>(r54 list addr vlan port _).trans ?_;have hlen:=of_decide_eq_true hpre;have hm:(some ([[D.sl true 4 (enS true (hearL list addr vlan port))]],[]):RR)=resH list ([]++insB addr vlan port false list):=by
  rw[List.nil_append,Zlh];rfl
 refine Eq.trans ?_ hm.symm;refine Zai (xs:=list) (λi (a:Bool×List Heard)=>S54_0 list addr vlan port a.1 (Int.ofNat i) (enS true a.2)) (λi a=>a.2.length≤i+(bif a.1 then 1 else 0)) (λi a rest=>resH list (a.2++insB addr vlan port a.1 rest)) ?_ ?_ (list.length+1) (false,[]) (by omega) (Nat.le_refl _)
 ·rintro⟨d,acc⟩ hacc f;refine(Z1l list addr vlan port _ _ _ _ f _).trans ?_;delta y54_0 y54_1 y54_2 y54_3 y54_4 y54_5;rw[Zaw,cond_false];exact Zxz list addr vlan port hlen d acc (by have h:acc.length≤list.length+(bif d then 1 else 0):=hacc;cases d<;>simp at h<;>omega) _
 ·rintro i ⟨d,acc⟩ hi hacc f hf;have hacc:acc.length≤i+(bif d then 1 else 0):=hacc;have hacc2:acc.length≤i+1:=by cases d<;>simp at hacc<;>omega
  refine(Z1l list addr vlan port _ _ _ _ f _).trans ?_;delta y54_0 y54_1 y54_2 y54_3 y54_4 y54_5;have h1:decide ((acc.length+1)*32≤140737488355328)=true:=decide_eq_true (by omega)
  have h2:decide ((acc.length+1+1)*32≤140737488355328)=true:=decide_eq_true (by omega)
  have e:enS true acc++[[D.int .i64 addr,D.int .i64 vlan,D.int .i64 port,D.int .i64 20]]=enS true (acc++[⟨addr,vlan,port,20⟩]):=by rw[Zce,Zgz];rfl
  have e2:∀l:List Heard,enS true l++[[D.int .i64 list[i].Addr,D.int .i64 list[i].Vlan,D.int .i64 list[i].Port,D.int .i64 list[i].Left]]=enS true (l++[list[i]]):=λl=>by rw[Zce,Zgz];rfl
  have b1:(list[i].Addr !=addr)=!(list[i].Addr==addr):=rfl;have b2:(list[i].Vlan !=vlan)=!(list[i].Vlan==vlan):=rfl;have hk:keepB addr vlan list[i]=(!(list[i].Addr==addr)||!(list[i].Vlan==vlan)):=rfl;have step:∀(d':Bool) (acc':List Heard),d'=(d||!aheadB list[i] ⟨addr,vlan,port,20⟩)→acc'=acc++((bif !d&&!aheadB list[i] ⟨addr,vlan,port,20⟩then[⟨addr,vlan,port,20⟩]else[])++(bif keepB addr vlan list[i]then[list[i]]else[]))→f (S54_0 list addr vlan port d' (Int.ofNat (i+1)) (enS true acc'))=resH list (acc++insB addr vlan port d (list[i]::list.drop (i+1))):=by
   intro d' acc' hd ha;have hl:acc'.length≤i+1+(bif d' then 1 else 0):=by
    rw[ha,hd];cases d<;>cases aheadB list[i] ⟨addr,vlan,port,20⟩<;>cases keepB addr vlan list[i]<;>simp at hacc⊢<;>omega
   refine(hf (d',acc') hl).trans ?_;have hi2:acc++insB addr vlan port d (list[i]::list.drop (i+1))=acc'++insB addr vlan port d' (list.drop (i+1)):=by
    rw[ha,hd];show acc++(_++(_++_))=_;simp only[List.append_assoc]
   rw[hi2]
  show _=resH list (acc++insB addr vlan port d (list[i]::list.drop (i+1)));generalize hR:resH list (acc++insB addr vlan port d (list[i]::list.drop (i+1)))=R at step⊢;cases d
  ·cases g1:aheadB list[i] ⟨addr,vlan,port,20⟩
   ·cases g2:list[i].Addr==addr
    ·simp only[gos,En.enc,D.num,D.flag,D.text,D.rows,Leaf.fit,Zbo,Zab _ hi,hi,Zae (show i<4611686018427387904 by omega),h1,h2,e,e2,b1,b2,g1,g2,beq_self_eq_true,List.length_append,List.length_singleton,List.drop_succ_cons,List.drop_zero,List.length_cons,List.length_nil]
     exact step _ _ (by rw[g1];rfl) (by rw[g1,hk,g2];simp)
    ·cases g3:list[i].Vlan==vlan
     ·simp only[gos,En.enc,D.num,D.flag,D.text,D.rows,Leaf.fit,Zbo,Zab _ hi,hi,Zae (show i<4611686018427387904 by omega),h1,h2,e,e2,b1,b2,g1,g2,g3,beq_self_eq_true,List.length_append,List.length_singleton,List.drop_succ_cons,List.drop_zero,List.length_cons,List.length_nil]
      exact step _ _ (by rw[g1];rfl) (by rw[g1,hk,g2,g3];simp)
     ·simp only[gos,En.enc,D.num,D.flag,D.text,D.rows,Leaf.fit,Zbo,Zab _ hi,hi,Zae (show i<4611686018427387904 by omega),h1,h2,e,e2,b1,b2,g1,g2,g3,beq_self_eq_true,List.length_append,List.length_singleton,List.drop_succ_cons,List.drop_zero,List.length_cons,List.length_nil]
      exact step _ _ (by rw[g1];rfl) (by rw[g1,hk,g2,g3];simp)
   ·cases g2:list[i].Addr==addr
    ·simp only[gos,En.enc,D.num,D.flag,D.text,D.rows,Leaf.fit,Zbo,Zab _ hi,hi,Zae (show i<4611686018427387904 by omega),h1,h2,e,e2,b1,b2,g1,g2,beq_self_eq_true,List.drop_succ_cons,List.drop_zero]
     exact step _ _ (by rw[g1];rfl) (by rw[g1,hk,g2];simp)
    ·cases g3:list[i].Vlan==vlan
     ·simp only[gos,En.enc,D.num,D.flag,D.text,D.rows,Leaf.fit,Zbo,Zab _ hi,hi,Zae (show i<4611686018427387904 by omega),h1,h2,e,e2,b1,b2,g1,g2,g3,beq_self_eq_true,List.drop_succ_cons,List.drop_zero]
      exact step _ _ (by rw[g1];rfl) (by rw[g1,hk,g2,g3];simp)
     ·simp only[gos,En.enc,D.num,D.flag,D.text,D.rows,Leaf.fit,Zbo,Zab _ hi,hi,Zae (show i<4611686018427387904 by omega),h1,h2,e,e2,b1,b2,g1,g2,g3,beq_self_eq_true,List.drop_succ_cons,List.drop_zero]
      exact step _ _ (by rw[g1];rfl) (by rw[g1,hk,g2,g3];simp)
  ·cases g2:list[i].Addr==addr
   ·simp only[gos,En.enc,D.num,D.flag,D.text,D.rows,Leaf.fit,Zbo,Zab _ hi,hi,Zae (show i<4611686018427387904 by omega),h1,h2,e,e2,b1,b2,g2,beq_self_eq_true,List.drop_succ_cons,List.drop_zero]
    exact step _ _ rfl (by rw[hk,g2];simp)
   ·cases g3:list[i].Vlan==vlan
    ·simp only[gos,En.enc,D.num,D.flag,D.text,D.rows,Leaf.fit,Zbo,Zab _ hi,hi,Zae (show i<4611686018427387904 by omega),h1,h2,e,e2,b1,b2,g2,g3,beq_self_eq_true,List.drop_succ_cons,List.drop_zero]
     exact step _ _ rfl (by rw[hk,g2,g3];simp)
    ·simp only[gos,En.enc,D.num,D.flag,D.text,D.rows,Leaf.fit,Zbo,Zab _ hi,hi,Zae (show i<4611686018427387904 by omega),h1,h2,e,e2,b1,b2,g2,g3,beq_self_eq_true,List.drop_succ_cons,List.drop_zero]
     exact step _ _ rfl (by rw[hk,g2,g3];simp)
def T54:Table:=(54,c54)::T68
theorem Zri:Table.Sound prog Hx T54:=sa Zrw func54 (by kernel_rfl) (Zah λlist=>Zah λaddr=>Zah λvlan=>Zah λport=>Zan λh=>⟨_,m54 list addr vlan port h⟩)
end Go.Ev
end
