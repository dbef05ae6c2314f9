/- Contracts of functions, each by its evaluation. -/
import Derived.Test.YtihhlajibgoemaaGreatEvMd
import Derived.Test.YtihhlajibgoemaaGreatProg
import Derived.KernelRfl
import Derived.Test.YtihhlajibgoemaaGreatFFab2
set_option linter.unusedVariables false
set_option linter.unusedSimpArgs false
set_option maxRecDepth 100000
noncomputable section
open List (getD length drop take set append replicate all isEmpty)
open Int (toNat ofNat)
open Go.IntKind (i64 wrap)
open Go.Proofs.Tryz (prog f102 f103 f135 f59 func102 func103 func135 func59)
namespace Go.Ev
open Go.RowKit Go.Md
def o135(s:List Port):Bool×List Row×List Row:=(decide (s.length≤1048576),[[.sl true 11 (enS true (s))]],[])
def c135:Contract:=(cp zp6 λs=>c0 (o135 s)) true
def e135(s:List Port)(n:Nat):=evFn ⟨prog,Hx,135⟩ T22.call n f135 [zp6.row s]
theorem r135(s:List Port)(n:Nat):e135 s n=bif isEmpty (enS false s)then both (some ([[D.sl true 11 []]],[])) (bif decide ((0+length (enS false s))*80≤140737488355328)then some ([[D.sl true 11 (enS false s)]],[])else none)else bif decide ((0+length (enS false s))*80≤140737488355328)then some ([[D.sl true 11 (enS false s)]],[])else none:=by kernel_rfl
theorem m135(s:List Port):(o135 s).1=true→e135 s 0=some (o135 s).2:=by
 refine pm λhpre=>(r135 s _).trans ?_;have hlen:=of_decide_eq_true hpre;have h1:decide ((0+s.length)*80≤140737488355328)=true:=decide_eq_true (by omega)
 simp only[Zaa,h1,cond_true];cases s with
 |nil=>
  rw[show List.isEmpty (enS false ([]:List Port))=true from rfl,cond_true];exact Zds _
 |cons x xs=>rfl
def T135:Table:=(135,c135)::T22
theorem Zo0:Table.Sound prog Hx T135:=sa Zqm func135 (by kernel_rfl) (Zah λs=>Zan λh=>⟨_,m135 s h⟩)
def o103(b:Bridge):Bool×List Row×List Row:=(decide (b.Ports.length≤1048576),[[.int .i64 (b).Id,.sl true 11 (enS true (b).Ports)]],[])
def c103:Contract:=(cp zp4 λb=>c0 (o103 b)) true
def e103(b:Bridge)(n:Nat):=evFn ⟨prog,Hx,103⟩ T135.call n f103 [zp4.row b]
theorem r103(b:Bridge)(n:Nat):e103 b n=bif isS Port false (enS false (Bridge.Ports b))&&decide (length (deS Port (enS false (Bridge.Ports b)))≤1048576)then some ([[D.int i64 (Bridge.Id b),D.sl true 11 (enS true (deS Port (enS false (Bridge.Ports b))))]],[])else none:=by kernel_rfl
theorem m103(b:Bridge):(o103 b).1=true→e103 b 0=some (o103 b).2:=by
 refine pm λhpre=>(r103 b _).trans ?_;simp only[Zak,Zad,hpre,Bool.and_self,cond_true]
def T103:Table:=(103,c103)::T135
theorem Zn4:Table.Sound prog Hx T103:=sa Zo0 func103 (by kernel_rfl) (Zah λb=>Zan λh=>⟨_,m103 b h⟩)
def o102(s:List Link):Bool×List Row×List Row:=(decide (s.length≤1048576),[[.sl true 4 (enS true (s))]],[])
def c102:Contract:=(cp zp17 λs=>c0 (o102 s)) true
def e102(s:List Link)(n:Nat):=evFn ⟨prog,Hx,102⟩ T103.call n f102 [zp17.row s]
theorem r102(s:List Link)(n:Nat):e102 s n=bif isEmpty (enS false s)then both (some ([[D.sl true 4 []]],[])) (bif decide ((0+length (enS false s))*32≤140737488355328)then some ([[D.sl true 4 (enS false s)]],[])else none)else bif decide ((0+length (enS false s))*32≤140737488355328)then some ([[D.sl true 4 (enS false s)]],[])else none:=by kernel_rfl
theorem m102(s:List Link):(o102 s).1=true→e102 s 0=some (o102 s).2:=by
 refine pm λhpre=>(r102 s _).trans ?_;have hlen:=of_decide_eq_true hpre;have h1:decide ((0+s.length)*32≤140737488355328)=true:=decide_eq_true (by omega)
 simp only[Zaa,h1,cond_true];cases s with
 |nil=>
  rw[show List.isEmpty (enS false ([]:List Link))=true from rfl,cond_true];exact Zds _
 |cons x xs=>rfl
def T102:Table:=(102,c102)::T103
theorem Zn3:Table.Sound prog Hx T102:=sa Zn4 func102 (by kernel_rfl) (Zah λs=>Zan λh=>⟨_,m102 s h⟩)
def o59(n_:Net):Bool×List Row×List Row:=(Net.small n_,[[.sl true 2 (enS true (n_).Bridges),.sl true 4 (enS true (n_).Links)]],[])
def c59:Contract:=(cp zp18 λn_=>c0 (o59 n_)) true
def k59_0:KT:=λn↦kThen (λst↦rC 59 T102 n f59 [1,1,1] 4 [] 4 st (lV f59 [] [])) (lV f59 [] [])
def k59_1:KT:=λn↦kBlock (0) (k59_0 n)
def y59_1(n_:Net):=enS true (deS Link (enS false (Net.Links n_)))
def S59_0(n_:Net)(i0:Int)(es1:List (List D)):St:=St.mk (U_::U_::V_ [C.ptr 1 0 0 [] 2 0 0]::V_ [C.ptr 3 0 0 [] 2 0 0]::u_ 7 (V_ [C.d (D.sl false 2 (enS false (Net.Bridges n_)))]::I_ (ofNat (length (enS false (Net.Bridges n_))))::I_ i0::u_ 12 [])) [Root.mk true 2 [En.enc false n_] 0 0 true true false [] 0 [],Root.mk true 2 [[D.sl true 2 [],D.sl true 4 []]] 0 0 true true false [] 0 [],Root.mk false 4 (y59_1 n_) 0 0 false true false [] 0 [],Root.mk true 2 [[D.sl true 2 es1,D.sl true 4 (y59_1 n_)]] 0 0 true true false [] 0 []]
def B59_0:BT:=λn↦rC 59 T102 n f59 [1,1,0,1,0,0] 14348 [(0,12)] 4
def X59_2(n_:Net)(es1:List (List D)):St:=St.mk (U_::U_::V_ [C.ptr 1 0 0 [] 2 0 0]::V_ [C.ptr 3 0 0 [] 2 0 0]::u_ 22 []) [Root.mk true 2 [En.enc false n_] 0 0 true true false [] 0 [],Root.mk true 2 [[D.sl true 2 [],D.sl true 4 []]] 0 0 true true false [] 0 [],Root.mk false 4 (y59_1 n_) 0 0 false true false [] 0 [],Root.mk true 2 [[D.sl true 2 es1,D.sl true 4 (y59_1 n_)]] 0 0 true true false [] 0 []]
def y59_0(i0:Int)(n_:Net):=getD (enS false (Net.Bridges n_)) (toNat i0) []
theorem Z1o(n_:Net)(n:Nat)(i0:Int)(es1:List (List D))(f:St→RR)(K:Ex→St→RR):B59_0 n (S59_0 n_ i0 es1) (kThen (λst↦f (St.head 4 14348 33546272 st)) K)=bif decide (i0<ofNat (length (enS false (Net.Bridges n_))))then bif decide (0≤i0)&&decide (i0<ofNat (length (enS false (Net.Bridges n_))))then bif Leaf.fit false (Leaf.int i64) (getD (y59_0 i0 n_) 0 D.dead)&&(Leaf.fit false (Leaf.sl 11 true) (getD (y59_0 i0 n_) 1 D.dead)&&true)then bif isS Port false (D.rows (getD (y59_0 i0 n_) 1 D.dead))&&decide (length (deS Port (D.rows (getD (y59_0 i0 n_) 1 D.dead)))≤1048576)then bif decide ((length es1+1)*32≤140737488355328)then f (S59_0 n_ (wrap i64 (i0+1)) (append es1 [[D.int i64 (D.num (getD (y59_0 i0 n_) 0 D.dead)),D.sl true 11 (enS true (deS Port (D.rows (getD (y59_0 i0 n_) 1 D.dead))))]]))else none else none else none else none else K (Ex.exit 0) (X59_2 n_ es1):=by kernel_rfl
theorem Zzd(n_:Net)(n:Nat)(es1:List (List D)):k59_1 n (Ex.exit 0) (X59_2 n_ es1)=some ([[D.sl true 2 es1,D.sl true 4 (y59_1 n_)]],[]):=by kernel_rfl
def e59(n_:Net)(n:Nat):=evFn ⟨prog,Hx,59⟩ T102.call n f59 [zp18.row n_]
theorem r59(n_:Net)(n:Nat):e59 n_ n=bif isS Link false (enS false (Net.Links n_))&&decide (length (deS Link (enS false (Net.Links n_)))≤1048576)then loopRun (B59_0 n) 4 14348 33546272 n (S59_0 n_ (0) []) (k59_1 n)else none:=by kernel_rfl
theorem m59(n_:Net):(o59 n_).1=true→e59 n_ (n_.Bridges.length+1)=some (o59 n_).2:=by
 refine pm λhpre=>(r59 n_ _).trans ?_;obtain⟨hs1,hs2,hs3⟩:=Zbg hpre;refine Zaj (by rw[Zak,Zad,decide_eq_true hs3];rfl) ?_
 refine Zai (xs:=n_.Bridges) (λi (bs:List Bridge)=>S59_0 n_ (Int.ofNat i) (enS true bs)) (λi bs=>bs=n_.Bridges.take i) (λ_ _ _=>some ([[D.sl true 2 (enS true n_.Bridges),D.sl true 4 (enS true n_.Links)]],[])) ?_ ?_ (n_.Bridges.length+1) [] (by omega) rfl
 ·rintro bs rfl f;refine(Z1o n_ _ _ _ f _).trans ?_;delta y59_0;rw[Zaw,cond_false];refine(Zzd _ _ _).trans ?_;delta y59_1;rw[List.take_length,Zad]
 ·rintro i bs hi hbs f hf;have hpl:=hs2 _ (List.getElem_mem hi);have hbl:bs.length≤i:=by rw[hbs,List.length_take];omega
  refine(Z1o n_ _ _ _ f _).trans ?_;delta y59_0;refine Zaj (Zaz false hi) (Zaj (by rw[Zaz false hi,Zaq];rfl) (Zaj (by rw[Zac,Zab false hi];rfl) (Zaj (by rw[Zac,Zab false hi];show(isS Port false (enS false n_.Bridges[i].Ports)&&decide (List.length (deS Port (enS false n_.Bridges[i].Ports))≤1048576))=true;rw[Zak,Zad,decide_eq_true hpl];rfl) (Zaj (decide_eq_true (by rw[Zaa];omega)) ?_))))
  rw[Zac,Zab false hi,Zae (show i<4611686018427387904 by omega)]
  have e:List.append (enS true bs) [[D.int .i64 (D.num (List.getD (En.enc false n_.Bridges[i]) 0 D.dead)),D.sl true 11 (enS true (deS Port (D.rows (List.getD (En.enc false n_.Bridges[i]) 1 D.dead))))]]=enS true (bs++[n_.Bridges[i]]):=by
   show List.append (enS true bs) [[D.int .i64 n_.Bridges[i].Id,D.sl true 11 (enS true (deS Port (enS false n_.Bridges[i].Ports)))]]=_;rw[Zad];exact Zba true bs n_.Bridges[i]
  rw[e];exact hf _ (by rw[hbs,List.take_append_getElem])
def T59:Table:=(59,c59)::T102
theorem Zrn:Table.Sound prog Hx T59:=sa Zn3 func59 (by kernel_rfl) (Zah λn_=>Zan λh=>⟨_,m59 n_ h⟩)
end Go.Ev
end
