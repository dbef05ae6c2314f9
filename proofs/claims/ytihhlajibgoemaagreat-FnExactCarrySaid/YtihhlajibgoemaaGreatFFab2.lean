/- Contracts of functions, each by its evaluation. -/
import Derived.Test.YtihhlajibgoemaaGreatEvMd
import Derived.Test.YtihhlajibgoemaaGreatProg
import Derived.KernelRfl
import Derived.Test.YtihhlajibgoemaaGreatFNet2
set_option linter.unusedVariables false
set_option linter.unusedSimpArgs false
set_option maxRecDepth 100000
noncomputable section
open List (getD length drop take set append replicate all isEmpty)
open Int (toNat ofNat)
open Go.IntKind (i64 wrap)
open Go.Proofs.Tryz (prog f22 f32 f48 f50 f61 f89 func22 func32 func48 func50 func61 func89)
namespace Go.Ev
open Go.RowKit Go.Md
end Go.Ev
namespace Go.Md
open Go Go.Ev
def hostsL(ls:List Link):Bool:=ls.all (λl=>!(l.P==3)&&!(l.Q==3))
def hostsB(n:Net):Bool:=hostsL n.Links&&netOk n
def fabL:List Card→List Bridge→Bool
 |[],_=>true
 |_::_,[]=>false
 |c::cs,b::bs=>cardOk c&&(decide (c.Open=opensL b)&&fabL cs bs)
def fabOk(f:Fabric):Bool:=hostsB f.Net&&(decide (f.Cards.length=f.Net.Bridges.length)&&fabL f.Cards f.Net.Bridges)
def fabN(n:Net):Fabric:=bif hostsB n then⟨n,n.Bridges.map cardB⟩else⟨⟨[],[]⟩,[]⟩
theorem Zvq:∀(u bs:List Bridge),idsB u bs=true→∀b∈bs,bridgeOk b=true
 |_,[],_,b,hb=>by cases hb
 |u,c::bs,h,b,hb=>by
  rw[Zke]at h;simp only[Bool.and_eq_true]at h;rcases List.mem_cons.1 hb with h1|h1
  ·rw[h1];exact h.1
  ·exact Zvq _ bs h.2.2 b h1
theorem Zx3{b:Bridge}(h:bridgeOk b=true):b.Ports.length≤4:=by
 unfold bridgeOk inR at h;simp only[Bool.and_eq_true,decide_eq_true_eq]at h;omega
theorem Znj{n:Net}(h:netOk n=true):∀b∈n.Bridges,b.Ports.length≤4:=by
 unfold netOk at h;rw[Bool.and_eq_true]at h;exact λb hb=>Zx3 (Zvq _ _ h.1 b hb)
theorem Zjj(l:Link)(ls:List Link):hostsL (l::ls)=((!(l.P==3)&&!(l.Q==3))&&hostsL ls):=rfl
theorem Zh2(c:Card)(cs:List Card)(b:Bridge)(bs:List Bridge):fabL (c::cs) (b::bs)=(cardOk c&&(decide (c.Open=opensL b)&&fabL cs bs)):=rfl
theorem nsm{n:Net}(h:Net.small n=true):(Go.Ev.isS Bridge false (Go.Ev.enS false n.Bridges)&&Go.Ev.isS Link false (Go.Ev.enS false n.Links)&&Net.small (Net.mk (Go.Ev.deS Bridge (Go.Ev.enS false n.Bridges)) (Go.Ev.deS Link (Go.Ev.enS false n.Links))))=true:=by
 rw[Go.Ev.Zak,Go.Ev.Zak,Go.Ev.Zad,Go.Ev.Zad];exact h
theorem Zkk(n:Net):Net.mk (Go.Ev.deS Bridge (Go.Ev.enS false n.Bridges)) (Go.Ev.deS Link (Go.Ev.enS false n.Links))=n:=by
 rw[Go.Ev.Zad,Go.Ev.Zad]
def fabT(n:Net)(cs:List Card)(o:Bool):Go.Ev.RR:=some ([[D.sl true 2 (Go.Ev.enS true n.Bridges),D.sl true 4 (Go.Ev.enS true n.Links),D.sl true 3 (Go.Ev.enS true cs)],[D.bool o]],[])
theorem Ztb{n:Net}(h:hostsB n=false):fabT (fabN n).Net (fabN n).Cards (hostsB n)=fabT ⟨[],[]⟩ [] false:=by unfold fabN;rw[h];rfl
theorem Zuw{n:Net}(h:hostsB n=true):fabT (fabN n).Net (fabN n).Cards (hostsB n)=fabT n (n.Bridges.map cardB) true:=by unfold fabN;rw[h];rfl
end Go.Md
namespace Go.Ev
open Go.Md
def o61(n_:Net):Bool×List Row×List Row:=(Net.small n_,[[.bool (hostsB n_)]],[])
def c61:Contract:=(cp zp18 λn_=>c0 (o61 n_)) true
def k61_0:KT:=λn↦kThen (λst↦rC 61 T90 n f61 [1,1] 4 [] 4 st (lV f61 [] [])) (lV f61 [] [])
def k61_1:KT:=λn↦kBlock (0) (k61_0 n)
def S61_0(n_:Net)(i0:Int):St:=St.mk (U_::V_ [C.ptr 0 0 0 [] 2 0 0]::u_ 4 (V_ [C.d (D.sl false 4 (enS false (Net.Links n_)))]::I_ (ofNat (length (enS false (Net.Links n_))))::I_ i0::u_ 14 [])) [Root.mk true 2 [En.enc false n_] 0 0 true true false [] 0 []]
def B61_0:BT:=λn↦rC 61 T90 n f61 [1,0,1,0,0] 450 [(0,2)] 4
def y61_0(i0:Int)(n_:Net):=getD (enS false (Net.Links n_)) (toNat i0) []
def X61_2(n_:Net)(i0:Int):St:=St.mk (U_::U_::B_ false::u_ 20 []) [Root.mk true 2 [En.enc false n_] 0 0 true true false [] 0 [],Root.mk true 4 [[D.int i64 (D.num (getD (y61_0 i0 n_) 0 D.dead)),D.int i64 (D.num (getD (y61_0 i0 n_) 1 D.dead)),D.int i64 (D.num (getD (y61_0 i0 n_) 2 D.dead)),D.int i64 (D.num (getD (y61_0 i0 n_) 3 D.dead))]] 0 0 true true false [] 0 []]
def X61_4(n_:Net):St:=St.mk (U_::V_ [C.ptr 0 0 0 [] 2 0 0]::u_ 21 []) [Root.mk true 2 [En.enc false n_] 0 0 true true false [] 0 []]
theorem Z1q(n_:Net)(n:Nat)(i0:Int)(f:St→RR)(K:Ex→St→RR):B61_0 n (S61_0 n_ i0) (kThen (λst↦f (St.head 1 450 2096916 st)) K)=bif decide (i0<ofNat (length (enS false (Net.Links n_))))then bif decide (0≤i0)&&decide (i0<ofNat (length (enS false (Net.Links n_))))then bif Leaf.fit false (Leaf.int i64) (getD (y61_0 i0 n_) 0 D.dead)&&(Leaf.fit false (Leaf.int i64) (getD (y61_0 i0 n_) 1 D.dead)&&(Leaf.fit false (Leaf.int i64) (getD (y61_0 i0 n_) 2 D.dead)&&(Leaf.fit false (Leaf.int i64) (getD (y61_0 i0 n_) 3 D.dead)&&true)))then bif D.num (getD (y61_0 i0 n_) 1 D.dead)==3 then K Ex.ret (X61_2 n_ i0)else bif D.num (getD (y61_0 i0 n_) 3 D.dead)==3 then K Ex.ret (X61_2 n_ i0)else f (S61_0 n_ (wrap i64 (i0+1)))else none else none else K (Ex.exit 0) (X61_4 n_):=by kernel_rfl
theorem Zvm(n_:Net)(n:Nat)(i0:Int):k61_1 n Ex.ret (X61_2 n_ i0)=some ([[D.bool false]],[]):=by kernel_rfl
theorem Zzf(n_:Net)(n:Nat):k61_1 n (Ex.exit 0) (X61_4 n_)=bif isS Bridge false (enS false (Net.Bridges n_))&&isS Link false (enS false (Net.Links n_))&&Net.small (Net.mk (deS Bridge (enS false (Net.Bridges n_))) (deS Link (enS false (Net.Links n_))))then some ([[D.bool (netOk (Net.mk (deS Bridge (enS false (Net.Bridges n_))) (deS Link (enS false (Net.Links n_)))))]],[])else none:=by kernel_rfl
def e61(n_:Net)(n:Nat):=evFn ⟨prog,Hx,61⟩ T90.call n f61 [zp18.row n_]
theorem r61(n_:Net)(n:Nat):e61 n_ n=loopRun (B61_0 n) 1 450 2096916 n (S61_0 n_ (0)) (k61_1 n):=by kernel_rfl
theorem m61(n_:Net):(o61 n_).1=true→e61 n_ (n_.Links.length+1)=some (o61 n_).2:=by
 refine pm λhpre=>(r61 n_ _).trans ?_;obtain⟨hs1,hs2,hs3⟩:=Zbg hpre;unfold hostsB;refine Zai (xs:=n_.Links) (λi (_:Unit)=>S61_0 n_ (Int.ofNat i)) (λ_ _=>True) (λ_ _ rest=>some ([[D.bool (hostsL rest&&netOk n_)]],[])) ?_ ?_ (n_.Links.length+1) () (by omega) trivial
 ·rintro _ _ f;refine(Z1q n_ _ _ f _).trans ?_;delta y61_0;rw[Zaw,cond_false];refine(Zzf _ _).trans ?_;refine Zaj (nsm hpre) ?_;rw[Zkk];rfl
 ·rintro i _ hi _ f hf;refine(Z1q n_ _ _ f _).trans ?_;delta y61_0;refine Zaj (Zaz false hi) (Zaj (by rw[Zaz false hi,Zaq];rfl) (Zaj (by rw[Zac,Zab false hi];rfl) ?_))
  rw[Zac,Zab false hi,Zae (show i<4611686018427387904 by omega),Zjj]
  cases h1:n_.Links[i].P==3
  case true=>
   refine Zaj h1 ?_;exact Zvm _ _ _
  refine Za5 h1 ?_;cases h2:n_.Links[i].Q==3
  case true=>
   refine Zaj h2 ?_;exact Zvm _ _ _
  refine Za5 h2 ?_;exact hf () trivial
def T61:Table:=(61,c61)::T90
theorem Zrp:Table.Sound prog Hx T61:=sa Zsi func61 (by kernel_rfl) (Zah λn_=>Zan λh=>⟨_,m61 n_ h⟩)
def o32(f:Fabric):Bool×List Row×List Row:=(Fabric.small f,[[.bool (fabOk f)]],[])
def c32:Contract:=(cp zp19 λf=>c0 (o32 f)) true
def k32_0:KT:=λn↦kThen (λst↦rC 32 T61 n f32 [1,1,1] 4 [] 4 st (lV f32 [] [])) (lV f32 [] [])
def k32_1:KT:=λn↦kBlock (0) (k32_0 n)
def S32_0(f:Fabric)(i0:Int):St:=St.mk (U_::V_ [C.ptr 0 0 0 [] 3 0 0]::u_ 18 (V_ [C.d (D.sl false 3 (enS false (Fabric.Cards f)))]::I_ (ofNat (length (enS false (Fabric.Cards f))))::I_ i0::u_ 21 [])) [Root.mk true 3 [En.enc false f] 0 0 true true false [] 0 []]
def B32_0:BT:=λn↦rC 32 T61 n f32 [1,1,0,1,0,0] 7340034 [(0,0)] 4
def y32_0(f:Fabric)(i0:Int):=getD (enS false (Fabric.Cards f)) (toNat i0) []
def X32_2(f:Fabric)(i0:Int):St:=St.mk (U_::U_::B_ false::u_ 41 []) [Root.mk true 3 [En.enc false f] 0 0 true true false [] 0 [],Root.mk true 3 [[D.sl false 1 (D.rows (getD (y32_0 f i0) 0 D.dead)),D.sl false 2 (D.rows (getD (y32_0 f i0) 1 D.dead)),D.sl false 4 (D.rows (getD (y32_0 f i0) 2 D.dead))]] 0 1 true true false [(0,1),(1,1),(2,1)] 0 []]
def y32_1(f:Fabric):=enS false (Net.Bridges (Fabric.Net f))
def X32_3(f:Fabric)(i0:Int):St:=St.mk (U_::U_::B_ false::u_ 41 []) [Root.mk true 3 [En.enc false f] 0 0 true true false [] 0 [],Root.mk true 3 [[D.sl false 1 (D.rows (getD (y32_0 f i0) 0 D.dead)),D.sl false 2 (D.rows (getD (y32_0 f i0) 1 D.dead)),D.sl false 4 (D.rows (getD (y32_0 f i0) 2 D.dead))]] 0 1 true true false [(0,1),(1,1),(2,1)] 0 [],Root.mk false 1 (enS true (opensL (En.dec (getD (y32_1 f) (toNat i0) [])))) 0 0 true true false [] 0 []]
def X32_4(f:Fabric):St:=St.mk (u_ 44 []) [Root.mk true 3 [En.enc false f] 0 0 true true false [] 0 []]
theorem Z05(f:Fabric)(n:Nat)(i0:Int)(f_:St→RR)(K:Ex→St→RR):B32_0 n (S32_0 f i0) (kThen (λst↦f_ (St.head 1 7340034 17592181850140 st)) K)=bif decide (i0<ofNat (length (enS false (Fabric.Cards f))))then bif decide (0≤i0)&&decide (i0<ofNat (length (enS false (Fabric.Cards f))))then bif Leaf.fit false (Leaf.sl 1 true) (getD (y32_0 f i0) 0 D.dead)&&(Leaf.fit false (Leaf.sl 2 false) (getD (y32_0 f i0) 1 D.dead)&&(Leaf.fit false (Leaf.sl 4 true) (getD (y32_0 f i0) 2 D.dead)&&true))then bif isS Bool false (D.rows (getD (y32_0 f i0) 0 D.dead))&&isS Member false (D.rows (getD (y32_0 f i0) 1 D.dead))&&isS Heard false (D.rows (getD (y32_0 f i0) 2 D.dead))&&Card.small (En.dec (y32_0 f i0))then bif !cardOk (En.dec (y32_0 f i0))then K Ex.ret (X32_2 f i0)else bif decide (0≤i0)&&decide (i0<ofNat (length (y32_1 f)))then bif Leaf.fit false (Leaf.int i64) (getD (getD (y32_1 f) (toNat i0) []) 0 D.dead)&&(Leaf.fit false (Leaf.sl 11 true) (getD (getD (y32_1 f) (toNat i0) []) 1 D.dead)&&true)then bif isS Port false (D.rows (getD (getD (y32_1 f) (toNat i0) []) 1 D.dead))&&decide (length (deS Port (D.rows (getD (getD (y32_1 f) (toNat i0) []) 1 D.dead)))≤4)then bif isS Bool false (D.rows (getD (y32_0 f i0) 0 D.dead))&&isS Bool false (lendRows (enS true (opensL (En.dec (getD (y32_1 f) (toNat i0) [])))))&&decide (length (deS Bool (D.rows (getD (y32_0 f i0) 0 D.dead)))≤1048576)then bif !decide (deS Bool (D.rows (getD (y32_0 f i0) 0 D.dead))=deS Bool (lendRows (enS true (opensL (En.dec (getD (y32_1 f) (toNat i0) []))))))then K Ex.ret (X32_3 f i0)else f_ (S32_0 f (wrap i64 (i0+1)))else none else none else none else none else none else none else none else K (Ex.exit 0) (X32_4 f):=by kernel_rfl
theorem Zyr(f:Fabric)(n:Nat)(i0:Int):k32_1 n Ex.ret (X32_2 f i0)=some ([[D.bool false]],[]):=by kernel_rfl
theorem Zys(f:Fabric)(n:Nat)(i0:Int):k32_1 n Ex.ret (X32_3 f i0)=some ([[D.bool false]],[]):=by kernel_rfl
theorem Zyt(f:Fabric)(n:Nat):k32_1 n (Ex.exit 0) (X32_4 f)=some ([[D.bool true]],[]):=by kernel_rfl
def e32(f:Fabric)(n:Nat):=evFn ⟨prog,Hx,32⟩ T61.call n f32 [zp19.row f]
theorem r32(f:Fabric)(n:Nat):e32 f n=bif isS Bridge false (y32_1 f)&&isS Link false (enS false (Net.Links (Fabric.Net f)))&&Net.small (Net.mk (deS Bridge (y32_1 f)) (deS Link (enS false (Net.Links (Fabric.Net f)))))then bif !hostsB (Net.mk (deS Bridge (y32_1 f)) (deS Link (enS false (Net.Links (Fabric.Net f)))))then some ([[D.bool false]],[])else bif ofNat (length (enS false (Fabric.Cards f))) !=ofNat (length (y32_1 f))then some ([[D.bool false]],[])else loopRun (B32_0 n) 1 7340034 17592181850140 n (S32_0 f (0)) (k32_1 n)else none:=by kernel_rfl
theorem m32(f:Fabric):(o32 f).1=true→e32 f (f.Cards.length+1)=some (o32 f).2:=by
 refine pm λhpre=>(r32 f _).trans ?_;delta y32_1;obtain⟨hn,hc,hcs⟩:=Zdt hpre;obtain⟨hs1,hs2,hs3⟩:=Zbg hn;refine Zaj (nsm hn) ?_;rw[Zkk];show _=some ([[D.bool (hostsB f.Net&&(decide (f.Cards.length=f.Net.Bridges.length)&&fabL f.Cards f.Net.Bridges))]],[]);cases hh:hostsB f.Net
 ·rfl
 simp only[Zaa,bne,Zg6];cases hd:decide (f.Cards.length=f.Net.Bridges.length)
 ·rfl
 have hl:=of_decide_eq_true hd;have h4:∀b∈f.Net.Bridges,b.Ports.length≤4:=Znj (by unfold hostsB at hh;rw[Bool.and_eq_true]at hh;exact hh.2)
 refine Za5 rfl (Za5 rfl ?_);refine Zai (xs:=f.Cards) (λi (_:Unit)=>S32_0 f (Int.ofNat i)) (λ_ _=>True) (λi _ rest=>some ([[D.bool (fabL rest (f.Net.Bridges.drop i))]],[])) ?_ ?_ (f.Cards.length+1) () (by omega) trivial
 ·rintro _ _ f_;refine(Z05 f _ _ f_ _).trans ?_;delta y32_0 y32_1;rw[Zaw,cond_false];exact Zyt _ _
 ·rintro i _ hi _ f_ hf;have hj:i<f.Net.Bridges.length:=by omega
  have hcm:=hcs _ (List.getElem_mem hi);have hb4:=h4 _ (List.getElem_mem hj);have hco:=(Zcm hcm).1;refine(Z05 f _ _ f_ _).trans ?_;delta y32_0 y32_1;rw[List.drop_eq_getElem_cons hj,Zh2];refine Zaj (Zaz false hi) (Zaj (by rw[Zaz false hi,Zaq];rfl) (Zaj (by rw[Zac,Zab false hi];rfl) (Zaj (by rw[Zac,Zab false hi,En.dec_enc,hcm,Bool.and_true];show(isS Bool false (enS false f.Cards[i].Open)&&isS Member false (enS false f.Cards[i].Members)&&isS Heard false (enS false f.Cards[i].Table))=true;rw[Zak,Zak,Zak];rfl) ?_)))
  rw[Zac,Zab false hi,Zab false hj,En.dec_enc,En.dec_enc,Zae (show i<4611686018427387904 by omega)]
  cases h1:cardOk f.Cards[i]
  ·refine Zaj rfl ?_;exact Zyr _ _ _
  refine Za5 rfl (Zaj (by rw[Zaz false hj,Zaq];rfl) (Zaj rfl (Zaj (by show(isS Port false (enS false f.Net.Bridges[i].Ports)&&decide (List.length (deS Port (enS false f.Net.Bridges[i].Ports))≤4))=true;rw[Zak,Zad,decide_eq_true hb4];rfl) (Zaj (by show(isS Bool false (enS false f.Cards[i].Open)&&isS Bool false (lendRows (enS true (opensL f.Net.Bridges[i])))&&decide (List.length (deS Bool (enS false f.Cards[i].Open))≤1048576))=true;rw[Zak,Zaf,Zak,Zad,decide_eq_true hco];rfl) ?_))))
  have he:decide (deS Bool (D.rows (List.getD (En.enc false f.Cards[i]) 0 D.dead))=deS Bool (lendRows (enS true (opensL f.Net.Bridges[i]))))=decide (f.Cards[i].Open=opensL f.Net.Bridges[i]):=by
   refine decide_eq_decide.2 ?_;show deS Bool (enS false f.Cards[i].Open)=deS Bool (lendRows (enS true (opensL f.Net.Bridges[i])))↔_;rw[Zad,Zaf,Zad]
  rw[he];cases h2:decide (f.Cards[i].Open=opensL f.Net.Bridges[i])
  ·refine Zaj rfl ?_;exact Zys _ _ _
  ·refine Za5 rfl ?_;exact hf () trivial
def T32:Table:=(32,c32)::T61
theorem Zqw:Table.Sound prog Hx T32:=sa Zrp func32 (by kernel_rfl) (Zah λf=>Zan λh=>⟨_,m32 f h⟩)
def o89(b:Bridge):Bool×List Row×List Row:=(decide (b.Ports.length≤1048576),[[.int .i64 (b).Id,.sl true 11 (enS true (b).Ports)]],[])
def c89:Contract:=(cp zp4 λb=>c0 (o89 b)) true
def e89(b:Bridge)(n:Nat):=evFn ⟨prog,Hx,89⟩ T32.call n f89 [zp4.row b]
theorem r89(b:Bridge)(n:Nat):e89 b n=bif decide ((0+length (enS false (Bridge.Ports b)))*80≤140737488355328)then some ([[D.int i64 (Bridge.Id b),D.sl true 11 (enS false (Bridge.Ports b))]],[])else none:=by kernel_rfl
theorem m89(b:Bridge):(o89 b).1=true→e89 b 0=some (o89 b).2:=by
 refine pm λhpre=>(r89 b _).trans ?_;have hlen:=of_decide_eq_true hpre;have h1:decide ((0+b.Ports.length)*80≤140737488355328)=true:=decide_eq_true (by omega)
 simp only[Zaa,h1,cond_true];rfl
def T89:Table:=(89,c89)::T32
theorem Zsh:Table.Sound prog Hx T89:=sa Zqw func89 (by kernel_rfl) (Zah λb=>Zan λh=>⟨_,m89 b h⟩)
def o48(n_:Net):Bool×List Row×List Row:=(Net.small n_,[[.sl true 2 (enS true (n_).Bridges),.sl true 4 (enS true (n_).Links)]],[])
def c48:Contract:=(cp zp18 λn_=>c0 (o48 n_)) true
def k48_0:KT:=λn↦kThen (λst↦rC 48 T89 n f48 [1,1,1] 4 [] 4 st (lV f48 [] [])) (lV f48 [] [])
def k48_1:KT:=λn↦kBlock (0) (k48_0 n)
def S48_0(n_:Net)(i0:Int)(es1:List (List D)):St:=St.mk (U_::V_ [C.ptr 0 0 0 [] 2 0 0]::V_ [C.ptr 1 0 0 [] 2 0 0]::V_ [C.ptr 4 0 0 [] 2 0 0]::I_ i0::u_ 24 []) [Root.mk true 2 [En.enc false n_] 0 0 true true false [] 0 [],Root.mk true 2 [[D.sl true 2 [],D.sl true 4 []]] 0 0 true true false [] 0 [],Root.mk false 4 [] 0 0 false true false [] 0 [],Root.mk false 4 (enS false (Net.Links n_)) 0 0 false true false [] 0 [],Root.mk true 2 [[D.sl true 2 es1,D.sl true 4 (enS false (Net.Links n_))]] 0 0 true true false [] 0 []]
def B48_0:BT:=λn↦rC 48 T89 n f48 [1,1,0,1,0,0] 30 [(0,12)] 4
def X48_2(n_:Net)(es1:List (List D)):St:=St.mk (U_::U_::V_ [C.ptr 1 0 0 [] 2 0 0]::V_ [C.ptr 4 0 0 [] 2 0 0]::u_ 25 []) [Root.mk true 2 [En.enc false n_] 0 0 true true false [] 0 [],Root.mk true 2 [[D.sl true 2 [],D.sl true 4 []]] 0 0 true true false [] 0 [],Root.mk false 4 [] 0 0 false true false [] 0 [],Root.mk false 4 (enS false (Net.Links n_)) 0 0 false true false [] 0 [],Root.mk true 2 [[D.sl true 2 es1,D.sl true 4 (enS false (Net.Links n_))]] 0 0 true true false [] 0 []]
def y48_0(i0:Int)(n_:Net):=getD (enS false (Net.Bridges n_)) (toNat i0) []
theorem Z1f(n_:Net)(n:Nat)(i0:Int)(es1:List (List D))(f:St→RR)(K:Ex→St→RR):B48_0 n (S48_0 n_ i0 es1) (kThen (λst↦f (St.head 5 30 268434448 st)) K)=bif decide (i0<ofNat (length (enS false (Net.Bridges n_))))then bif decide (0≤i0)&&decide (i0<ofNat (length (enS false (Net.Bridges n_))))then bif Leaf.fit false (Leaf.int i64) (getD (y48_0 i0 n_) 0 D.dead)&&(Leaf.fit false (Leaf.sl 11 true) (getD (y48_0 i0 n_) 1 D.dead)&&true)then bif isS Port false (D.rows (getD (y48_0 i0 n_) 1 D.dead))&&decide (length (deS Port (D.rows (getD (y48_0 i0 n_) 1 D.dead)))≤1048576)then bif decide ((length es1+1)*32≤140737488355328)then f (S48_0 n_ (wrap i64 (i0+1)) (append es1 [[D.int i64 (D.num (getD (y48_0 i0 n_) 0 D.dead)),D.sl true 11 (enS true (deS Port (D.rows (getD (y48_0 i0 n_) 1 D.dead))))]]))else none else none else none else none else K (Ex.exit 0) (X48_2 n_ es1):=by kernel_rfl
theorem Zy2(n_:Net)(n:Nat)(es1:List (List D)):k48_1 n (Ex.exit 0) (X48_2 n_ es1)=some ([[D.sl true 2 es1,D.sl true 4 (enS false (Net.Links n_))]],[]):=by kernel_rfl
def e48(n_:Net)(n:Nat):=evFn ⟨prog,Hx,48⟩ T89.call n f48 [zp18.row n_]
theorem r48(n_:Net)(n:Nat):e48 n_ n=bif decide ((0+length (enS false (Net.Links n_)))*32≤140737488355328)then loopRun (B48_0 n) 5 30 268434448 n (S48_0 n_ (0) []) (k48_1 n)else none:=by kernel_rfl
theorem m48(n_:Net):(o48 n_).1=true→e48 n_ (n_.Bridges.length+1)=some (o48 n_).2:=by
 refine pm λhpre=>(r48 n_ _).trans ?_;obtain⟨hs1,hs2,hs3⟩:=Zbg hpre;refine Zaj (decide_eq_true (by rw[Zaa];omega)) ?_
 refine Zai (xs:=n_.Bridges) (λi (bs:List Bridge)=>S48_0 n_ (Int.ofNat i) (enS true bs)) (λi bs=>bs=n_.Bridges.take i) (λ_ _ _=>some ([[D.sl true 2 (enS true n_.Bridges),D.sl true 4 (enS true n_.Links)]],[])) ?_ ?_ (n_.Bridges.length+1) [] (by omega) rfl
 ·rintro bs rfl f;refine(Z1f n_ _ _ _ f _).trans ?_;delta y48_0;rw[Zaw,cond_false];refine(Zy2 _ _ _).trans ?_;rw[List.take_length];rfl
 ·rintro i bs hi hbs f hf;have hpl:=hs2 _ (List.getElem_mem hi);have hbl:bs.length≤i:=by rw[hbs,List.length_take];omega
  refine(Z1f n_ _ _ _ f _).trans ?_;delta y48_0;refine Zaj (Zaz false hi) (Zaj (by rw[Zaz false hi,Zaq];rfl) (Zaj (by rw[Zac,Zab false hi];rfl) (Zaj (by rw[Zac,Zab false hi];show(isS Port false (enS false n_.Bridges[i].Ports)&&decide (List.length (deS Port (enS false n_.Bridges[i].Ports))≤1048576))=true;rw[Zak,Zad,decide_eq_true hpl];rfl) (Zaj (decide_eq_true (by rw[Zaa];omega)) ?_))))
  rw[Zac,Zab false hi,Zae (show i<4611686018427387904 by omega)]
  have e:List.append (enS true bs) [[D.int .i64 (D.num (List.getD (En.enc false n_.Bridges[i]) 0 D.dead)),D.sl true 11 (enS true (deS Port (D.rows (List.getD (En.enc false n_.Bridges[i]) 1 D.dead))))]]=enS true (bs++[n_.Bridges[i]]):=by
   show List.append (enS true bs) [[D.int .i64 n_.Bridges[i].Id,D.sl true 11 (enS true (deS Port (enS false n_.Bridges[i].Ports)))]]=_;rw[Zad];exact Zba true bs n_.Bridges[i]
  rw[e];exact hf _ (by rw[hbs,List.take_append_getElem])
def T48:Table:=(48,c48)::T89
theorem Zrc:Table.Sound prog Hx T48:=sa Zsh func48 (by kernel_rfl) (Zah λn_=>Zan λh=>⟨_,m48 n_ h⟩)
def o50(n_:Net):Bool×List Row×List Row:=(Net.small n_,[[.sl true 2 (enS true (fabN n_).Net.Bridges),.sl true 4 (enS true (fabN n_).Net.Links),.sl true 3 (enS true (fabN n_).Cards)],[.bool (hostsB n_)]],[])
def c50:Contract:=(cp zp18 λn_=>c0 (o50 n_)) true
def k50_0:KT:=λn↦kThen (λst↦rC 50 T48 n f50 [1,1,1,1] 12 [] 12 st (lV f50 [] [])) (lV f50 [] [])
def k50_1:KT:=λn↦kBlock (0) (k50_0 n)
def y50_0(n_:Net):=enS true (deS Bridge (enS false (Net.Bridges n_)))
def y50_1(n_:Net):=enS true (deS Link (enS false (Net.Links n_)))
def S50_0(n_:Net)(i0:Int):St:=St.mk (U_::V_ [C.ptr 0 0 0 [] 2 0 0]::V_ [C.ptr 1 0 0 [] 3 0 0]::U_::V_ [C.ptr 4 0 0 [] 3 0 0]::I_ i0::u_ 51 []) [Root.mk true 2 [En.enc false n_] 0 0 true true false [] 0 [],Root.mk true 3 [[D.sl true 2 [],D.sl true 4 [],D.sl true 3 []]] 0 0 true true false [] 0 [],Root.mk false 2 (y50_0 n_) 0 0 false true false [] 0 [],Root.mk false 4 (y50_1 n_) 0 0 false true false [] 0 [],Root.mk true 3 [[D.sl true 2 (y50_0 n_),D.sl true 4 (y50_1 n_),D.sl true 3 []]] 0 0 true true false [] 0 []]
def B50_0:BT:=λn↦rC 50 T48 n f50 [1,1,1,0,1,0,0] 54 [(0,22)] 12
def X50_2(n_:Net):St:=St.mk (U_::U_::V_ [C.ptr 1 0 0 [] 3 0 0]::B_ false::u_ 53 []) [Root.mk true 2 [En.enc false n_] 0 0 true true false [] 0 [],Root.mk true 3 [[D.sl true 2 [],D.sl true 4 [],D.sl true 3 []]] 0 1 true true false [(0,1),(1,1),(2,1)] 0 [],Root.mk false 2 (y50_0 n_) 0 0 false true false [] 0 [],Root.mk false 4 (y50_1 n_) 0 0 false true false [] 0 [],Root.mk true 3 [[D.sl true 2 (y50_0 n_),D.sl true 4 (y50_1 n_),D.sl true 3 []]] 0 0 true true false [] 0 []]
def X50_4(n_:Net):St:=St.mk (U_::V_ [C.ptr 0 0 0 [] 2 0 0]::V_ [C.ptr 1 0 0 [] 3 0 0]::U_::V_ [C.ptr 4 0 0 [] 3 0 0]::u_ 52 []) [Root.mk true 2 [En.enc false n_] 0 0 true true false [] 0 [],Root.mk true 3 [[D.sl true 2 [],D.sl true 4 [],D.sl true 3 []]] 0 0 true true false [] 0 [],Root.mk false 2 (y50_0 n_) 0 0 false true false [] 0 [],Root.mk false 4 (y50_1 n_) 0 0 false true false [] 0 [],Root.mk true 3 [[D.sl true 2 (y50_0 n_),D.sl true 4 (y50_1 n_),D.sl true 3 []]] 0 0 true true false [] 0 []]
theorem Z1h(n_:Net)(n:Nat)(i0:Int)(f:St→RR)(K:Ex→St→RR):B50_0 n (S50_0 n_ i0) (kThen (λst↦f (St.head 5 54 274877890600 st)) K)=bif decide (i0<ofNat (length (enS false (Net.Links n_))))then bif decide (0≤i0)&&decide (i0<ofNat (length (enS false (Net.Links n_))))then bif Leaf.fit false (Leaf.int i64) (getD (drop 1 (getD (enS false (Net.Links n_)) (toNat i0) [])) 0 D.dead)&&true then bif D.num (getD (drop 1 (getD (enS false (Net.Links n_)) (toNat i0) [])) 0 D.dead)==3 then K Ex.ret (X50_2 n_)else bif decide (0≤i0)&&decide (i0<ofNat (length (enS false (Net.Links n_))))then bif Leaf.fit false (Leaf.int i64) (getD (drop 3 (getD (enS false (Net.Links n_)) (toNat i0) [])) 0 D.dead)&&true then bif D.num (getD (drop 3 (getD (enS false (Net.Links n_)) (toNat i0) [])) 0 D.dead)==3 then K Ex.ret (X50_2 n_)else f (S50_0 n_ (wrap i64 (i0+1)))else none else none else none else none else K (Ex.exit 0) (X50_4 n_):=by kernel_rfl
theorem Zvl(n_:Net)(n:Nat):k50_1 n Ex.ret (X50_2 n_)=some ([[D.sl true 2 [],D.sl true 4 [],D.sl true 3 []],[D.bool false]],[]):=by kernel_rfl
def k50_5:KT:=λn↦kThen (λst↦rC 50 T48 n f50 [1,1,1,1,1] 12 [] 12 st (lV f50 [] [])) (lV f50 [] [])
def k50_6:KT:=λn↦kBlock (2) (k50_5 n)
def S50_1(n_:Net)(i0_:Int)(es1:List (List D)):St:=St.mk (U_::V_ [C.ptr 0 0 0 [] 2 0 0]::V_ [C.ptr 1 0 0 [] 3 0 0]::U_::V_ [C.ptr 4 0 0 [] 3 0 0]::U_::I_ i0_::u_ 50 []) [Root.mk true 2 [En.enc false n_] 0 0 true true false [] 0 [],Root.mk true 3 [[D.sl true 2 [],D.sl true 4 [],D.sl true 3 []]] 0 0 true true false [] 0 [],Root.mk false 2 (y50_0 n_) 0 0 false true false [] 0 [],Root.mk false 4 (y50_1 n_) 0 0 false true false [] 0 [],Root.mk true 3 [[D.sl true 2 (y50_0 n_),D.sl true 4 (y50_1 n_),D.sl true 3 es1]] 0 0 true true false [] 0 []]
def B50_1:BT:=λn↦rC 50 T48 n f50 [1,1,1,1,0,1,0,0] 86 [(2,20)] 12
def X50_7(n_:Net)(es1:List (List D)):St:=St.mk (U_::U_::V_ [C.ptr 1 0 0 [] 3 0 0]::U_::V_ [C.ptr 4 0 0 [] 3 0 0]::u_ 52 []) [Root.mk true 2 [En.enc false n_] 0 0 true true false [] 0 [],Root.mk true 3 [[D.sl true 2 [],D.sl true 4 [],D.sl true 3 []]] 0 0 true true false [] 0 [],Root.mk false 2 (y50_0 n_) 0 0 false true false [] 0 [],Root.mk false 4 (y50_1 n_) 0 0 false true false [] 0 [],Root.mk true 3 [[D.sl true 2 (y50_0 n_),D.sl true 4 (y50_1 n_),D.sl true 3 es1]] 0 0 true true false [] 0 []]
def y50_3(i0_:Int)(n_:Net):=getD (enS false (Net.Bridges n_)) (toNat i0_) []
theorem Z1i(n_:Net)(n:Nat)(i0_:Int)(es1:List (List D))(f:St→RR)(K:Ex→St→RR):B50_1 n (S50_1 n_ i0_ es1) (kThen (λst↦f (St.head 5 86 72057319160021056 st)) K)=bif decide (i0_<ofNat (length (enS false (Net.Bridges n_))))then bif decide (0≤i0_)&&decide (i0_<ofNat (length (enS false (Net.Bridges n_))))then bif Leaf.fit false (Leaf.int i64) (getD (y50_3 i0_ n_) 0 D.dead)&&(Leaf.fit false (Leaf.sl 11 true) (getD (y50_3 i0_ n_) 1 D.dead)&&true)then bif isS Port false (D.rows (getD (y50_3 i0_ n_) 1 D.dead))&&decide (length (deS Port (D.rows (getD (y50_3 i0_ n_) 1 D.dead)))≤1048576)then bif decide ((length es1+1)*72≤140737488355328)then f (S50_1 n_ (wrap i64 (i0_+1)) (append es1 [En.enc true (cardB (En.dec (y50_3 i0_ n_)))]))else none else none else none else none else K (Ex.exit 2) (X50_7 n_ es1):=by kernel_rfl
theorem Zy5(n_:Net)(n:Nat)(es1:List (List D)):k50_6 n (Ex.exit 2) (X50_7 n_ es1)=some ([[D.sl true 2 (y50_0 n_),D.sl true 4 (y50_1 n_),D.sl true 3 es1],[D.bool true]],[]):=by kernel_rfl
theorem Zy4(n_:Net)(n:Nat):k50_1 n (Ex.exit 0) (X50_4 n_)=loopRun (B50_1 n) 5 86 72057319160021056 n (S50_1 n_ (0) []) (k50_6 n):=by kernel_rfl
def e50(n_:Net)(n:Nat):=evFn ⟨prog,Hx,50⟩ T48.call n f50 [zp18.row n_]
def y50_2(n_:Net):=Net.mk (deS Bridge (enS false (Net.Bridges n_))) (deS Link (enS false (Net.Links n_)))
theorem r50(n_:Net)(n:Nat):e50 n_ n=bif isS Bridge false (enS false (Net.Bridges n_))&&isS Link false (enS false (Net.Links n_))&&Net.small (y50_2 n_)then bif !netOk (y50_2 n_)then some ([[D.sl true 2 [],D.sl true 4 [],D.sl true 3 []],[D.bool false]],[])else bif isS Bridge false (enS false (Net.Bridges n_))&&isS Link false (enS false (Net.Links n_))&&Net.small (y50_2 n_)then loopRun (B50_0 n) 5 54 274877890600 n (S50_0 n_ (0)) (k50_1 n)else none else none:=by kernel_rfl
theorem m50(n_:Net):(o50 n_).1=true→e50 n_ (n_.Links.length+n_.Bridges.length+1)=some (o50 n_).2:=by
 refine pm λhpre=>(r50 n_ _).trans ?_;delta y50_2;obtain⟨hs1,hs2,hs3⟩:=Zbg hpre;show _=fabT (fabN n_).Net (fabN n_).Cards (hostsB n_);refine Zaj (nsm hpre) ?_;rw[Zkk];cases hk:netOk n_
 ·rw[Ztb (by unfold hostsB;rw[hk,Bool.and_false])]
  rfl
 refine Za5 rfl (Zaj (by have:=nsm hpre;rw[Zkk]at this;exact this) ?_)
 have hR:fabT (fabN n_).Net (fabN n_).Cards (hostsB n_)=bif hostsL n_.Links then fabT n_ (n_.Bridges.map cardB) true else fabT ⟨[],[]⟩ [] false:=by
  cases hl:hostsL n_.Links
  ·exact Ztb (by unfold hostsB;rw[hl,Bool.false_and])
  ·exact Zuw (by unfold hostsB;rw[hl,hk];rfl)
 rw[hR];refine Zai (xs:=n_.Links) (λi (_:Unit)=>S50_0 n_ (Int.ofNat i)) (λ_ _=>True) (λ_ _ rest=>bif hostsL rest then fabT n_ (n_.Bridges.map cardB) true else fabT ⟨[],[]⟩ [] false) ?_ ?_ (n_.Links.length+n_.Bridges.length+1) () (by omega) trivial
 ·rintro _ _ f;refine(Z1h n_ _ _ f _).trans ?_;rw[Zaw,cond_false];refine(Zy4 _ _).trans ?_;refine Zai (xs:=n_.Bridges) (λi (cs:List Card)=>S50_1 n_ (Int.ofNat i) (enS true cs)) (λi cs=>cs=(n_.Bridges.take i).map cardB) (λ_ _ _=>fabT n_ (n_.Bridges.map cardB) true) ?_ ?_ (n_.Links.length+n_.Bridges.length+1) [] (by omega) rfl
  ·rintro cs rfl f_;refine(Z1i n_ _ _ _ f_ _).trans ?_;delta y50_3;rw[Zaw,cond_false];refine(Zy5 _ _ _).trans ?_;delta y50_0 y50_1;rw[List.take_length,Zad,Zad];rfl
  ·rintro i cs hi hcs f_ hf;have hpl:=hs2 _ (List.getElem_mem hi);have hcl:cs.length≤i:=by rw[hcs,List.length_map,List.length_take];omega
   refine(Z1i n_ _ _ _ f_ _).trans ?_;delta y50_3;refine Zaj (Zaz false hi) (Zaj (by rw[Zaz false hi,Zaq];rfl) (Zaj (by rw[Zac,Zab false hi];rfl) (Zaj (by rw[Zac,Zab false hi];show(isS Port false (enS false n_.Bridges[i].Ports)&&decide (List.length (deS Port (enS false n_.Bridges[i].Ports))≤1048576))=true;rw[Zak,Zad,decide_eq_true hpl];rfl) (Zaj (decide_eq_true (by rw[Zaa];omega)) ?_))))
   rw[Zac,Zab false hi,En.dec_enc,Zae (show i<4611686018427387904 by omega)]
   refine(congrArg f_ (congrArg (S50_1 n_ _) (Zba true cs (cardB n_.Bridges[i])))).trans ?_;exact hf _ (by rw[hcs,←List.take_append_getElem hi,List.map_append];rfl)
 ·rintro i _ hi _ f hf;refine(Z1h n_ _ _ f _).trans ?_;refine Zaj (Zaz false hi) (Zaj (by rw[Zaz false hi,Zaq];rfl) (Zaj (by rw[Zac,Zab false hi];rfl) ?_))
  rw[Zac,Zab false hi,Zae (show i<4611686018427387904 by omega),Zjj]
  cases h1:n_.Links[i].P==3
  case true=>
   refine Zaj h1 ?_;exact Zvl _ _
  refine Za5 h1 (Zaj (by rw[Zaz false hi,Zaq];rfl) (Zaj rfl ?_))
  cases h2:n_.Links[i].Q==3
  case true=>
   refine Zaj h2 ?_;exact Zvl _ _
  refine Za5 h2 ?_;exact hf () trivial
def T50:Table:=(50,c50)::T48
theorem Zre:Table.Sound prog Hx T50:=sa Zrc func50 (by kernel_rfl) (Zah λn_=>Zan λh=>⟨_,m50 n_ h⟩)
def o22(f:Fabric):Bool×List Row×List Row:=(Fabric.small f,[[.bool (fabOk f)]],[])
def c22:Contract:=(cp zp19 λf=>c0 (o22 f)) true
def k22_0:KT:=λn↦kThen (λst↦rC 22 T50 n f22 [1,1,1,1] 4 [] 4 st (lV f22 [] [])) (lV f22 [] [])
def k22_1:KT:=λn↦kBlock (0) (k22_0 n)
def y22_0(f:Fabric):=fabN (Net.mk (deS Bridge (enS false (Net.Bridges (Fabric.Net f)))) (deS Link (enS false (Net.Links (Fabric.Net f)))))
def y22_3(f:Fabric):=enS true (Net.Bridges (Fabric.Net (y22_0 f)))
def y22_4(f:Fabric):=enS true (Net.Links (Fabric.Net (y22_0 f)))
def S22_0(f:Fabric)(i0:Int):St:=St.mk (U_::V_ [C.ptr 0 0 0 [] 3 0 0]::U_::V_ [C.ptr 4 0 0 [] 3 0 0]::U_::I_ i0::u_ 59 []) [Root.mk true 3 [En.enc false f] 0 0 true true false [] 0 [],Root.mk false 2 (y22_3 f) 0 0 false true false [] 0 [],Root.mk false 4 (y22_4 f) 0 0 false true false [] 0 [],Root.mk false 3 (enS true (Fabric.Cards (y22_0 f))) 0 0 false true false [] 0 [],Root.mk true 3 [En.enc true (y22_0 f)] 0 0 true true false [] 0 []]
def B22_0:BT:=λn↦rC 22 T50 n f22 [1,1,1,0,1,0,0] 42 [(0,0)] 4
def y22_1(f:Fabric)(i0:Int):=getD (enS false (Fabric.Cards f)) (toNat i0) []
def X22_2(f:Fabric)(i0:Int):St:=St.mk (U_::U_::B_ false::u_ 62 []) [Root.mk true 3 [En.enc false f] 0 0 true true false [] 0 [],Root.mk false 2 (y22_3 f) 0 0 false true false [] 0 [],Root.mk false 4 (y22_4 f) 0 0 false true false [] 0 [],Root.mk false 3 (enS true (Fabric.Cards (y22_0 f))) 0 0 false true false [] 0 [],Root.mk true 3 [En.enc true (y22_0 f)] 0 0 true true false [] 0 [],Root.mk true 3 [[D.sl false 1 (D.rows (getD (y22_1 f i0) 0 D.dead)),D.sl false 2 (D.rows (getD (y22_1 f i0) 1 D.dead)),D.sl false 4 (D.rows (getD (y22_1 f i0) 2 D.dead))]] 0 1 true true false [(0,1),(1,1),(2,1)] 0 []]
def k22_4(f_:St→RR)(K:Ex→St→RR):Ex→St→RR:=kThen (λst↦f_ (St.head 5 42 36893488147385549028 st)) K
def k22_5(n:Nat)(f_:St→RR)(K:Ex→St→RR):Ex→St→RR:=kThen (λst↦rC 22 T50 n f22 [1,1,1,0,1,0,0,1,1] 42 [(0,0)] 4 st (k22_4 f_ K)) (k22_4 f_ K)
def k22_6(n:Nat)(f_:St→RR)(K:Ex→St→RR):Ex→St→RR:=kBlock (1) (k22_5 n f_ K)
def k22_7(n:Nat)(f_:St→RR)(K:Ex→St→RR):Ex→St→RR:=kBlock (2) (k22_6 n f_ K)
def S22_1(f:Fabric)(i0:Int)(i0_:Int):St:=St.mk (U_::V_ [C.ptr 0 0 0 [] 3 0 0]::U_::V_ [C.ptr 4 0 0 [] 3 0 0]::U_::I_ i0::V_ [C.ptr 5 0 0 [] 3 0 0]::I_ i0_::u_ 57 []) [Root.mk true 3 [En.enc false f] 0 0 true true false [] 0 [],Root.mk false 2 (y22_3 f) 0 0 false true false [] 0 [],Root.mk false 4 (y22_4 f) 0 0 false true false [] 0 [],Root.mk false 3 (enS true (Fabric.Cards (y22_0 f))) 0 0 false true false [] 0 [],Root.mk true 3 [En.enc true (y22_0 f)] 0 0 true true false [] 0 [],Root.mk true 3 [[D.sl false 1 (D.rows (getD (y22_1 f i0) 0 D.dead)),D.sl false 2 (D.rows (getD (y22_1 f i0) 1 D.dead)),D.sl false 4 (D.rows (getD (y22_1 f i0) 2 D.dead))]] 0 0 true true false [] 0 []]
def B22_1:BT:=λn↦rC 22 T50 n f22 [1,1,1,0,1,0,0,1,0,0,1,1,1,0,0] 234 [(2,42),(1,42),(0,0)] 4
def X22_8(f:Fabric)(i0:Int):St:=St.mk (U_::U_::B_ false::u_ 62 []) [Root.mk true 3 [En.enc false f] 0 0 true true false [] 0 [],Root.mk false 2 (y22_3 f) 0 0 false true false [] 0 [],Root.mk false 4 (y22_4 f) 0 0 false true false [] 0 [],Root.mk false 3 (enS true (Fabric.Cards (y22_0 f))) 0 0 false true false [] 0 [],Root.mk true 3 [En.enc true (y22_0 f)] 0 0 true true false [] 0 [],Root.mk true 3 [[D.sl false 1 (D.rows (getD (y22_1 f i0) 0 D.dead)),D.sl false 2 (D.rows (getD (y22_1 f i0) 1 D.dead)),D.sl false 4 (D.rows (getD (y22_1 f i0) 2 D.dead))]] 0 0 true true false [] 0 []]
def X22_9(f:Fabric)(i0:Int):St:=St.mk (U_::V_ [C.ptr 0 0 0 [] 3 0 0]::U_::V_ [C.ptr 4 0 0 [] 3 0 0]::U_::I_ i0::u_ 59 []) [Root.mk true 3 [En.enc false f] 0 0 true true false [] 0 [],Root.mk false 2 (y22_3 f) 0 0 false true false [] 0 [],Root.mk false 4 (y22_4 f) 0 0 false true false [] 0 [],Root.mk false 3 (enS true (Fabric.Cards (y22_0 f))) 0 0 false true false [] 0 [],Root.mk true 3 [En.enc true (y22_0 f)] 0 0 true true false [] 0 [],Root.mk true 3 [[D.sl false 1 (D.rows (getD (y22_1 f i0) 0 D.dead)),D.sl false 2 (D.rows (getD (y22_1 f i0) 1 D.dead)),D.sl false 4 (D.rows (getD (y22_1 f i0) 2 D.dead))]] 0 0 true true false [] 0 []]
def y22_2(f:Fabric)(i0:Int):=getD (getD (enS true (Fabric.Cards (y22_0 f))) (0+toNat i0) []) 0 D.dead
theorem Z28(f:Fabric)(n:Nat)(i0:Int)(i0_:Int)(f__:St→RR)(K_:Ex→St→RR):B22_1 n (S22_1 f i0 i0_) (kThen (λst↦f__ (St.head 6 234 36893417778674925700 st)) K_)=bif decide (i0_<4)then bif decide (0≤i0_)&&decide (i0_<ofNat (length (D.rows (getD (y22_1 f i0) 0 D.dead))))then bif Leaf.fit false Leaf.bool (getD (getD (D.rows (getD (y22_1 f i0) 0 D.dead)) (toNat i0_) []) 0 D.dead)&&true then bif decide (0≤i0)&&decide (i0<ofNat (length (enS true (Fabric.Cards (y22_0 f)))))then bif Leaf.fit true (Leaf.sl 1 true) (y22_2 f i0)&&true then bif D.isOwn (y22_2 f i0)&&true&&(decide (0≤i0_)&&decide (i0_<ofNat (length (D.rows (y22_2 f i0)))))then bif D.isOwn (y22_2 f i0)&&true&&(Leaf.fit true Leaf.bool (getD (getD (D.rows (y22_2 f i0)) (0+toNat i0_) []) 0 D.dead)&&true)then bif D.flag (getD (getD (D.rows (getD (y22_1 f i0) 0 D.dead)) (toNat i0_) []) 0 D.dead) !=D.flag (getD (getD (D.rows (y22_2 f i0)) (0+toNat i0_) []) 0 D.dead)then K_ Ex.ret (X22_8 f i0)else f__ (S22_1 f i0 (wrap i64 (i0_+1)))else none else none else none else none else none else none else K_ (Ex.exit 2) (X22_9 f i0):=by kernel_rfl
theorem Zxk(f:Fabric)(n:Nat)(i0:Int):k22_1 n Ex.ret (X22_8 f i0)=some ([[D.bool false]],[]):=by kernel_rfl
theorem Zyk(f:Fabric)(n:Nat)(i0:Int)(f_:St→RR)(K:Ex→St→RR):k22_7 n f_ K Ex.ret (X22_8 f i0)=K Ex.ret (X22_8 f i0):=by kernel_rfl
theorem Zyl(f:Fabric)(n:Nat)(i0:Int)(f_:St→RR)(K:Ex→St→RR):k22_7 n f_ K (Ex.exit 2) (X22_9 f i0)=f_ (S22_0 f (wrap i64 (i0+1))):=by kernel_rfl
def X22_11(f:Fabric):St:=St.mk (u_ 65 []) [Root.mk true 3 [En.enc false f] 0 0 true true false [] 0 [],Root.mk false 2 (y22_3 f) 0 0 false true false [] 0 [],Root.mk false 4 (y22_4 f) 0 0 false true false [] 0 [],Root.mk false 3 (enS true (Fabric.Cards (y22_0 f))) 0 0 false true false [] 0 [],Root.mk true 3 [En.enc true (y22_0 f)] 0 0 true true false [] 0 []]
theorem Z0y(f:Fabric)(n:Nat)(i0:Int)(f_:St→RR)(K:Ex→St→RR):B22_0 n (S22_0 f i0) (kThen (λst↦f_ (St.head 5 42 36893488147385549028 st)) K)=bif decide (i0<ofNat (length (enS false (Fabric.Cards f))))then bif decide (0≤i0)&&decide (i0<ofNat (length (enS false (Fabric.Cards f))))then bif Leaf.fit false (Leaf.sl 1 true) (getD (y22_1 f i0) 0 D.dead)&&(Leaf.fit false (Leaf.sl 2 false) (getD (y22_1 f i0) 1 D.dead)&&(Leaf.fit false (Leaf.sl 4 true) (getD (y22_1 f i0) 2 D.dead)&&true))then bif isS Bool false (D.rows (getD (y22_1 f i0) 0 D.dead))&&isS Member false (D.rows (getD (y22_1 f i0) 1 D.dead))&&isS Heard false (D.rows (getD (y22_1 f i0) 2 D.dead))&&Card.small (En.dec (y22_1 f i0))then bif !cardOk (En.dec (y22_1 f i0))then K Ex.ret (X22_2 f i0)else bif ofNat (length (D.rows (getD (y22_1 f i0) 0 D.dead))) !=4 then K Ex.ret (X22_2 f i0)else loopRun (B22_1 n) 6 234 36893417778674925700 n (S22_1 f i0 (0)) (k22_7 n f_ K)else none else none else none else K (Ex.exit 0) (X22_11 f):=by kernel_rfl
theorem Zvh(f:Fabric)(n:Nat)(i0:Int):k22_1 n Ex.ret (X22_2 f i0)=some ([[D.bool false]],[]):=by kernel_rfl
theorem Zxl(f:Fabric)(n:Nat):k22_1 n (Ex.exit 0) (X22_11 f)=some ([[D.bool true]],[]):=by kernel_rfl
def e22(f:Fabric)(n:Nat):=evFn ⟨prog,Hx,22⟩ T50.call n f22 [zp19.row f]
theorem r22(f:Fabric)(n:Nat):e22 f n=bif isS Bridge false (enS false (Net.Bridges (Fabric.Net f)))&&isS Link false (enS false (Net.Links (Fabric.Net f)))&&Net.small (Net.mk (deS Bridge (enS false (Net.Bridges (Fabric.Net f)))) (deS Link (enS false (Net.Links (Fabric.Net f)))))then bif !hostsB (Net.mk (deS Bridge (enS false (Net.Bridges (Fabric.Net f)))) (deS Link (enS false (Net.Links (Fabric.Net f)))))then some ([[D.bool false]],[])else bif ofNat (length (enS true (Fabric.Cards (y22_0 f)))) !=ofNat (length (enS false (Fabric.Cards f)))then some ([[D.bool false]],[])else loopRun (B22_0 n) 5 42 36893488147385549028 n (S22_0 f (0)) (k22_1 n)else none:=by kernel_rfl
theorem Z0k(f:Fabric)(i:Nat)(hi:i<f.Cards.length)(hil:i<4611686018427387904)(gs:List Card)(hG:(fabN (Net.mk (deS Bridge (enS false f.Net.Bridges)) (deS Link (enS false f.Net.Links)))).Cards=gs)(hg:i<gs.length)(o:List Bool)(ho:gs[i].Open=o)(h4:f.Cards[i].Open.length=4)(ho4:o.length=4)(n:Nat)(hn:4<n)(f_:St→RR)(K:Ex→St→RR)(R1 R0:RR)(hf:f_ (S22_0 f (Int.ofNat (i+1)))=R1)(hK:K Ex.ret (X22_8 f (Int.ofNat i))=R0):
  loopRun (B22_1 n) 6 234 36893417778674925700 n (S22_1 f (Int.ofNat i) 0) (k22_7 n f_ K)=bif decide (f.Cards[i].Open=o)then R1 else R0:=by
 refine Zby (V:=Nat) (λj=>S22_1 f (Int.ofNat i) (Int.ofNat j)) (λj=>j≤4∧f.Cards[i].Open.take j=o.take j) (λj=>4-j) (λ_=>bif decide (f.Cards[i].Open=o)then R1 else R0) ?_ n 0 ⟨Nat.zero_le _,rfl⟩ (by omega)
 rintro j ⟨hj,ht⟩ F hF;refine(Z28 f n _ _ F _).trans ?_;delta y22_0 y22_1 y22_2;by_cases h:j<4
 ·have ha:j<f.Cards[i].Open.length:=by omega
  have hb:j<o.length:=by omega
  refine Zaj (decide_eq_true (show(j:Int)<4 by omega)) (Zaj (by rw[Zac,Zab false hi];show(decide (0≤Int.ofNat j)&&decide (Int.ofNat j<Int.ofNat (enS false f.Cards[i].Open).length))=true;rw[Zaz false ha,Zaq];rfl) (Zaj (by rw[Zac,Zac,Zab false hi];show(Leaf.fit false Leaf.bool (List.getD (List.getD (enS false f.Cards[i].Open) j []) 0 D.dead)&&true)=true;rw[Zab false ha];rfl) (Zaj (by rw[hG,Zaz true hg,Zaq];rfl) (Zaj (by rw[hG,Zac,Nat.zero_add,Zab true hg];rfl) (Zaj (by rw[hG,Zac,Nat.zero_add,Zab true hg];show(true&&true&&(decide (0≤Int.ofNat j)&&decide (Int.ofNat j<Int.ofNat (enS true gs[i].Open).length)))=true;rw[ho,Zaz true hb,Zaq];rfl) (Zaj (by rw[hG,Zac,Zac,Nat.zero_add,Nat.zero_add,Zab true hg];show(true&&true&&(Leaf.fit true Leaf.bool (List.getD (List.getD (enS true gs[i].Open) j []) 0 D.dead)&&true))=true;rw[ho,Zab true hb];rfl) ?_))))))
  rw[hG,Zac,Zac,Nat.zero_add,Nat.zero_add,Zab false hi,Zab true hg];have hc:(D.flag (List.getD (List.getD (D.rows (List.getD (En.enc false f.Cards[i]) 0 D.dead)) j []) 0 D.dead) !=D.flag (List.getD (List.getD (D.rows (List.getD (En.enc true gs[i]) 0 D.dead)) j []) 0 D.dead))=(f.Cards[i].Open[j] !=o[j]):=by
   show(D.flag (List.getD (List.getD (enS false f.Cards[i].Open) j []) 0 D.dead) !=D.flag (List.getD (List.getD (enS true gs[i].Open) j []) 0 D.dead))=_;rw[ho,Zab false ha,Zab true hb];rfl
  cases he:f.Cards[i].Open[j] !=o[j]
  ·refine Za5 (hc.trans he) ?_;rw[Zae (show j<4611686018427387904 by omega)]
   refine hF (j+1) ⟨h,?_⟩ (by omega)
   have he':f.Cards[i].Open[j]=o[j]:=by simpa using he
   rw[←List.take_append_getElem ha,←List.take_append_getElem hb,ht,he']
  ·refine Zaj (hc.trans he) ?_;refine(Zyk _ _ _ _ _).trans ?_;have he':f.Cards[i].Open[j]≠o[j]:=by simpa using he
   rw[hK,decide_eq_false (λe=>he' (by subst e;rfl))]
   rfl
 ·obtain rfl:j=4:=by omega
  refine Za5 rfl ?_;refine(Zyl _ _ _ _ _).trans ?_;rw[Zae hil,hf];have e:f.Cards[i].Open=o:=by
   rw[←h4,List.take_length,h4,←ho4,List.take_length]at ht;exact ht
  rw[decide_eq_true e];rfl
theorem m22(f:Fabric):(o22 f).1=true→e22 f (f.Cards.length+6)=some (o22 f).2:=by
 refine pm λhpre=>(r22 f _).trans ?_;delta y22_0;obtain⟨hn,hc,hcs⟩:=Zdt hpre;obtain⟨hs1,hs2,hs3⟩:=Zbg hn;refine Zaj (nsm hn) ?_;rw[Zkk];show _=some ([[D.bool (hostsB f.Net&&(decide (f.Cards.length=f.Net.Bridges.length)&&fabL f.Cards f.Net.Bridges))]],[]);cases hh:hostsB f.Net
 ·rfl
 have hfc:(fabN f.Net).Cards=f.Net.Bridges.map cardB:=by unfold fabN;rw[hh];rfl
 have hG:(fabN (Net.mk (deS Bridge (enS false f.Net.Bridges)) (deS Link (enS false f.Net.Links)))).Cards=f.Net.Bridges.map cardB:=by rw[Zkk];exact hfc
 rw[hfc];simp only[Zaa,bne,Zg6,List.length_map];have hsy:decide (f.Net.Bridges.length=f.Cards.length)=decide (f.Cards.length=f.Net.Bridges.length):=decide_eq_decide.2 eq_comm;rw[hsy];cases hd:decide (f.Cards.length=f.Net.Bridges.length)
 ·rfl
 have hl:=of_decide_eq_true hd;refine Za5 rfl (Za5 rfl ?_);refine Zai (xs:=f.Cards) (λi (_:Unit)=>S22_0 f (Int.ofNat i)) (λ_ _=>True) (λi _ rest=>some ([[D.bool (fabL rest (f.Net.Bridges.drop i))]],[])) ?_ ?_ (f.Cards.length+6) () (by omega) trivial
 ·rintro _ _ f_;refine(Z0y f _ _ f_ _).trans ?_;delta y22_1;rw[Zaw,cond_false];exact Zxl _ _
 ·rintro i _ hi _ f_ hf;have hj:i<f.Net.Bridges.length:=by omega
  have hcm:=hcs _ (List.getElem_mem hi);refine(Z0y f _ _ f_ _).trans ?_;delta y22_1;rw[List.drop_eq_getElem_cons hj,Zh2];refine Zaj (Zaz false hi) (Zaj (by rw[Zaz false hi,Zaq];rfl) (Zaj (by rw[Zac,Zab false hi];rfl) (Zaj (by rw[Zac,Zab false hi,En.dec_enc,hcm,Bool.and_true];show(isS Bool false (enS false f.Cards[i].Open)&&isS Member false (enS false f.Cards[i].Members)&&isS Heard false (enS false f.Cards[i].Table))=true;rw[Zak,Zak,Zak];rfl) ?_)))
  rw[Zac,Zab false hi,En.dec_enc];cases h1:cardOk f.Cards[i]
  ·refine Zaj rfl ?_;exact Zvh _ _ _
  refine Za5 rfl ?_;have hlen:(Int.ofNat (List.length (D.rows (List.getD (En.enc false f.Cards[i]) 0 D.dead))) !=4)=!decide (f.Cards[i].Open.length=4):=by
   show(Int.ofNat (enS false f.Cards[i].Open).length !=4)=_;rw[Zaa,bne,show(4:Int)=Int.ofNat 4 from rfl,Zg6]
  cases h4:decide (f.Cards[i].Open.length=4)
  ·refine Zaj (by rw[hlen,h4];rfl) ?_
   refine(Zvh _ _ _).trans ?_;have hne:f.Cards[i].Open≠opensL f.Net.Bridges[i]:=λe=>of_decide_eq_false h4 (by rw[e];rfl)
   rw[decide_eq_false hne];rfl
  refine Za5 (by rw[hlen,h4];rfl) ?_
  refine(Z0k f i hi (by omega) (f.Net.Bridges.map cardB) hG (by rw[List.length_map];exact hj) (opensL f.Net.Bridges[i]) (by rw[List.getElem_map];rfl) (of_decide_eq_true h4) rfl _ (by omega) f_ _ (some ([[D.bool (fabL (f.Cards.drop (i+1)) (f.Net.Bridges.drop (i+1)))]],[])) (some ([[D.bool false]],[])) (hf () trivial) (Zxk _ _ _)).trans ?_
  cases decide (f.Cards[i].Open=opensL f.Net.Bridges[i])<;>rfl
def T22:Table:=(22,c22)::T50
theorem Zqm:Table.Sound prog Hx T22:=sa Zre func22 (by kernel_rfl) (Zah λf=>Zan λh=>⟨_,m22 f h⟩)
end Go.Ev
end
