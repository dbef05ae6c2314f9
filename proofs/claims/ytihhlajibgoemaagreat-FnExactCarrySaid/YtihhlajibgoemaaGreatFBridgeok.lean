/- Contracts of functions, each by its evaluation. -/
import Derived.Test.YtihhlajibgoemaaGreatEvMd
import Derived.Test.YtihhlajibgoemaaGreatProg
import Derived.KernelRfl
import Derived.Test.YtihhlajibgoemaaGreatFPort
set_option linter.unusedVariables false
set_option linter.unusedSimpArgs false
set_option maxRecDepth 100000
noncomputable section
open List (getD length drop take set append replicate all isEmpty)
open Int (toNat ofNat)
open Go.IntKind (i64 wrap)
open Go.Proofs.Tryz (prog f128 f136 func128 func136)
namespace Go.Ev
open Go.RowKit Go.Md
end Go.Ev
namespace Go.Md
open Go Go.Ev
def bridgeOk(b:Bridge):Bool:=b.Ports.all portOk&&(inR b.Id 1 9&&inR (b.Ports.length:Int) 1 4)
end Go.Md
namespace Go.Ev
open Go.Md
def o136(b:Bridge):Bool×List Row×List Row:=(decide (b.Ports.length≤1048576),[[.bool (bridgeOk b)]],[])
def zp4:Pa (Bridge):=⟨λb=>[.int .i64 b.Id,.sl false 11 (enS false b.Ports)],λr=>match r with|[.int .i64 b_Id,.sl false 11 b_Ports]=>some (λt=>t&&isS Port false b_Ports,⟨b_Id,(deS Port b_Ports)⟩)|_=>none,by
 intro r f x h t ht;split at h
 ·cases h;simp only[Bool.and_eq_true]at ht;obtain⟨ht,h0⟩:=ht;obtain⟨_,rfl⟩:=Zay h0;exact⟨ht,by simp only[Zad]⟩
 ·cases h⟩
def c136:Contract:=(cp zp4 λb=>c0 (o136 b)) true
def k136_0:KT:=λn↦kThen (λst↦rC 136 T148 n f136 [1,1] 4 [] 4 st (lV f136 [] [])) (lV f136 [] [])
def k136_1:KT:=λn↦kBlock (0) (k136_0 n)
def S136_0(b:Bridge)(i0:Int):St:=St.mk (U_::V_ [C.ptr 0 0 0 [] 2 0 0]::u_ 4 (V_ [C.d (D.sl false 11 (enS false (Bridge.Ports b)))]::I_ (ofNat (length (enS false (Bridge.Ports b))))::I_ i0::u_ 16 [])) [Root.mk true 2 [[D.int i64 (Bridge.Id b),D.sl false 11 (enS false (Bridge.Ports b))]] 0 0 true true false [] 0 []]
def B136_0:BT:=λn↦rC 136 T148 n f136 [1,0,1,0,0] 450 [(0,2)] 4
def y136_0(b:Bridge)(i0:Int):=getD (enS false (Bridge.Ports b)) (toNat i0) []
def X136_2(b:Bridge)(i0:Int):St:=St.mk (U_::U_::B_ false::u_ 22 []) [Root.mk true 2 [[D.int i64 (Bridge.Id b),D.sl false 11 (enS false (Bridge.Ports b))]] 0 0 true true false [] 0 [],Root.mk true 11 [[D.bool (D.flag (getD (y136_0 b i0) 0 D.dead)),D.bool (D.flag (getD (y136_0 b i0) 1 D.dead)),D.int i64 (D.num (getD (y136_0 b i0) 2 D.dead)),D.int i64 (D.num (getD (y136_0 b i0) 3 D.dead)),D.int i64 (D.num (getD (y136_0 b i0) 4 D.dead)),D.int i64 (D.num (getD (y136_0 b i0) 5 D.dead)),D.int i64 (D.num (getD (y136_0 b i0) 6 D.dead)),D.int i64 (D.num (getD (y136_0 b i0) 7 D.dead)),D.int i64 (D.num (getD (y136_0 b i0) 8 D.dead)),D.int i64 (D.num (getD (y136_0 b i0) 9 D.dead)),D.bool (D.flag (getD (y136_0 b i0) 10 D.dead))]] 0 0 true true false [] 0 []]
def X136_3(b:Bridge):St:=St.mk (U_::V_ [C.ptr 0 0 0 [] 2 0 0]::u_ 23 []) [Root.mk true 2 [[D.int i64 (Bridge.Id b),D.sl false 11 (enS false (Bridge.Ports b))]] 0 0 true true false [] 0 []]
theorem Zwe(b:Bridge)(n:Nat)(i0:Int)(f:St→RR)(K:Ex→St→RR):B136_0 n (S136_0 b i0) (kThen (λst↦f (St.head 1 450 65300 st)) K)=bif decide (i0<ofNat (length (enS false (Bridge.Ports b))))then bif decide (0≤i0)&&decide (i0<ofNat (length (enS false (Bridge.Ports b))))then bif Leaf.fit false Leaf.bool (getD (y136_0 b i0) 0 D.dead)&&(Leaf.fit false Leaf.bool (getD (y136_0 b i0) 1 D.dead)&&(Leaf.fit false (Leaf.int i64) (getD (y136_0 b i0) 2 D.dead)&&(Leaf.fit false (Leaf.int i64) (getD (y136_0 b i0) 3 D.dead)&&(Leaf.fit false (Leaf.int i64) (getD (y136_0 b i0) 4 D.dead)&&(Leaf.fit false (Leaf.int i64) (getD (y136_0 b i0) 5 D.dead)&&(Leaf.fit false (Leaf.int i64) (getD (y136_0 b i0) 6 D.dead)&&(Leaf.fit false (Leaf.int i64) (getD (y136_0 b i0) 7 D.dead)&&(Leaf.fit false (Leaf.int i64) (getD (y136_0 b i0) 8 D.dead)&&(Leaf.fit false (Leaf.int i64) (getD (y136_0 b i0) 9 D.dead)&&(Leaf.fit false Leaf.bool (getD (y136_0 b i0) 10 D.dead)&&true))))))))))then bif !portOk (Port.mk (D.flag (getD (y136_0 b i0) 0 D.dead)) (D.flag (getD (y136_0 b i0) 1 D.dead)) (Vec.mk (D.num (getD (y136_0 b i0) 2 D.dead)) (D.num (getD (y136_0 b i0) 3 D.dead)) (D.num (getD (y136_0 b i0) 4 D.dead)) (D.num (getD (y136_0 b i0) 5 D.dead))) (D.num (getD (y136_0 b i0) 6 D.dead)) (D.num (getD (y136_0 b i0) 7 D.dead)) (D.num (getD (y136_0 b i0) 8 D.dead)) (D.num (getD (y136_0 b i0) 9 D.dead)) (D.flag (getD (y136_0 b i0) 10 D.dead)))then K Ex.ret (X136_2 b i0)else f (S136_0 b (wrap i64 (i0+1)))else none else none else K (Ex.exit 0) (X136_3 b):=by kernel_rfl
theorem Zxa(b:Bridge)(n:Nat)(i0:Int):k136_1 n Ex.ret (X136_2 b i0)=some ([[D.bool false]],[]):=by kernel_rfl
theorem Zxb(b:Bridge)(n:Nat):k136_1 n (Ex.exit 0) (X136_3 b)=bif inR (Bridge.Id b) (1) (9)then some ([[D.bool (inR (ofNat (length (enS false (Bridge.Ports b)))) (1) (4))]],[])else some ([[D.bool false]],[]):=by kernel_rfl
def e136(b:Bridge)(n:Nat):=evFn ⟨prog,Hx,136⟩ T148.call n f136 [zp4.row b]
theorem r136(b:Bridge)(n:Nat):e136 b n=loopRun (B136_0 n) 1 450 65300 n (S136_0 b (0)) (k136_1 n):=by kernel_rfl
theorem m136(b:Bridge):(o136 b).1=true→e136 b (b.Ports.length+1)=some (o136 b).2:=by
 refine pm λhpre=>(r136 b _).trans ?_;have hlen:=of_decide_eq_true hpre;unfold bridgeOk;refine Zai (xs:=b.Ports) (λi (_:Unit)=>S136_0 b (Int.ofNat i)) (λ_ _=>True) (λ_ _ rest=>some ([[D.bool (rest.all portOk&&(inR b.Id 1 9&&inR (b.Ports.length:Int) 1 4))]],[])) ?_ ?_ (b.Ports.length+1) () (by omega) trivial
 ·rintro _ _ f;refine(Zwe b _ _ f _).trans ?_;delta y136_0;rw[Zaw,cond_false];refine(Zxb _ _).trans ?_;simp only[Zaa,List.all_nil,Bool.true_and];cases inR b.Id 1 9<;>rfl
 ·rintro i _ hi _ f hf;refine(Zwe b _ _ f _).trans ?_;delta y136_0;simp only[gos,En.enc,D.num,D.flag,D.text,D.rows,Leaf.fit,Zbo,Zab _ hi,hi,Zae (show i<4611686018427387904 by omega)]
  cases hp:portOk b.Ports[i]
  ·simp only[gos,En.enc,D.num,D.flag,D.text,D.rows,Leaf.fit,Zbo];refine(Zxa _ _ _).trans ?_;simp only[List.all_cons,hp,Bool.false_and]
  ·simp only[gos,En.enc,D.num,D.flag,D.text,D.rows,Leaf.fit,Zbo];refine(hf () trivial).trans ?_;simp only[List.all_cons,hp,Bool.true_and]
def T136:Table:=(136,c136)::T148
theorem Zo1:Table.Sound prog Hx T136:=sa Zpd func136 (by kernel_rfl) (Zah λb=>Zan λh=>⟨_,m136 b h⟩)
def o128(b:Bridge):Bool×List Row×List Row:=(decide (b.Ports.length≤1048576),[[.bool (bridgeOk b)]],[])
def c128:Contract:=(cp zp4 λb=>c0 (o128 b)) true
def k128_0:KT:=λn↦kThen (λst↦rC 128 T136 n f128 [1,1] 4 [] 4 st (lV f128 [] [])) (lV f128 [] [])
def k128_1:KT:=λn↦kBlock (0) (k128_0 n)
def S128_0(b:Bridge)(i0:Int):St:=St.mk (U_::V_ [C.ptr 0 0 0 [] 2 0 0]::U_::I_ i0::u_ 23 []) [Root.mk true 2 [[D.int i64 (Bridge.Id b),D.sl false 11 (enS false (Bridge.Ports b))]] 0 0 true true false [] 0 []]
def B128_0:BT:=λn↦rC 128 T136 n f128 [1,0,1,0,0] 10 [(0,2)] 4
def X128_2(b:Bridge):St:=St.mk (U_::U_::B_ false::u_ 24 []) [Root.mk true 2 [[D.int i64 (Bridge.Id b),D.sl false 11 (enS false (Bridge.Ports b))]] 0 0 true true false [] 0 []]
def X128_3(b:Bridge):St:=St.mk (U_::V_ [C.ptr 0 0 0 [] 2 0 0]::u_ 25 []) [Root.mk true 2 [[D.int i64 (Bridge.Id b),D.sl false 11 (enS false (Bridge.Ports b))]] 0 0 true true false [] 0 []]
def y128_0(b:Bridge)(i0:Int):=getD (enS false (Bridge.Ports b)) (toNat i0) []
theorem Zwb(b:Bridge)(n:Nat)(i0:Int)(f:St→RR)(K:Ex→St→RR):B128_0 n (S128_0 b i0) (kThen (λst↦f (St.head 1 10 262140 st)) K)=bif decide (i0<ofNat (length (enS false (Bridge.Ports b))))then bif decide (0≤i0)&&decide (i0<ofNat (length (enS false (Bridge.Ports b))))then bif Leaf.fit false Leaf.bool (getD (y128_0 b i0) 0 D.dead)&&(Leaf.fit false Leaf.bool (getD (y128_0 b i0) 1 D.dead)&&(Leaf.fit false (Leaf.int i64) (getD (y128_0 b i0) 2 D.dead)&&(Leaf.fit false (Leaf.int i64) (getD (y128_0 b i0) 3 D.dead)&&(Leaf.fit false (Leaf.int i64) (getD (y128_0 b i0) 4 D.dead)&&(Leaf.fit false (Leaf.int i64) (getD (y128_0 b i0) 5 D.dead)&&(Leaf.fit false (Leaf.int i64) (getD (y128_0 b i0) 6 D.dead)&&(Leaf.fit false (Leaf.int i64) (getD (y128_0 b i0) 7 D.dead)&&(Leaf.fit false (Leaf.int i64) (getD (y128_0 b i0) 8 D.dead)&&(Leaf.fit false (Leaf.int i64) (getD (y128_0 b i0) 9 D.dead)&&(Leaf.fit false Leaf.bool (getD (y128_0 b i0) 10 D.dead)&&true))))))))))then bif !portOk (Port.mk (D.flag (getD (y128_0 b i0) 0 D.dead)) (D.flag (getD (y128_0 b i0) 1 D.dead)) (Vec.mk (D.num (getD (y128_0 b i0) 2 D.dead)) (D.num (getD (y128_0 b i0) 3 D.dead)) (D.num (getD (y128_0 b i0) 4 D.dead)) (D.num (getD (y128_0 b i0) 5 D.dead))) (D.num (getD (y128_0 b i0) 6 D.dead)) (D.num (getD (y128_0 b i0) 7 D.dead)) (D.num (getD (y128_0 b i0) 8 D.dead)) (D.num (getD (y128_0 b i0) 9 D.dead)) (D.flag (getD (y128_0 b i0) 10 D.dead)))then K Ex.ret (X128_2 b)else f (S128_0 b (wrap i64 (i0+1)))else none else none else K (Ex.exit 0) (X128_3 b):=by kernel_rfl
theorem Zw6(b:Bridge)(n:Nat):k128_1 n Ex.ret (X128_2 b)=some ([[D.bool false]],[]):=by kernel_rfl
theorem Zw7(b:Bridge)(n:Nat):k128_1 n (Ex.exit 0) (X128_3 b)=bif inR (Bridge.Id b) (1) (9)then some ([[D.bool (inR (ofNat (length (enS false (Bridge.Ports b)))) (1) (4))]],[])else some ([[D.bool false]],[]):=by kernel_rfl
def e128(b:Bridge)(n:Nat):=evFn ⟨prog,Hx,128⟩ T136.call n f128 [zp4.row b]
theorem r128(b:Bridge)(n:Nat):e128 b n=loopRun (B128_0 n) 1 10 262140 n (S128_0 b (0)) (k128_1 n):=by kernel_rfl
theorem m128(b:Bridge):(o128 b).1=true→e128 b (b.Ports.length+1)=some (o128 b).2:=by
 refine pm λhpre=>(r128 b _).trans ?_;have hlen:=of_decide_eq_true hpre;unfold bridgeOk;refine Zai (xs:=b.Ports) (λi (_:Unit)=>S128_0 b (Int.ofNat i)) (λ_ _=>True) (λ_ _ rest=>some ([[D.bool (rest.all portOk&&(inR b.Id 1 9&&inR (b.Ports.length:Int) 1 4))]],[])) ?_ ?_ (b.Ports.length+1) () (by omega) trivial
 ·rintro _ _ f;refine(Zwb b _ _ f _).trans ?_;delta y128_0;rw[Zaw,cond_false];refine(Zw7 _ _).trans ?_;simp only[Zaa,List.all_nil,Bool.true_and];cases inR b.Id 1 9<;>rfl
 ·rintro i _ hi _ f hf;refine(Zwb b _ _ f _).trans ?_;delta y128_0;simp only[gos,En.enc,D.num,D.flag,D.text,D.rows,Leaf.fit,Zbo,Zab _ hi,hi,Zae (show i<4611686018427387904 by omega)]
  cases hp:portOk b.Ports[i]
  ·simp only[gos,En.enc,D.num,D.flag,D.text,D.rows,Leaf.fit,Zbo];refine(Zw6 _ _).trans ?_;simp only[List.all_cons,hp,Bool.false_and]
  ·simp only[gos,En.enc,D.num,D.flag,D.text,D.rows,Leaf.fit,Zbo];refine(hf () trivial).trans ?_;simp only[List.all_cons,hp,Bool.true_and]
def T128:Table:=(128,c128)::T136
theorem Zot:Table.Sound prog Hx T128:=sa Zo1 func128 (by kernel_rfl) (Zah λb=>Zan λh=>⟨_,m128 b h⟩)
end Go.Ev
end
