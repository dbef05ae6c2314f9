/- Contracts of functions, each by its evaluation. -/
import Derived.Test.YtihhlajibgoemaaGreatEvMd
import Derived.Test.YtihhlajibgoemaaGreatProg
import Derived.KernelRfl
import Derived.Test.YtihhlajibgoemaaGreatFFab1
set_option linter.unusedVariables false
set_option linter.unusedSimpArgs false
set_option maxRecDepth 100000
noncomputable section
open List (getD length drop take set append replicate all isEmpty)
open Int (toNat ofNat)
open Go.IntKind (i64 wrap)
open Go.Proofs.Tryz (prog f107 f116 f129 f131 f137 f152 f153 f161 func107 func116 func129 func131 func137 func152 func153 func161)
namespace Go.Ev
open Go.RowKit Go.Md
end Go.Ev
namespace Go.Md
open Go Go.Ev
def endA(l:Link):TEnd:=⟨l.A,l.P⟩
def endB(l:Link):TEnd:=⟨l.B,l.Q⟩
def sameE(a b:TEnd):Bool:=a.bridge==b.bridge&&a.port==b.port
def endsL(ls:List Link):List TEnd:=ls.flatMap (λl=>[endA l,endB l])
def idxE(e:TEnd):Int→List TEnd→Int
 |_,[]=>-1
 |k,x::xs=>bif sameE e x then k else idxE e (k+1) xs
def contE(l:List TEnd)(e:TEnd):Bool:=l.any (sameE e)
def portsAt(n:Net)(a:Int):List Port:=(n.Bridges.getD a.toNat ⟨0,[]⟩).Ports
def isEndB(n:Net)(e:TEnd):Bool:=inR e.bridge 0 ((n.Bridges.length:Int)-1)&&inR e.port 0 (((portsAt n e.bridge).length:Int)-1)
def linksL(n:Net):List TEnd→List Link→Bool
 |_,[]=>true
 |u,l::ls=>!(l.A==l.B)&&(isEndB n (endA l)&&(isEndB n (endB l)&&(!contE u (endA l)&&(!contE u (endB l)&&linksL n (u++[endA l,endB l]) ls))))
def upP(u:List TEnd)(i:Int):Int→List Port→Bool
 |_,[]=>true
 |k,p::ps=>p.Up==contE u ⟨i,k⟩&&upP u i (k+1) ps
def upB(u:List TEnd):Int→List Bridge→Bool
 |_,[]=>true
 |i,b::bs=>upP u i 0 b.Ports&&upB u (i+1) bs
def linksB(n:Net):Bool:=linksL n [] n.Links&&(upB (endsL n.Links) 0 n.Bridges&&decide (n.Links.length≤6))
def upAt(n:Net)(a p:Int):Bool:=((portsAt n a).getD p.toNat ⟨false,false,⟨0,0,0,0⟩,0,0,0,0,false⟩).Up
def bitE(c:Bool):Int:=bif c then 1 else 0
def onceL(a p:Int):List Link→Int→Int
 |[],k=>k
 |l::ls,k=>onceL a p ls (k+bitE (l.A==a&&l.P==p)+bitE (l.B==a&&l.Q==p))
def idsB:List Bridge→List Bridge→Bool
 |_,[]=>true
 |u,b::bs=>bridgeOk b&&(!u.any (λo=>o.Id==b.Id)&&idsB (u++[b]) bs)
def netOk(n:Net):Bool:=idsB [] n.Bridges&&(inR (n.Bridges.length:Int) 1 5&&linksB n)
theorem Zbg{n:Net}(h:Net.small n=true):n.Bridges.length≤1048576∧(∀b∈n.Bridges,b.Ports.length≤1048576)∧n.Links.length≤1048576:=by
 unfold Net.small at h;simp only[Bool.and_eq_true,decide_eq_true_eq,List.all_eq_true]at h;obtain⟨⟨h1,h2⟩,h3⟩:=h;refine⟨h1,λb hb=>?_,h3⟩;have:=h2 b hb;unfold Bridge.small at this;exact of_decide_eq_true this
theorem Zih{x a b:Int}(h:inR x a b=true):a≤x∧x≤b:=by
 unfold inR at h;simp only[Bool.and_eq_true,decide_eq_true_eq]at h;exact h
theorem Zdc(n:Net)(k:Nat)(hk:k<n.Bridges.length):portsAt n (k:Int)=n.Bridges[k].Ports:=by
 unfold portsAt;rw[Int.toNat_natCast];simp[hk]
theorem Zke(u:List Bridge)(b:Bridge)(bs:List Bridge):idsB u (b::bs)=(bridgeOk b&&(!u.any (λo=>o.Id==b.Id)&&idsB (u++[b]) bs)):=by simp only[idsB]
theorem Zjl(n:Net)(u:List TEnd)(l:Link)(ls:List Link):linksL n u (l::ls)=(!(l.A==l.B)&&(isEndB n (endA l)&&(isEndB n (endB l)&&(!contE u (endA l)&&(!contE u (endB l)&&linksL n (u++[endA l,endB l]) ls))))):=by simp only[linksL]
theorem Zn0(u:List TEnd)(i k:Int)(p:Port)(ps:List Port):upP u i k (p::ps)=(p.Up==contE u ⟨i,k⟩&&upP u i (k+1) ps):=by simp only[upP]
theorem Znz(u:List TEnd)(i:Int)(b:Bridge)(bs:List Bridge):upB u i (b::bs)=(upP u i 0 b.Ports&&upB u (i+1) bs):=by simp only[upB]
theorem Zx0(n:Nat):decide (Int.ofNat n≤6)=decide (n≤6):=by
 rw[Bool.eq_iff_iff];simp;omega
theorem Zkf(e x:TEnd)(k:Int)(xs:List TEnd):idxE e k (x::xs)=bif sameE e x then k else idxE e (k+1) xs:=by simp only[idxE]
theorem Zvr(e:TEnd):∀(xs:List TEnd) (k:Int),0≤k→decide (idxE e k xs≥0)=xs.any (sameE e)
 |[],k,h=>rfl
 |x::xs,k,h=>by
  rw[Zkf,List.any_cons];cases sameE e x
  ·simp only[cond_false,Bool.false_or];exact Zvr e xs (k+1) (by omega)
  ·simp only[cond_true,Bool.true_or];exact decide_eq_true h
theorem bitE_b(c:Bool):0≤bitE c∧bitE c≤1:=by cases c<;>decide
end Go.Md
namespace Go.Ev
open Go.Md
def o116(l:Link):Bool×List Row×List Row:=(true,[[.int .i64 (endA l).bridge,.int .i64 (endA l).port],[.int .i64 (endB l).bridge,.int .i64 (endB l).port]],[])
def c116:Contract:=(cp zp16 λl=>c0 (o116 l)) true
def e116(l:Link)(n:Nat):=evFn ⟨prog,Hx,116⟩ T91.call n f116 [zp16.row l]
theorem r116(l:Link)(n:Nat):e116 l n=some ([[D.int i64 (Link.A l),D.int i64 (Link.P l)],[D.int i64 (Link.B l),D.int i64 (Link.Q l)]],[]):=by kernel_rfl
theorem m116(l:Link):(o116 l).1=true→e116 l 0=some (o116 l).2:=by
 refine pm λhpre=>(r116 l _).trans ?_;rfl
def T116:Table:=(116,c116)::T91
theorem Zoh:Table.Sound prog Hx T116:=sa Zsj func116 (by kernel_rfl) (Zah λl=>Zan λh=>⟨_,m116 l h⟩)
def o152(n_:Net)(e:TEnd):Bool×List Row×List Row:=(Net.small n_,[[.bool (isEndB n_ e)]],[])
def zp24:Pa (TEnd):=⟨λe=>[.int .i64 e.bridge,.int .i64 e.port],λr=>match r with|[.int .i64 e_bridge,.int .i64 e_port]=>some (λt=>t,⟨e_bridge,e_port⟩)|_=>none,by
 intro r f x h t ht;split at h
 ·cases h;exact⟨ht,rfl⟩
 ·cases h⟩
def c152:Contract:=(cp zp18 λn_=>cp zp24 λe=>c0 (o152 n_ e)) true
def e152(n_:Net)(e:TEnd)(n:Nat):=evFn ⟨prog,Hx,152⟩ T116.call n f152 [zp18.row n_,zp24.row e]
theorem r152(n_:Net)(e:TEnd)(n:Nat):e152 n_ e n=bif inR (TEnd.bridge e) (0) (wrap i64 (ofNat (length (enS false (Net.Bridges n_)))-1))then bif decide (0≤TEnd.bridge e)&&decide (TEnd.bridge e<ofNat (length (enS false (Net.Bridges n_))))then bif Leaf.fit false (Leaf.sl 11 true) (getD (drop 1 (getD (enS false (Net.Bridges n_)) (toNat (TEnd.bridge e)) [])) 0 D.dead)&&true then some ([[D.bool (inR (TEnd.port e) (0) (wrap i64 (ofNat (length (D.rows (getD (drop 1 (getD (enS false (Net.Bridges n_)) (toNat (TEnd.bridge e)) [])) 0 D.dead)))-1)))]],[])else none else none else some ([[D.bool false]],[]):=by kernel_rfl
theorem m152(n_:Net)(e:TEnd):(o152 n_ e).1=true→e152 n_ e 0=some (o152 n_ e).2:=by
 refine pm λhpre=>(r152 n_ e _).trans ?_;obtain⟨hs1,hs2,hs3⟩:=Zbg hpre;unfold isEndB;have hw:IntKind.wrap IntKind.i64 (Int.ofNat n_.Bridges.length-1)=(n_.Bridges.length:Int)-1:=Zhc (by show _≤(n_.Bridges.length:Int)-1;omega) (by show(n_.Bridges.length:Int)-1≤_;omega)
 simp only[Zaa,hw];cases h:inR e.bridge 0 ((n_.Bridges.length:Int)-1)
 ·rfl
 have hb:=Zih h;obtain⟨k,hk⟩:=Int.eq_ofNat_of_zero_le hb.1;rw[hk]at hb⊢;have hk2:k<n_.Bridges.length:=by omega
 have hl:=hs2 _ (List.getElem_mem hk2);have hg:=Zab (α:=Bridge) false hk2;have e1:decide (0≤(k:Int))=true:=decide_eq_true (by omega)
 have e2:decide ((k:Int)<Int.ofNat n_.Bridges.length)=true:=decide_eq_true (by show(k:Int)<(n_.Bridges.length:Int);omega)
 have hw2:IntKind.wrap IntKind.i64 (Int.ofNat n_.Bridges[k].Ports.length-1)=(n_.Bridges[k].Ports.length:Int)-1:=Zhc (by show _≤(n_.Bridges[k].Ports.length:Int)-1;omega) (by show(n_.Bridges[k].Ports.length:Int)-1≤_;omega)
 have hp:=Zdc n_ k hk2;simp only[gos,En.enc,D.num,D.flag,D.text,D.rows,Leaf.fit,Zbo,e1,e2,Int.toNat_natCast,hg,hw2,hp,List.drop_succ_cons,List.drop_zero,beq_self_eq_true]
 all_goals rfl
def T152:Table:=(152,c152)::T116
theorem Zph:Table.Sound prog Hx T152:=sa Zoh func152 (by kernel_rfl) (Zah λn_=>Zah λe=>Zan λh=>⟨_,m152 n_ e h⟩)
def o161(s:List TEnd)(v:TEnd):Bool×List Row×List Row:=(decide (s.length≤4194304),[[.int .i64 (idxE v 0 s)]],[])
def zp25:Pa (List TEnd):=⟨λs=>[.sl false 2 (enS false s)],λr=>match r with|[.sl false 2 s]=>some (λt=>t&&isS TEnd false s,(deS TEnd s))|_=>none,by
 intro r f x h t ht;split at h
 ·cases h;simp only[Bool.and_eq_true]at ht;obtain⟨ht,h0⟩:=ht;obtain⟨_,rfl⟩:=Zay h0;exact⟨ht,by simp only[Zad]⟩
 ·cases h⟩
def c161:Contract:=(cp zp25 λs=>cp zp24 λv=>c0 (o161 s v)) true
def k161_0:KT:=λn↦kThen (λst↦rC 161 T152 n f161 [1,1] 16 [] 16 st (lV f161 [] [])) (lV f161 [] [])
def k161_1:KT:=λn↦kBlock (0) (k161_0 n)
def S161_0(s:List TEnd)(v:TEnd)(i0:Int):St:=St.mk (V_ [C.d (D.sl false 2 (enS false s))]::U_::U_::V_ [C.ptr 0 0 0 [] 2 0 0]::U_::U_::U_::I_ (ofNat (length (enS false s)))::I_ i0::u_ 10 []) [Root.mk true 2 [[D.int i64 (TEnd.bridge v),D.int i64 (TEnd.port v)]] 0 0 true true false [] 0 []]
def B161_0:BT:=λn↦rC 161 T152 n f161 [1,0,1,0,0] 393 [(0,0)] 16
def X161_2(v:TEnd)(i0:Int):St:=St.mk (u_ 4 (I_ i0::u_ 14 [])) [Root.mk true 2 [[D.int i64 (TEnd.bridge v),D.int i64 (TEnd.port v)]] 0 0 true true false [] 0 []]
def X161_3(v:TEnd):St:=St.mk (u_ 19 []) [Root.mk true 2 [[D.int i64 (TEnd.bridge v),D.int i64 (TEnd.port v)]] 0 0 true true false [] 0 []]
theorem Zwm(s:List TEnd)(v:TEnd)(n:Nat)(i0:Int)(f:St→RR)(K:Ex→St→RR):B161_0 n (S161_0 s v i0) (kThen (λst↦f (St.head 1 393 524080 st)) K)=bif decide (i0<ofNat (length (enS false s)))then bif decide (0≤i0)&&decide (i0<ofNat (length (enS false s)))then bif Leaf.fit false (Leaf.int i64) (getD (getD (enS false s) (toNat i0) []) 0 D.dead)&&(Leaf.fit false (Leaf.int i64) (getD (getD (enS false s) (toNat i0) []) 1 D.dead)&&true)then bif TEnd.bridge v==D.num (getD (getD (enS false s) (toNat i0) []) 0 D.dead)&&(TEnd.port v==D.num (getD (getD (enS false s) (toNat i0) []) 1 D.dead)&&true)then K Ex.ret (X161_2 v i0)else f (S161_0 s v (wrap i64 (i0+1)))else none else none else K (Ex.exit 0) (X161_3 v):=by kernel_rfl
theorem Zxi(v:TEnd)(n:Nat)(i0:Int):k161_1 n Ex.ret (X161_2 v i0)=some ([[D.int i64 i0]],[]):=by kernel_rfl
theorem Zxj(v:TEnd)(n:Nat):k161_1 n (Ex.exit 0) (X161_3 v)=some ([[D.int i64 (Int.negSucc 0)]],[]):=by kernel_rfl
def e161(s:List TEnd)(v:TEnd)(n:Nat):=evFn ⟨prog,Hx,161⟩ T152.call n f161 [zp25.row s,zp24.row v]
theorem r161(s:List TEnd)(v:TEnd)(n:Nat):e161 s v n=loopRun (B161_0 n) 1 393 524080 n (S161_0 s v (0)) (k161_1 n):=by kernel_rfl
theorem m161(s:List TEnd)(v:TEnd):(o161 s v).1=true→e161 s v (s.length+1)=some (o161 s v).2:=by
 refine pm λhpre=>(r161 s v _).trans ?_;have hlen:=of_decide_eq_true hpre;refine Zai (xs:=s) (λi (_:Unit)=>S161_0 s v (Int.ofNat i)) (λ_ _=>True) (λi _ rest=>some ([[D.int .i64 (idxE v (Int.ofNat i) rest)]],[])) ?_ ?_ (s.length+1) () (by omega) trivial
 ·rintro _ _ f;refine(Zwm s v _ _ f _).trans ?_;rw[Zaw,cond_false];exact Zxj _ _
 ·rintro i _ hi _ f hf;refine(Zwm s v _ _ f _).trans ?_;simp only[gos,En.enc,D.num,D.flag,D.text,D.rows,Leaf.fit,Zbo,Zab _ hi,hi,Zae (show i<4611686018427387904 by omega)]
  have hs:(v.bridge==s[i].bridge&&v.port==s[i].port)=sameE v s[i]:=rfl;simp only[hs];cases hp:sameE v s[i]
  ·simp only[gos,En.enc,D.num,D.flag,D.text,D.rows,Leaf.fit,Zbo];refine(hf () trivial).trans ?_;have hc:Int.ofNat i+1=Int.ofNat (i+1):=rfl;rw[Zkf,hp,cond_false,hc]
  ·simp only[gos,En.enc,D.num,D.flag,D.text,D.rows,Leaf.fit,Zbo];refine(Zxi _ _ _).trans ?_;rw[Zkf,hp,cond_true]
def T161:Table:=(161,c161)::T152
theorem Zpq:Table.Sound prog Hx T161:=sa Zph func161 (by kernel_rfl) (Zah λs=>Zah λv=>Zan λh=>⟨_,m161 s v h⟩)
def o153(s:List TEnd)(v:TEnd):Bool×List Row×List Row:=(decide (s.length≤4194304),[[.bool (contE s v)]],[])
def c153:Contract:=(cp zp25 λs=>cp zp24 λv=>c0 (o153 s v)) true
def e153(s:List TEnd)(v:TEnd)(n:Nat):=evFn ⟨prog,Hx,153⟩ T161.call n f153 [zp25.row s,zp24.row v]
theorem r153(s:List TEnd)(v:TEnd)(n:Nat):e153 s v n=bif isS TEnd false (enS false s)&&decide (length (deS TEnd (enS false s))≤4194304)then some ([[D.bool (decide (idxE v (0) (deS TEnd (enS false s))≥0))]],[])else none:=by kernel_rfl
theorem m153(s:List TEnd)(v:TEnd):(o153 s v).1=true→e153 s v 0=some (o153 s v).2:=by
 refine pm λhpre=>(r153 s v _).trans ?_;simp only[gos,En.enc,D.num,D.flag,D.text,D.rows,Leaf.fit,Zbo,hpre];rw[Zvr v s 0 (by omega)]
 all_goals rfl
def T153:Table:=(153,c153)::T161
theorem Zpi:Table.Sound prog Hx T153:=sa Zpq func153 (by kernel_rfl) (Zah λs=>Zah λv=>Zan λh=>⟨_,m153 s v h⟩)
def o137(n_:Net):Bool×List Row×List Row:=(Net.small n_,[[.bool (linksB n_)]],[])
def c137:Contract:=(cp zp18 λn_=>c0 (o137 n_)) true
def k137_0:KT:=λn↦kThen (λst↦rC 137 T153 n f137 [1,1,1] 4 [] 4 st (lV f137 [] [])) (lV f137 [] [])
def k137_1:KT:=λn↦kBlock (0) (k137_0 n)
def S137_0(n_:Net)(i0:Int)(es1:List (List D)):St:=St.mk (V_ [C.rptr [D.sl false 2 (enS false (Net.Bridges n_)),D.sl false 4 (enS false (Net.Links n_))]]::U_::U_::V_ [C.view 0 0 0 [] 2 none]::u_ 11 (V_ [C.d (D.sl false 4 (enS false (Net.Links n_)))]::I_ (ofNat (length (enS false (Net.Links n_))))::I_ i0::u_ 75 [])) [Root.mk false 2 es1 0 0 true true false [] 0 []]
def B137_0:BT:=λn↦rC 137 T153 n f137 [1,1,0,1,0,0] 229385 [(0,9)] 4
def y137_4(i0:Int)(n_:Net):=getD (enS false (Net.Links n_)) (toNat i0) []
def y137_0(i0:Int)(n_:Net):=Link.mk (D.num (getD (y137_4 i0 n_) 0 D.dead)) (D.num (getD (y137_4 i0 n_) 1 D.dead)) (D.num (getD (y137_4 i0 n_) 2 D.dead)) (D.num (getD (y137_4 i0 n_) 3 D.dead))
def X137_2(n_:Net)(i0:Int)(es1:List (List D)):St:=St.mk (U_::U_::B_ false::u_ 90 []) [Root.mk false 2 es1 0 0 true true false [] 0 [],Root.mk true 4 [[D.int i64 (D.num (getD (y137_4 i0 n_) 0 D.dead)),D.int i64 (D.num (getD (y137_4 i0 n_) 1 D.dead)),D.int i64 (D.num (getD (y137_4 i0 n_) 2 D.dead)),D.int i64 (D.num (getD (y137_4 i0 n_) 3 D.dead))]] 0 0 true true false [] 0 [],Root.mk true 2 [[D.int i64 (TEnd.bridge (endA (y137_0 i0 n_))),D.int i64 (TEnd.port (endA (y137_0 i0 n_)))]] 0 0 true true false [] 0 [],Root.mk true 2 [[D.int i64 (TEnd.bridge (endB (y137_0 i0 n_))),D.int i64 (TEnd.port (endB (y137_0 i0 n_)))]] 0 0 true true false [] 0 []]
def X137_7(n_:Net)(es1:List (List D)):St:=St.mk (V_ [C.rptr [D.sl false 2 (enS false (Net.Bridges n_)),D.sl false 4 (enS false (Net.Links n_))]]::U_::U_::V_ [C.view 0 0 0 [] 2 none]::u_ 89 []) [Root.mk false 2 es1 0 0 true true false [] 0 []]
def y137_3(n_:Net):=Net.mk (deS Bridge (enS false (Net.Bridges n_))) (deS Link (enS false (Net.Links n_)))
theorem Zwf(n_:Net)(n:Nat)(i0:Int)(es1:List (List D))(f:St→RR)(K:Ex→St→RR):B137_0 n (S137_0 n_ i0 es1) (kThen (λst↦f (St.head 0 229385 576460752303292652 st)) K)=bif decide (i0<ofNat (length (enS false (Net.Links n_))))then bif decide (0≤i0)&&decide (i0<ofNat (length (enS false (Net.Links n_))))then bif Leaf.fit false (Leaf.int i64) (getD (y137_4 i0 n_) 0 D.dead)&&(Leaf.fit false (Leaf.int i64) (getD (y137_4 i0 n_) 1 D.dead)&&(Leaf.fit false (Leaf.int i64) (getD (y137_4 i0 n_) 2 D.dead)&&(Leaf.fit false (Leaf.int i64) (getD (y137_4 i0 n_) 3 D.dead)&&true)))then bif TEnd.bridge (endA (y137_0 i0 n_))==TEnd.bridge (endB (y137_0 i0 n_))then K Ex.ret (X137_2 n_ i0 es1)else bif isS Bridge false (enS false (Net.Bridges n_))&&isS Link false (enS false (Net.Links n_))&&Net.small (y137_3 n_)then bif !isEndB (y137_3 n_) (endA (y137_0 i0 n_))then K Ex.ret (X137_2 n_ i0 es1)else bif isS Bridge false (enS false (Net.Bridges n_))&&isS Link false (enS false (Net.Links n_))&&Net.small (y137_3 n_)then bif !isEndB (y137_3 n_) (endB (y137_0 i0 n_))then K Ex.ret (X137_2 n_ i0 es1)else bif isS TEnd false (lendRows es1)&&decide (length (deS TEnd (lendRows es1))≤4194304)then bif contE (deS TEnd (lendRows es1)) (endA (y137_0 i0 n_))then K Ex.ret (X137_2 n_ i0 es1)else bif isS TEnd false (lendRows es1)&&decide (length (deS TEnd (lendRows es1))≤4194304)then bif contE (deS TEnd (lendRows es1)) (endB (y137_0 i0 n_))then K Ex.ret (X137_2 n_ i0 es1)else bif decide ((length es1+2)*16≤140737488355328)then f (S137_0 n_ (wrap i64 (i0+1)) (append es1 [[D.int i64 (TEnd.bridge (endA (y137_0 i0 n_))),D.int i64 (TEnd.port (endA (y137_0 i0 n_)))],[D.int i64 (TEnd.bridge (endB (y137_0 i0 n_))),D.int i64 (TEnd.port (endB (y137_0 i0 n_)))]]))else none else none else none else none else none else none else none else K (Ex.exit 0) (X137_7 n_ es1):=by kernel_rfl
theorem Zhx(n_:Net)(n:Nat)(i0:Int)(es1:List (List D)):k137_1 n Ex.ret (X137_2 n_ i0 es1)=some ([[D.bool false]],[]):=by kernel_rfl
def k137_8:KT:=λn↦kThen (λst↦rC 137 T153 n f137 [1,1,1,1] 4 [] 4 st (lV f137 [] [])) (lV f137 [] [])
def k137_9:KT:=λn↦kBlock (2) (k137_8 n)
def y137_2(i0_:Int)(n_:Net):=V_ [C.rptr [D.sl false 2 (enS false (Net.Bridges n_)),D.sl false 4 (enS false (Net.Links n_))]]::U_::U_::V_ [C.view 0 0 0 [] 2 none]::u_ 58 (V_ [C.d (D.sl false 2 (enS false (Net.Bridges n_)))]::I_ (ofNat (length (enS false (Net.Bridges n_))))::I_ i0_::u_ 28 [])
def S137_1(n_:Net)(es1:List (List D))(i0_:Int):St:=St.mk (y137_2 i0_ n_) [Root.mk false 2 es1 0 0 true true false [] 0 []]
def B137_1:BT:=λn↦rC 137 T153 n f137 [1,1,1,0,1,0,0] 32281802128991715337 [(2,1)] 4
def k137_10(f:St→RR)(K:Ex→St→RR):Ex→St→RR:=kThen (λst↦f (St.head 1 32281802128991715337 154742486463928460652842756 st)) K
def k137_11(n:Nat)(f:St→RR)(K:Ex→St→RR):Ex→St→RR:=kThen (λst↦rC 137 T153 n f137 [1,1,1,0,1,0,0,1,1,1] 32281802128991715337 [(2,1)] 4 st (k137_10 f K)) (k137_10 f K)
def k137_12(n:Nat)(f:St→RR)(K:Ex→St→RR):Ex→St→RR:=kBlock (3) (k137_11 n f K)
def k137_13(n:Nat)(f:St→RR)(K:Ex→St→RR):Ex→St→RR:=kBlock (4) (k137_12 n f K)
def y137_1(i0_:Int)(n_:Net):=D.rows (getD (getD (enS false (Net.Bridges n_)) (toNat i0_) []) 1 D.dead)
def y137_5(i0_:Int)(n_:Net):=getD (getD (enS false (Net.Bridges n_)) (toNat i0_) []) 0 D.dead
def S137_2(n_:Net)(es1:List (List D))(i0_:Int)(i0__:Int):St:=St.mk (V_ [C.rptr [D.sl false 2 (enS false (Net.Bridges n_)),D.sl false 4 (enS false (Net.Links n_))]]::U_::U_::V_ [C.view 0 0 0 [] 2 none]::u_ 4 (I_ i0_::u_ 53 (V_ [C.d (D.sl false 2 (enS false (Net.Bridges n_)))]::I_ (ofNat (length (enS false (Net.Bridges n_))))::I_ i0_::u_ 5 (V_ [C.d (D.sl false 11 (y137_1 i0_ n_))]::I_ (ofNat (length (y137_1 i0_ n_)))::I_ i0__::u_ 20 [])))) [Root.mk false 2 es1 0 0 true true false [] 0 [],Root.mk true 2 [[D.int i64 (D.num (y137_5 i0_ n_)),D.sl false 11 (y137_1 i0_ n_)]] 0 0 true true false [] 0 []]
def B137_2:BT:=λn↦rC 137 T153 n f137 [1,1,1,0,1,0,0,1,1,0,0,1,1,0,0] 8296423147150870839561 [(4,32281802128991715337),(3,32281802128991715337),(2,1)] 4
def X137_14(n_:Net)(es1:List (List D))(i0_:Int)(i0__:Int):St:=St.mk (U_::U_::B_ false::u_ 90 []) [Root.mk false 2 es1 0 0 true true false [] 0 [],Root.mk true 2 [[D.int i64 (D.num (y137_5 i0_ n_)),D.sl false 11 (y137_1 i0_ n_)]] 0 0 true true false [] 0 [],Root.mk true 11 [[D.bool (D.flag (getD (getD (y137_1 i0_ n_) (toNat i0__) []) 0 D.dead)),D.bool (D.flag (getD (getD (y137_1 i0_ n_) (toNat i0__) []) 1 D.dead)),D.int i64 (D.num (getD (getD (y137_1 i0_ n_) (toNat i0__) []) 2 D.dead)),D.int i64 (D.num (getD (getD (y137_1 i0_ n_) (toNat i0__) []) 3 D.dead)),D.int i64 (D.num (getD (getD (y137_1 i0_ n_) (toNat i0__) []) 4 D.dead)),D.int i64 (D.num (getD (getD (y137_1 i0_ n_) (toNat i0__) []) 5 D.dead)),D.int i64 (D.num (getD (getD (y137_1 i0_ n_) (toNat i0__) []) 6 D.dead)),D.int i64 (D.num (getD (getD (y137_1 i0_ n_) (toNat i0__) []) 7 D.dead)),D.int i64 (D.num (getD (getD (y137_1 i0_ n_) (toNat i0__) []) 8 D.dead)),D.int i64 (D.num (getD (getD (y137_1 i0_ n_) (toNat i0__) []) 9 D.dead)),D.bool (D.flag (getD (getD (y137_1 i0_ n_) (toNat i0__) []) 10 D.dead))]] 0 0 true true false [] 0 []]
def X137_15(n_:Net)(es1:List (List D))(i0_:Int):St:=St.mk (y137_2 i0_ n_) [Root.mk false 2 es1 0 0 true true false [] 0 [],Root.mk true 2 [[D.int i64 (D.num (y137_5 i0_ n_)),D.sl false 11 (y137_1 i0_ n_)]] 0 0 true true false [] 0 []]
theorem Zwh(n_:Net)(n:Nat)(es1:List (List D))(i0_:Int)(i0__:Int)(f_:St→RR)(K_:Ex→St→RR):B137_2 n (S137_2 n_ es1 i0_ i0__) (kThen (λst↦f_ (St.head 2 8296423147150870839561 77366530088853397535984644 st)) K_)=bif decide (i0__<ofNat (length (y137_1 i0_ n_)))then bif decide (0≤i0__)&&decide (i0__<ofNat (length (y137_1 i0_ n_)))then bif Leaf.fit false Leaf.bool (getD (getD (y137_1 i0_ n_) (toNat i0__) []) 0 D.dead)&&(Leaf.fit false Leaf.bool (getD (getD (y137_1 i0_ n_) (toNat i0__) []) 1 D.dead)&&(Leaf.fit false (Leaf.int i64) (getD (getD (y137_1 i0_ n_) (toNat i0__) []) 2 D.dead)&&(Leaf.fit false (Leaf.int i64) (getD (getD (y137_1 i0_ n_) (toNat i0__) []) 3 D.dead)&&(Leaf.fit false (Leaf.int i64) (getD (getD (y137_1 i0_ n_) (toNat i0__) []) 4 D.dead)&&(Leaf.fit false (Leaf.int i64) (getD (getD (y137_1 i0_ n_) (toNat i0__) []) 5 D.dead)&&(Leaf.fit false (Leaf.int i64) (getD (getD (y137_1 i0_ n_) (toNat i0__) []) 6 D.dead)&&(Leaf.fit false (Leaf.int i64) (getD (getD (y137_1 i0_ n_) (toNat i0__) []) 7 D.dead)&&(Leaf.fit false (Leaf.int i64) (getD (getD (y137_1 i0_ n_) (toNat i0__) []) 8 D.dead)&&(Leaf.fit false (Leaf.int i64) (getD (getD (y137_1 i0_ n_) (toNat i0__) []) 9 D.dead)&&(Leaf.fit false Leaf.bool (getD (getD (y137_1 i0_ n_) (toNat i0__) []) 10 D.dead)&&true))))))))))then bif isS TEnd false (lendRows es1)&&decide (length (deS TEnd (lendRows es1))≤4194304)then bif D.flag (getD (getD (y137_1 i0_ n_) (toNat i0__) []) 0 D.dead) !=contE (deS TEnd (lendRows es1)) (TEnd.mk i0_ i0__)then K_ Ex.ret (X137_14 n_ es1 i0_ i0__)else f_ (S137_2 n_ es1 i0_ (wrap i64 (i0__+1)))else none else none else none else K_ (Ex.exit 4) (X137_15 n_ es1 i0_):=by kernel_rfl
theorem Zup(n_:Net)(n:Nat)(es1:List (List D))(i0_:Int)(i0__:Int):k137_9 n Ex.ret (X137_14 n_ es1 i0_ i0__)=some ([[D.bool false]],[]):=by kernel_rfl
theorem Zun(n_:Net)(n:Nat)(es1:List (List D))(i0_:Int)(f:St→RR)(K:Ex→St→RR)(i0__:Int):k137_13 n f K Ex.ret (X137_14 n_ es1 i0_ i0__)=K Ex.ret (X137_14 n_ es1 i0_ i0__):=by kernel_rfl
theorem Zuo(n_:Net)(n:Nat)(es1:List (List D))(i0_:Int)(f:St→RR)(K:Ex→St→RR):k137_13 n f K (Ex.exit 4) (X137_15 n_ es1 i0_)=f (S137_1 n_ es1 (wrap i64 (i0_+1))):=by kernel_rfl
def X137_17(n_:Net)(es1:List (List D)):St:=St.mk (V_ [C.rptr [D.sl false 2 (enS false (Net.Bridges n_)),D.sl false 4 (enS false (Net.Links n_))]]::u_ 92 []) [Root.mk false 2 es1 0 0 true true false [] 0 []]
theorem Zwg(n_:Net)(n:Nat)(es1:List (List D))(i0_:Int)(f:St→RR)(K:Ex→St→RR):B137_1 n (S137_1 n_ es1 i0_) (kThen (λst↦f (St.head 1 32281802128991715337 154742486463928460652842756 st)) K)=bif decide (i0_<ofNat (length (enS false (Net.Bridges n_))))then bif decide (0≤i0_)&&decide (i0_<ofNat (length (enS false (Net.Bridges n_))))then bif Leaf.fit false (Leaf.int i64) (y137_5 i0_ n_)&&(Leaf.fit false (Leaf.sl 11 true) (getD (getD (enS false (Net.Bridges n_)) (toNat i0_) []) 1 D.dead)&&true)then loopRun (B137_2 n) 2 8296423147150870839561 77366530088853397535984644 n (S137_2 n_ es1 i0_ (0)) (k137_13 n f K)else none else none else K (Ex.exit 2) (X137_17 n_ es1):=by kernel_rfl
theorem Zuq(n_:Net)(n:Nat)(es1:List (List D)):k137_9 n (Ex.exit 2) (X137_17 n_ es1)=some ([[D.bool (decide (ofNat (length (enS false (Net.Links n_)))≤6))]],[]):=by kernel_rfl
theorem Zxc(n_:Net)(n:Nat)(es1:List (List D)):k137_1 n (Ex.exit 0) (X137_7 n_ es1)=loopRun (B137_1 n) 1 32281802128991715337 154742486463928460652842756 n (S137_1 n_ es1 (0)) (k137_9 n):=by kernel_rfl
def e137(n_:Net)(n:Nat):=evFn ⟨prog,Hx,137⟩ T153.call n f137 [zp18.row n_]
theorem r137(n_:Net)(n:Nat):e137 n_ n=loopRun (B137_0 n) 0 229385 576460752303292652 n (S137_0 n_ (0) []) (k137_1 n):=by kernel_rfl
theorem m137(n_:Net):(o137 n_).1=true→e137 n_ (n_.Links.length+n_.Bridges.length+1048577)=some (o137 n_).2:=by
 refine pm λhpre=>(r137 n_ _).trans ?_;obtain⟨hs1,hs2,hs3⟩:=Zbg hpre;unfold linksB;refine Zai (xs:=n_.Links) (λi (u:List TEnd)=>S137_0 n_ (Int.ofNat i) (enS true u)) (λi u=>u.length=2*i∧endsL (n_.Links.take i)=u) (λ_ u rest=>some ([[D.bool (linksL n_ u rest&&(upB (endsL n_.Links) 0 n_.Bridges&&decide (n_.Links.length≤6)))]],[])) ?_ ?_ (n_.Links.length+n_.Bridges.length+1048577) [] (by omega) ⟨rfl,rfl⟩
 ·rintro u ⟨hu1,hu2⟩ f;refine(Zwf n_ _ _ _ f _).trans ?_;delta y137_0 y137_3 y137_4;rw[Zaw,cond_false];refine(Zxc _ _ _).trans ?_;rw[List.take_length]at hu2;rw[hu2,show linksL n_ u []=true from rfl,Bool.true_and];have hul:decide (u.length≤4194304)=true:=decide_eq_true (by omega)
  refine Zai (xs:=n_.Bridges) (λi (_:Unit)=>S137_1 n_ (enS true u) (Int.ofNat i)) (λ_ _=>True) (λi _ rest=>some ([[D.bool (upB u (Int.ofNat i) rest&&decide (n_.Links.length≤6))]],[])) ?_ ?_ (n_.Links.length+n_.Bridges.length+1048577) () (by omega) trivial
  ·rintro _ _ f;refine(Zwg n_ _ _ _ f _).trans ?_;delta y137_5;rw[Zaw,cond_false];refine(Zuq _ _ _).trans ?_;rw[Zaa,Zx0,show upB u (Int.ofNat n_.Bridges.length) []=true from rfl,Bool.true_and]
  ·rintro o _ ho _ f hf;refine(Zwg n_ _ _ _ f _).trans ?_;delta y137_5;have hl:=hs2 _ (List.getElem_mem ho);have hc:Int.ofNat o+1=Int.ofNat (o+1):=rfl;simp only[gos,En.enc,D.num,D.flag,D.text,D.rows,Leaf.fit,Zbo,Zab _ ho,ho,beq_self_eq_true];rw[Znz];refine Zai (xs:=n_.Bridges[o].Ports) (λj (_:Unit)=>S137_2 n_ (enS true u) (Int.ofNat o) (Int.ofNat j)) (λ_ _=>True) (λj _ rest=>some ([[D.bool ((upP u (Int.ofNat o) (Int.ofNat j) rest&&upB u (Int.ofNat o+1) (n_.Bridges.drop (o+1)))&&decide (n_.Links.length≤6))]],[])) ?_ ?_ (n_.Links.length+n_.Bridges.length+1048577) () (by omega) trivial
   ·rintro _ _ f2;refine(Zwh n_ _ _ _ _ f2 _).trans ?_;delta y137_1;simp only[Zac,Zab _ ho,En.enc,List.getD_cons_succ,List.getD_cons_zero,D.rows,Zaw,cond_false];refine(Zuo _ _ _ _ _ _).trans ?_;rw[Zae (show o<4611686018427387904 by omega)]
    refine(hf () trivial).trans ?_;rw[hc,show upP u (Int.ofNat o) (Int.ofNat n_.Bridges[o].Ports.length) []=true from rfl,Bool.true_and]
   ·rintro i _ hi _ f2 hf2;refine(Zwh n_ _ _ _ _ f2 _).trans ?_;delta y137_1;have hc2:Int.ofNat i+1=Int.ofNat (i+1):=rfl;simp only[gos,En.enc,D.num,D.flag,D.text,D.rows,Leaf.fit,Zbo,Zab _ hi,hi,Zae (show i<4611686018427387904 by omega),Zab _ ho,ho,hul]
    rw[Zn0,hc2];have hx:(n_.Bridges[o].Ports[i].Up !=contE u ⟨Int.ofNat o,Int.ofNat i⟩)=!(n_.Bridges[o].Ports[i].Up==contE u ⟨Int.ofNat o,Int.ofNat i⟩):=rfl;simp only[hx];cases hp:(n_.Bridges[o].Ports[i].Up==contE u ⟨Int.ofNat o,Int.ofNat i⟩)
    ·simp only[Bool.not_false,cond_true,Bool.false_and];refine(Zun _ _ _ _ _ _ _).trans ?_;exact Zup _ _ _ _ _
    ·simp only[Bool.not_true,cond_false,Bool.true_and];exact hf2 () trivial
 ·rintro i u hi ⟨hu1,hu2⟩ f hf;refine(Zwf n_ _ _ _ f _).trans ?_;delta y137_0 y137_3 y137_4;have hul:decide (u.length≤4194304)=true:=decide_eq_true (by omega)
  have hr:decide ((u.length+2)*16≤140737488355328)=true:=decide_eq_true (by omega)
  simp only[gos,En.enc,D.num,D.flag,D.text,D.rows,Leaf.fit,Zbo,Zab _ hi,hi,Zae (show i<4611686018427387904 by omega),hpre,hul,hr]
  have hx:((endA n_.Links[i]).bridge==(endB n_.Links[i]).bridge)=(n_.Links[i].A==n_.Links[i].B):=rfl;simp only[hx,Zjl];cases h1:(n_.Links[i].A==n_.Links[i].B)
  case true=>
   simp only[Bool.not_true,cond_true,Bool.false_and];exact Zhx _ _ _ _
  cases h2:isEndB n_ (endA n_.Links[i])
  ·simp only[Bool.not_false,cond_true,cond_false,Bool.true_and,Bool.false_and];exact Zhx _ _ _ _
  cases h3:isEndB n_ (endB n_.Links[i])
  ·simp only[Bool.not_false,Bool.not_true,cond_true,cond_false,Bool.true_and,Bool.false_and];exact Zhx _ _ _ _
  cases h4:contE u (endA n_.Links[i])
  case true=>
   simp only[Bool.not_false,Bool.not_true,cond_true,cond_false,Bool.true_and,Bool.false_and];exact Zhx _ _ _ _
  cases h5:contE u (endB n_.Links[i])
  case true=>
   simp only[Bool.not_false,Bool.not_true,cond_true,cond_false,Bool.true_and,Bool.false_and];exact Zhx _ _ _ _
  simp only[Bool.not_false,Bool.not_true,cond_true,cond_false,Bool.true_and];refine(congrArg f (congrArg (S137_0 n_ _) ?_)).trans (hf (u++[endA n_.Links[i],endB n_.Links[i]]) ⟨by simp;omega,?_⟩)
  ·exact(Zce true u [endA n_.Links[i],endB n_.Links[i]]).symm
  ·rw[List.take_succ_eq_append_getElem hi,←hu2];unfold endsL;rw[List.flatMap_append];rfl
def T137:Table:=(137,c137)::T153
theorem Zo2:Table.Sound prog Hx T137:=sa Zpi func137 (by kernel_rfl) (Zah λn_=>Zan λh=>⟨_,m137 n_ h⟩)
def o107(n_:Net):Bool×List Row×List Row:=(Net.small n_,[[.bool (netOk n_)]],[])
def c107:Contract:=(cp zp18 λn_=>c0 (o107 n_)) true
def k107_0:KT:=λn↦kThen (λst↦rC 107 T137 n f107 [1,1] 4 [] 4 st (lV f107 [] [])) (lV f107 [] [])
def k107_1:KT:=λn↦kBlock (0) (k107_0 n)
def y107_2(i0:Int)(n_:Net):=U_::V_ [C.ptr 0 0 0 [] 2 0 0]::u_ 6 (V_ [C.d (D.sl false 2 (enS false (Net.Bridges n_)))]::I_ (ofNat (length (enS false (Net.Bridges n_))))::I_ i0::u_ 30 [])
def S107_0(n_:Net)(i0:Int):St:=St.mk (y107_2 i0 n_) [Root.mk true 2 [[D.sl false 2 (enS false (Net.Bridges n_)),D.sl false 4 (enS false (Net.Links n_))]] 0 0 true true false [] 0 []]
def B107_0:BT:=λn↦rC 107 T137 n f107 [1,0,1,0,0] 1794 [(0,2)] 4
def y107_0(i0:Int)(n_:Net):=getD (enS false (Net.Bridges n_)) (toNat i0) []
def X107_2(n_:Net)(i0:Int):St:=St.mk (U_::U_::B_ false::u_ 38 []) [Root.mk true 2 [[D.sl false 2 (enS false (Net.Bridges n_)),D.sl false 4 (enS false (Net.Links n_))]] 0 0 true true false [] 0 [],Root.mk true 2 [[D.int i64 (D.num (getD (y107_0 i0 n_) 0 D.dead)),D.sl false 11 (D.rows (getD (y107_0 i0 n_) 1 D.dead))]] 0 1 true true false [(1,1)] 0 []]
def k107_3(f:St→RR)(K:Ex→St→RR):Ex→St→RR:=kThen (λst↦f (St.head 1 1794 17179868252 st)) K
def k107_4(n:Nat)(f:St→RR)(K:Ex→St→RR):Ex→St→RR:=kThen (λst↦rC 107 T137 n f107 [1,0,1,0,0,1,1,1] 1794 [(0,2)] 4 st (k107_3 f K)) (k107_3 f K)
def k107_5(n:Nat)(f:St→RR)(K:Ex→St→RR):Ex→St→RR:=kBlock (1) (k107_4 n f K)
def k107_6(n:Nat)(f:St→RR)(K:Ex→St→RR):Ex→St→RR:=kBlock (2) (k107_5 n f K)
def y107_1(i0:Int)(n_:Net):=take (toNat (i0-0)) (drop (toNat (0)) (enS false (Net.Bridges n_)))
def S107_1(n_:Net)(i0:Int)(i0_:Int):St:=St.mk (U_::V_ [C.ptr 0 0 0 [] 2 0 0]::U_::U_::V_ [C.ptr 1 0 0 [] 2 0 0]::U_::U_::U_::V_ [C.d (D.sl false 2 (enS false (Net.Bridges n_)))]::I_ (ofNat (length (enS false (Net.Bridges n_))))::I_ i0::u_ 10 (V_ [C.d (D.sl false 2 (y107_1 i0 n_))]::I_ (ofNat (length (y107_1 i0 n_)))::I_ i0_::u_ 17 [])) [Root.mk true 2 [[D.sl false 2 (enS false (Net.Bridges n_)),D.sl false 4 (enS false (Net.Links n_))]] 0 0 true true false [] 0 [],Root.mk true 2 [[D.int i64 (D.num (getD (y107_0 i0 n_) 0 D.dead)),D.sl false 11 (D.rows (getD (y107_0 i0 n_) 1 D.dead))]] 0 0 true true false [] 0 []]
def B107_1:BT:=λn↦rC 107 T137 n f107 [1,0,1,0,0,1,1,0,0,1,1,1,0,0] 14681874 [(2,1794),(1,1794),(0,2)] 4
def X107_7(n_:Net)(i0:Int)(i0_:Int):St:=St.mk (U_::U_::B_ false::u_ 38 []) [Root.mk true 2 [[D.sl false 2 (enS false (Net.Bridges n_)),D.sl false 4 (enS false (Net.Links n_))]] 0 0 true true false [] 0 [],Root.mk true 2 [[D.int i64 (D.num (getD (y107_0 i0 n_) 0 D.dead)),D.sl false 11 (D.rows (getD (y107_0 i0 n_) 1 D.dead))]] 0 0 true true false [] 0 [],Root.mk true 2 [[D.int i64 (D.num (getD (getD (y107_1 i0 n_) (toNat i0_) []) 0 D.dead)),D.sl false 11 (D.rows (getD (getD (y107_1 i0 n_) (toNat i0_) []) 1 D.dead))]] 0 1 true true false [(1,1)] 0 []]
def X107_8(n_:Net)(i0:Int):St:=St.mk (y107_2 i0 n_) [Root.mk true 2 [[D.sl false 2 (enS false (Net.Bridges n_)),D.sl false 4 (enS false (Net.Links n_))]] 0 0 true true false [] 0 [],Root.mk true 2 [[D.int i64 (D.num (getD (y107_0 i0 n_) 0 D.dead)),D.sl false 11 (D.rows (getD (y107_0 i0 n_) 1 D.dead))]] 0 0 true true false [] 0 []]
theorem Zvy(n_:Net)(n:Nat)(i0:Int)(i0_:Int)(f_:St→RR)(K_:Ex→St→RR):B107_1 n (S107_1 n_ i0 i0_) (kThen (λst↦f_ (St.head 2 14681874 8581546052 st)) K_)=bif decide (i0_<ofNat (length (y107_1 i0 n_)))then bif decide (0≤i0_)&&decide (i0_<ofNat (length (y107_1 i0 n_)))then bif Leaf.fit false (Leaf.int i64) (getD (getD (y107_1 i0 n_) (toNat i0_) []) 0 D.dead)&&(Leaf.fit false (Leaf.sl 11 true) (getD (getD (y107_1 i0 n_) (toNat i0_) []) 1 D.dead)&&true)then bif D.num (getD (getD (y107_1 i0 n_) (toNat i0_) []) 0 D.dead)==D.num (getD (y107_0 i0 n_) 0 D.dead)then K_ Ex.ret (X107_7 n_ i0 i0_)else f_ (S107_1 n_ i0 (wrap i64 (i0_+1)))else none else none else K_ (Ex.exit 2) (X107_8 n_ i0):=by kernel_rfl
theorem Zwu(n_:Net)(n:Nat)(i0:Int)(i0_:Int):k107_1 n Ex.ret (X107_7 n_ i0 i0_)=some ([[D.bool false]],[]):=by kernel_rfl
theorem Zws(n_:Net)(n:Nat)(i0:Int)(f:St→RR)(K:Ex→St→RR)(i0_:Int):k107_6 n f K Ex.ret (X107_7 n_ i0 i0_)=K Ex.ret (X107_7 n_ i0 i0_):=by kernel_rfl
theorem Zwt(n_:Net)(n:Nat)(i0:Int)(f:St→RR)(K:Ex→St→RR):k107_6 n f K (Ex.exit 2) (X107_8 n_ i0)=f (S107_0 n_ (wrap i64 (i0+1))):=by kernel_rfl
def X107_10(n_:Net):St:=St.mk (U_::V_ [C.ptr 0 0 0 [] 2 0 0]::u_ 39 []) [Root.mk true 2 [[D.sl false 2 (enS false (Net.Bridges n_)),D.sl false 4 (enS false (Net.Links n_))]] 0 0 true true false [] 0 []]
theorem Zvx(n_:Net)(n:Nat)(i0:Int)(f:St→RR)(K:Ex→St→RR):B107_0 n (S107_0 n_ i0) (kThen (λst↦f (St.head 1 1794 17179868252 st)) K)=bif decide (i0<ofNat (length (enS false (Net.Bridges n_))))then bif decide (0≤i0)&&decide (i0<ofNat (length (enS false (Net.Bridges n_))))then bif Leaf.fit false (Leaf.int i64) (getD (y107_0 i0 n_) 0 D.dead)&&(Leaf.fit false (Leaf.sl 11 true) (getD (y107_0 i0 n_) 1 D.dead)&&true)then bif isS Port false (D.rows (getD (y107_0 i0 n_) 1 D.dead))&&decide (length (deS Port (D.rows (getD (y107_0 i0 n_) 1 D.dead)))≤1048576)then bif !bridgeOk (Bridge.mk (D.num (getD (y107_0 i0 n_) 0 D.dead)) (deS Port (D.rows (getD (y107_0 i0 n_) 1 D.dead))))then K Ex.ret (X107_2 n_ i0)else bif decide (0≤i0)&&decide (i0≤ofNat (length (enS false (Net.Bridges n_))))then loopRun (B107_1 n) 2 14681874 8581546052 n (S107_1 n_ i0 (0)) (k107_6 n f K)else none else none else none else none else K (Ex.exit 0) (X107_10 n_):=by kernel_rfl
theorem Zwr(n_:Net)(n:Nat)(i0:Int):k107_1 n Ex.ret (X107_2 n_ i0)=some ([[D.bool false]],[]):=by kernel_rfl
theorem Zul(n_:Net)(n:Nat):k107_1 n (Ex.exit 0) (X107_10 n_)=bif inR (ofNat (length (enS false (Net.Bridges n_)))) (1) (5)then bif isS Bridge false (lendRows (enS false (Net.Bridges n_)))&&isS Link false (lendRows (enS false (Net.Links n_)))&&Net.small (Net.mk (deS Bridge (lendRows (enS false (Net.Bridges n_)))) (deS Link (lendRows (enS false (Net.Links n_)))))then some ([[D.bool (linksB (Net.mk (deS Bridge (lendRows (enS false (Net.Bridges n_)))) (deS Link (lendRows (enS false (Net.Links n_))))))]],[])else none else some ([[D.bool false]],[]):=by kernel_rfl
def e107(n_:Net)(n:Nat):=evFn ⟨prog,Hx,107⟩ T137.call n f107 [zp18.row n_]
theorem r107(n_:Net)(n:Nat):e107 n_ n=loopRun (B107_0 n) 1 1794 17179868252 n (S107_0 n_ (0)) (k107_1 n):=by kernel_rfl
theorem m107(n_:Net):(o107 n_).1=true→e107 n_ (n_.Bridges.length+6)=some (o107 n_).2:=by
 refine pm λhpre=>(r107 n_ _).trans ?_;obtain⟨hs1,hs2,hs3⟩:=Zbg hpre;unfold netOk;refine Zai (xs:=n_.Bridges) (λi (_:Unit)=>S107_0 n_ (Int.ofNat i)) (λ_ _=>True) (λi _ rest=>some ([[D.bool (idsB (n_.Bridges.take i) rest&&(inR (n_.Bridges.length:Int) 1 5&&linksB n_))]],[])) ?_ ?_ (n_.Bridges.length+6) () (by omega) trivial
 ·rintro _ _ f;refine(Zvx n_ _ _ f _).trans ?_;delta y107_0;rw[Zaw,cond_false];refine(Zul _ _).trans ?_;simp only[Zaa,Zaf,Zak,Zad,Bool.true_and,Bool.and_self,hpre,cond_true,Net.eta];rw[show idsB (List.take n_.Bridges.length n_.Bridges) []=true by simp only[idsB],Bool.true_and]
  show(bif inR (n_.Bridges.length:Int) 1 5 then _ else _)=_;cases inR (n_.Bridges.length:Int) 1 5<;>rfl
 ·rintro o _ ho _ f hf;refine(Zvx n_ _ _ f _).trans ?_;delta y107_0;have hl:decide (n_.Bridges[o].Ports.length≤1048576)=true:=decide_eq_true (hs2 _ (List.getElem_mem ho));have hle:decide (Int.ofNat o≤Int.ofNat n_.Bridges.length)=true:=decide_eq_true (by show(o:Int)≤(n_.Bridges.length:Int);omega)
  simp only[gos,En.enc,D.num,D.flag,D.text,D.rows,Leaf.fit,Zbo,Zab _ ho,ho,beq_self_eq_true,hl,hle];rw[Zke];cases hb:bridgeOk n_.Bridges[o]
  ·simp only[Bool.not_false,cond_true,Bool.false_and];exact Zwr _ _ _
  simp only[Bool.not_true,cond_false,Bool.true_and];have ht:(n_.Bridges.take o).length=o:=by rw[List.length_take];omega
  have hes:List.take (Int.toNat (Int.ofNat o-0)) (List.drop (Int.toNat 0) (enS false n_.Bridges))=enS false (n_.Bridges.take o):=by
   rw[show Int.toNat (Int.ofNat o-0)=o by show Int.toNat ((o:Int)-0)=o;omega,show Int.toNat 0=0 from rfl,List.drop_zero,Zm3]
  refine Zai (xs:=n_.Bridges.take o) (λj (_:Unit)=>S107_1 n_ (Int.ofNat o) (Int.ofNat j)) (λ_ _=>True) (λj _ rest=>some ([[D.bool ((!rest.any (λx=>x.Id==n_.Bridges[o].Id)&&idsB (n_.Bridges.take o++[n_.Bridges[o]]) (n_.Bridges.drop (o+1)))&&(inR (n_.Bridges.length:Int) 1 5&&linksB n_))]],[])) ?_ ?_ (n_.Bridges.length+6) () (by omega) trivial
  ·rintro _ _ f2;refine(Zvy n_ _ _ _ f2 _).trans ?_;delta y107_0 y107_1;rw[hes,Zaw,cond_false];refine(Zwt _ _ _ _ _).trans ?_;rw[Zae (show o<4611686018427387904 by omega)]
   refine(hf () trivial).trans ?_;rw[List.take_succ_eq_append_getElem ho,List.any_nil,Bool.not_false,Bool.true_and]
  ·rintro i _ hi _ f2 hf2;refine(Zvy n_ _ _ _ f2 _).trans ?_;delta y107_0 y107_1;simp only[gos,En.enc,D.num,D.flag,D.text,D.rows,Leaf.fit,Zbo,Zab _ hi,hi,Zae (show i<4611686018427387904 by omega),hes,Zab _ ho,ho,beq_self_eq_true,List.any_cons]
   cases hp:((n_.Bridges.take o)[i].Id==n_.Bridges[o].Id)
   ·simp only[cond_false,Bool.false_or];exact hf2 () trivial
   ·simp only[cond_true,Bool.true_or,Bool.not_true,Bool.false_and];refine(Zws _ _ _ _ _ _).trans ?_;exact Zwu _ _ _ _
def T107:Table:=(107,c107)::T137
theorem Zn8:Table.Sound prog Hx T107:=sa Zo2 func107 (by kernel_rfl) (Zah λn_=>Zan λh=>⟨_,m107 n_ h⟩)
def o131(n_:Net)(a:Int)(p:Int):Bool×List Row×List Row:=(Net.small n_,[[.bool (isEndB n_ ⟨a,p⟩&&upAt n_ a p)]],[])
def c131:Contract:=(cp zp18 λn_=>cp zp0 λa=>cp zp0 λp=>c0 (o131 n_ a p)) true
def e131(n_:Net)(a:Int)(p:Int)(n:Nat):=evFn ⟨prog,Hx,131⟩ T107.call n f131 [zp18.row n_,zp0.row a,zp0.row p]
def y131_0(a:Int)(n_:Net):=getD (drop 1 (getD (enS false (Net.Bridges n_)) (toNat a) [])) 0 D.dead
theorem r131(n_:Net)(a:Int)(p:Int)(n:Nat):e131 n_ a p n=bif inR a (0) (wrap i64 (ofNat (length (enS false (Net.Bridges n_)))-1))then bif decide (0≤a)&&decide (a<ofNat (length (enS false (Net.Bridges n_))))then bif Leaf.fit false (Leaf.sl 11 true) (y131_0 a n_)&&true then bif inR p (0) (wrap i64 (ofNat (length (D.rows (y131_0 a n_)))-1))then bif decide (0≤a)&&decide (a<ofNat (length (enS false (Net.Bridges n_))))then bif Leaf.fit false (Leaf.sl 11 true) (y131_0 a n_)&&true then bif decide (0≤p)&&decide (p<ofNat (length (D.rows (y131_0 a n_))))then bif Leaf.fit false Leaf.bool (getD (getD (D.rows (y131_0 a n_)) (toNat p) []) 0 D.dead)&&true then some ([[D.bool (D.flag (getD (getD (D.rows (y131_0 a n_)) (toNat p) []) 0 D.dead))]],[])else none else none else none else none else some ([[D.bool false]],[])else none else none else some ([[D.bool false]],[]):=by kernel_rfl
theorem m131(n_:Net)(a:Int)(p:Int):(o131 n_ a p).1=true→e131 n_ a p 0=some (o131 n_ a p).2:=by
 refine pm λhpre=>(r131 n_ a p _).trans ?_;delta y131_0;obtain⟨hs1,hs2,hs3⟩:=Zbg hpre;unfold isEndB upAt;have hw:IntKind.wrap IntKind.i64 (Int.ofNat n_.Bridges.length-1)=(n_.Bridges.length:Int)-1:=Zhc (by show _≤(n_.Bridges.length:Int)-1;omega) (by show(n_.Bridges.length:Int)-1≤_;omega)
 simp only[Zaa,hw];cases h:inR a 0 ((n_.Bridges.length:Int)-1)
 ·rfl
 have hb:=Zih h;obtain⟨k,rfl⟩:=Int.eq_ofNat_of_zero_le hb.1;have hk2:k<n_.Bridges.length:=by omega
 have hl:=hs2 _ (List.getElem_mem hk2);have hg:=Zab (α:=Bridge) false hk2;have e1:decide (0≤(k:Int))=true:=decide_eq_true (by omega)
 have e2:decide ((k:Int)<Int.ofNat n_.Bridges.length)=true:=decide_eq_true (by show(k:Int)<(n_.Bridges.length:Int);omega)
 have hw2:IntKind.wrap IntKind.i64 (Int.ofNat n_.Bridges[k].Ports.length-1)=(n_.Bridges[k].Ports.length:Int)-1:=Zhc (by show _≤(n_.Bridges[k].Ports.length:Int)-1;omega) (by show(n_.Bridges[k].Ports.length:Int)-1≤_;omega)
 have hp:=Zdc n_ k hk2;simp only[gos,En.enc,D.num,D.flag,D.text,D.rows,Leaf.fit,Zbo,e1,e2,Int.toNat_natCast,hg,hw2,hp,List.drop_succ_cons,List.drop_zero,beq_self_eq_true];cases h2:inR p 0 ((n_.Bridges[k].Ports.length:Int)-1)
 ·rfl
 have hb2:=Zih h2;obtain⟨j,rfl⟩:=Int.eq_ofNat_of_zero_le hb2.1;have hj2:j<n_.Bridges[k].Ports.length:=by omega
 have fg:=Zab (α:=Port) false hj2;have f1:decide (0≤(j:Int))=true:=decide_eq_true (by omega)
 have f2:decide ((j:Int)<Int.ofNat n_.Bridges[k].Ports.length)=true:=decide_eq_true (by show(j:Int)<(n_.Bridges[k].Ports.length:Int);omega)
 have hu:n_.Bridges[k].Ports.getD j ⟨false,false,⟨0,0,0,0⟩,0,0,0,0,false⟩=n_.Bridges[k].Ports[j]:=by simp[hj2]
 simp only[gos,En.enc,D.num,D.flag,D.text,D.rows,Leaf.fit,Zbo,f1,f2,Int.toNat_natCast,fg,hu,beq_self_eq_true]
 all_goals rfl
def T131:Table:=(131,c131)::T107
theorem Zow:Table.Sound prog Hx T131:=sa Zn8 func131 (by kernel_rfl) (Zah λn_=>Zah λa=>Zah λp=>Zan λh=>⟨_,m131 n_ a p h⟩)
def o129(n_:Net)(a:Int)(p:Int):Bool×List Row×List Row:=(Net.small n_,[[.int .i64 (onceL a p n_.Links 0)]],[])
def c129:Contract:=(cp zp18 λn_=>cp zp0 λa=>cp zp0 λp=>c0 (o129 n_ a p)) true
def k129_0:KT:=λn↦kThen (λst↦rC 129 T131 n f129 [1,1,1] 64 [] 64 st (lV f129 [] [])) (lV f129 [] [])
def k129_1:KT:=λn↦kBlock (0) (k129_0 n)
def S129_0(n_:Net)(a:Int)(p:Int)(i0:Int)(i1:Int):St:=St.mk (U_::I_ a::I_ p::V_ [C.ptr 0 0 0 [] 2 0 0]::U_::U_::U_::I_ i0::I_ i1::u_ 39 []) [Root.mk true 2 [[D.sl false 2 (enS false (Net.Bridges n_)),D.sl false 4 (enS false (Net.Links n_))]] 0 0 true true false [] 0 []]
def B129_0:BT:=λn↦rC 129 T131 n f129 [1,1,0,1,0,0] 398 [(0,128)] 64
def X129_2(n_:Net)(i0:Int):St:=St.mk (u_ 7 (I_ i0::u_ 40 [])) [Root.mk true 2 [[D.sl false 2 (enS false (Net.Bridges n_)),D.sl false 4 (enS false (Net.Links n_))]] 0 0 true true false [] 0 []]
def y129_0(i1:Int)(n_:Net):=getD (enS false (Net.Links n_)) (toNat i1) []
theorem Zwc(n_:Net)(a:Int)(p:Int)(n:Nat)(i0:Int)(i1:Int)(f:St→RR)(K:Ex→St→RR):B129_0 n (S129_0 n_ a p i0 i1) (kThen (λst↦f (St.head 1 398 140737488355200 st)) K)=bif decide (i1<ofNat (length (enS false (Net.Links n_))))then bif decide (0≤i1)&&decide (i1<ofNat (length (enS false (Net.Links n_))))then bif Leaf.fit false (Leaf.int i64) (getD (y129_0 i1 n_) 0 D.dead)&&(Leaf.fit false (Leaf.int i64) (getD (y129_0 i1 n_) 1 D.dead)&&(Leaf.fit false (Leaf.int i64) (getD (y129_0 i1 n_) 2 D.dead)&&(Leaf.fit false (Leaf.int i64) (getD (y129_0 i1 n_) 3 D.dead)&&true)))then bif D.num (getD (y129_0 i1 n_) 0 D.dead)==a then bif D.num (getD (y129_0 i1 n_) 2 D.dead)==a then f (S129_0 n_ a p (wrap i64 (wrap i64 (i0+bitI (D.num (getD (y129_0 i1 n_) 1 D.dead)==p) (1))+bitI (D.num (getD (y129_0 i1 n_) 3 D.dead)==p) (1))) (wrap i64 (i1+1)))else f (S129_0 n_ a p (wrap i64 (wrap i64 (i0+bitI (D.num (getD (y129_0 i1 n_) 1 D.dead)==p) (1))+ofNat 0)) (wrap i64 (i1+1)))else bif D.num (getD (y129_0 i1 n_) 2 D.dead)==a then f (S129_0 n_ a p (wrap i64 (wrap i64 (i0+ofNat 0)+bitI (D.num (getD (y129_0 i1 n_) 3 D.dead)==p) (1))) (wrap i64 (i1+1)))else f (S129_0 n_ a p (wrap i64 (wrap i64 (i0+ofNat 0)+ofNat 0)) (wrap i64 (i1+1)))else none else none else K (Ex.exit 0) (X129_2 n_ i0):=by kernel_rfl
theorem Zw8(n_:Net)(n:Nat)(i0:Int):k129_1 n (Ex.exit 0) (X129_2 n_ i0)=some ([[D.int i64 i0]],[]):=by kernel_rfl
def e129(n_:Net)(a:Int)(p:Int)(n:Nat):=evFn ⟨prog,Hx,129⟩ T131.call n f129 [zp18.row n_,zp0.row a,zp0.row p]
theorem r129(n_:Net)(a:Int)(p:Int)(n:Nat):e129 n_ a p n=loopRun (B129_0 n) 1 398 140737488355200 n (S129_0 n_ a p (0) (0)) (k129_1 n):=by kernel_rfl
theorem m129(n_:Net)(a:Int)(p:Int):(o129 n_ a p).1=true→e129 n_ a p (n_.Links.length+1)=some (o129 n_ a p).2:=by
 refine pm λhpre=>(r129 n_ a p _).trans ?_;obtain⟨hs1,hs2,hs3⟩:=Zbg hpre;refine Zai (xs:=n_.Links) (λi (c:Int)=>S129_0 n_ a p c (Int.ofNat i)) (λi c=>0≤c∧c≤2*(i:Int)) (λ_ c rest=>some ([[D.int .i64 (onceL a p rest c)]],[])) ?_ ?_ (n_.Links.length+1) 0 (by omega) (by simp)
 ·rintro c _ f;refine(Zwc n_ a p _ _ _ f _).trans ?_;delta y129_0;rw[Zaw,cond_false];exact Zw8 _ _ _
 ·rintro i c hi ⟨h1,h2⟩ f hf;refine(Zwc n_ a p _ _ _ f _).trans ?_;delta y129_0;have b0:∀x:Bool,0≤bitI x 1∧bitI x 1≤1:=by intro x;cases x<;>decide
  have c1:=b0 (n_.Links[i].P==p);have c2:=b0 (n_.Links[i].Q==p);have hz:Int.ofNat 0=0:=rfl;have w1:∀x y:Int,0≤x→x≤1→0≤y→y≤1→IntKind.wrap IntKind.i64 (IntKind.wrap IntKind.i64 (c+x)+y)=c+x+y:=by
   intro x y hx1 hx2 hy1 hy2;rw[Zhc (x:=c+x) (by omega) (by omega),Zhc (by omega) (by omega)]
  simp only[gos,En.enc,D.num,D.flag,D.text,D.rows,Leaf.fit,Zbo,Zab _ hi,hi,Zae (show i<4611686018427387904 by omega),hz]
  have w00:=w1 0 0 (by omega) (by omega) (by omega) (by omega)
  have w10:=w1 _ 0 c1.1 c1.2 (by omega) (by omega)
  have w01:=w1 0 _ (by omega) (by omega) c2.1 c2.2
  have w11:=w1 _ _ c1.1 c1.2 c2.1 c2.2;simp only[w00,w10,w01,w11];have e1:∀x y:Bool,bitE (x&&y)=bif x then bitI y 1 else 0:=by intro x y;cases x<;>cases y<;>rfl
  cases ha:n_.Links[i].A==a<;>cases hb:n_.Links[i].B==a<;>simp only[cond_true,cond_false]<;>refine(hf _ ⟨by omega,by push_cast;omega⟩).trans ?_<;>simp only[onceL,e1,ha,hb,cond_true,cond_false]
def T129:Table:=(129,c129)::T131
theorem Zou:Table.Sound prog Hx T129:=sa Zow func129 (by kernel_rfl) (Zah λn_=>Zah λa=>Zah λp=>Zan λh=>⟨_,m129 n_ a p h⟩)
end Go.Ev
end
