/- Contracts of functions, each by its evaluation. -/
import Derived.Test.YtihhlajibgoemaaGreatEvMd
import Derived.Test.YtihhlajibgoemaaGreatProg
import Derived.KernelRfl
set_option linter.unusedVariables false
set_option linter.unusedSimpArgs false
set_option maxRecDepth 100000
noncomputable section
open List (getD length drop take set append replicate all isEmpty)
open Int (toNat ofNat)
open Go.IntKind (i64 wrap)
open Go.Proofs.Tryz (prog f23 f31 func23 func31)
namespace Go.Ev
open Go.RowKit Go.Md
abbrev V_(l:List C):TV:=.v false l
def Hx:Hints:={ mode:=λf=>bif f==79 then[.give]else bif f==123 then[.give]else bif f==41 then[.give]else bif f==14 then[.give]else bif f==77 then[.give]else bif f==78 then[.give]else bif f==122 then[.give]else bif f==76 then[.give]else bif f==75 then[.give]else bif f==39 then[.give]else bif f==40 then[.give]else bif f==13 then[.give]else bif f==15 then[.give]else bif f==152 then[.ro,.lend]else bif f==137 then[.ro]else bif f==70 then[.ro,.lend]else bif f==34 then[.ro,.lend]else bif f==71 then[.ro,.lend]else bif f==143 then[.give,.lend]else[],resRo:=λf=>false,muts:=λf=>bif f==79 then[true]else bif f==123 then[true]else bif f==41 then[true]else bif f==14 then[true]else bif f==77 then[true]else bif f==78 then[true]else bif f==122 then[true]else bif f==76 then[true]else bif f==75 then[true]else bif f==39 then[true]else bif f==40 then[true]else bif f==13 then[true]else bif f==15 then[true]else[],mix:=λt=>bif t==84 then true else false }
def T0:Table:=[]
theorem Zuf:Table.Sound Go.Proofs.Tryz.prog Hx T0:=Table.sound_nil
theorem mixed:Go.Proofs.Tryz.prog.follows .mixedOrders=true:=by kernel_rfl
structure Pa(α:Type) where
 row:α→Row
 pat:Row→Option ((Bool→Bool)×α)
 ok:∀{r:Row} {f:Bool→Bool} {x:α},pat r=some (f,x)→∀t,f t=true→t=true∧r=row x
abbrev Cn:=Bool→List Row→Option (Bool×List Row×List Row)
def c0(o:Bool×List Row×List Row):Cn:=λt rs=>match rs with|[]=>some (t&&o.1,o.2.1,o.2.2)|_=>none
def cp{α:Type}(A:Pa α)(g:α→Cn):Cn:=λt rs=>match rs with
 |r::rs=>(match A.pat r with|some (f,x)=>g x (f t) rs|none=>none)
 |[]=>none
def Cov(g:Cn)(E:List Row→List Row×List Row→Prop):Prop:=∀t rs r,g t rs=some (true,r)→t=true∧E rs r
theorem Zan{o:Bool×List Row×List Row}{E:List Row→List Row×List Row→Prop}(h:o.1=true→E [] o.2):Cov (c0 o) E:=by
 intro t rs r hr;unfold c0 at hr;split at hr
 ·injection hr with hr;injection hr with h1 h2;subst h2;simp only[Bool.and_eq_true]at h1;exact⟨h1.1,h h1.2⟩
 ·cases hr
theorem Zah{α:Type}{A:Pa α}{g:α→Cn}{E:List Row→List Row×List Row→Prop}(h:∀x,Cov (g x) λrs o=>E (A.row x::rs) o):Cov (cp A g) E:=by
 intro t rs r hr;unfold cp at hr;split at hr
 ·rename_i r0 rs0;split at hr
  ·rename_i f x hp;obtain⟨h1,h2⟩:=h x _ _ _ hr;obtain⟨h3,h4⟩:=A.ok hp t h1;exact⟨h3,h4▸h2⟩
  ·cases hr
 ·cases hr
theorem pm{p:Bool}{r:List Row×List Row}{x:Option (List Row×List Row)}(h:p=true→x=some r):(p,r).1=true→x=some (p,r).2:=h
theorem sa {T : Table} {i : FuncId} {fn : Func} {g : Cn} (hT : Table.Sound prog Hx T) (hf : prog.funcs[i]? = some fn) (hn : (fn.name == "runtime.NumGoroutine") = false) (h : Cov g fun rows o => ∃ n, evFn ⟨prog, Hx, i⟩ T.call n fn rows = some o) : Table.Sound prog Hx ((i, g true) :: T) :=
 Table.sound_cons (Zj0 hT mixed hf hn λrows r hr=>(h _ _ _ hr).2) hT
def rC(i:Nat)(T:Table)(n:Nat)(f:Func)(p:List Nat)(a:Nat)(b:List (Nat×Nat))(c:Nat):St→(Ex→St→RR)→RR:=runCode (Ctx.mk prog Hx i) (Table.call T) n (codeAt p (bodyOf f)) (Lv.mk a b c)
def lV(f:Func)(a:List Nat)(b:List C):=kLeave prog (List.zip (Array.toList (Go.Func.resultTypes f)) (Array.toList (Go.Func.results f))) a b
abbrev KT:=Nat→Ex→St→RR
abbrev BT:=Nat→St→(Ex→St→RR)→RR
end Go.Ev
namespace Go.Md
open Go Go.Ev
def inR(a b c:Int):Bool:=decide (a≥b)&&decide (a≤c)
end Go.Md
namespace Go.Ev
open Go.Md
def o31(n_:Int)(least:Int)(most:Int):Bool×List Row×List Row:=(true,[[.bool (inR n_ least most)]],[])
def zp0:Pa (Int):=⟨λn_=>[.int .i64 n_],λr=>match r with|[.int .i64 n_]=>some (λt=>t,n_)|_=>none,by
 intro r f x h t ht;split at h
 ·cases h;exact⟨ht,rfl⟩
 ·cases h⟩
def c31:Contract:=(cp zp0 λn_=>cp zp0 λleast=>cp zp0 λmost=>c0 (o31 n_ least most)) true
def e31(n_:Int)(least:Int)(most:Int)(n:Nat):=evFn ⟨prog,Hx,31⟩ T0.call n f31 [zp0.row n_,zp0.row least,zp0.row most]
theorem r31(n_:Int)(least:Int)(most:Int)(n:Nat):e31 n_ least most n=bif decide (n_≥least)then some ([[D.bool (decide (n_≤most))]],[])else some ([[D.bool false]],[]):=by kernel_rfl
theorem m31(n_:Int)(least:Int)(most:Int):(o31 n_ least most).1=true→e31 n_ least most 0=some (o31 n_ least most).2:=by
 refine pm λhpre=>(r31 n_ least most _).trans ?_;unfold inR;cases decide (n_≥least)<;>rfl
def T31:Table:=(31,c31)::T0
theorem Zqv:Table.Sound prog Hx T31:=sa Zuf func31 (by kernel_rfl) (Zah λn_=>Zah λleast=>Zah λmost=>Zan λh=>⟨_,m31 n_ least most h⟩)
def o23(x:Int)(lo:Int)(hi:Int):Bool×List Row×List Row:=(true,[[.bool (inR x lo hi)]],[])
def c23:Contract:=(cp zp0 λx=>cp zp0 λlo=>cp zp0 λhi=>c0 (o23 x lo hi)) true
def e23(x:Int)(lo:Int)(hi:Int)(n:Nat):=evFn ⟨prog,Hx,23⟩ T31.call n f23 [zp0.row x,zp0.row lo,zp0.row hi]
theorem r23(x:Int)(lo:Int)(hi:Int)(n:Nat):e23 x lo hi n=bif decide (x≥lo)then some ([[D.bool (decide (x≤hi))]],[])else some ([[D.bool false]],[]):=by kernel_rfl
theorem m23(x:Int)(lo:Int)(hi:Int):(o23 x lo hi).1=true→e23 x lo hi 0=some (o23 x lo hi).2:=by
 refine pm λhpre=>(r23 x lo hi _).trans ?_;unfold inR;cases decide (x≥lo)<;>rfl
def T23:Table:=(23,c23)::T31
theorem Zqn:Table.Sound prog Hx T23:=sa Zqv func23 (by kernel_rfl) (Zah λx=>Zah λlo=>Zah λhi=>Zan λh=>⟨_,m23 x lo hi h⟩)
end Go.Ev
end
noncomputable section
open List (getD length drop take set append replicate all isEmpty)
open Int (toNat ofNat)
open Go.IntKind (i64 wrap)
open Go.Proofs.Tryz (prog f130 f140 f156 f158 f159 func130 func140 func156 func158 func159)
namespace Go.Ev
open Go.RowKit Go.Md
end Go.Ev
namespace Go.Md
open Go Go.Ev
def isPortB(n:Int):Bool:=inR n 0 3
def isHopsB(n:Int):Bool:=inR n 0 8
def vecOk(v:Vec):Bool:=inR v.Root 1 9&&(inR v.Bridge 1 9&&(decide (v.Root≤v.Bridge)&&(inR v.Cost 0 20&&(((v.Cost==0)==(v.Root==v.Bridge))&&isPortB v.Port))))
def bitI(on:Bool)(f:Int):Int:=bif on then f else 0
def roleB(r:Int):Int:=bif r==2 then 3 else bif r==1 then 2 else bif r==3 then 1 else 0
def flagsOf(b:Bpdu):Int:=bitI b.Change 1+bitI b.Ask 2+4*roleB b.Role+bitI b.Learn 16+bitI b.Open 32+bitI b.Agree 64
theorem bitI_b(on:Bool){f:Int}(h:0≤f):0≤bitI on f∧bitI on f≤f:=by cases on<;>simp[bitI,h]
theorem Z2m(on:Bool)(k:Int):k*bitI on 1=bitI on k:=by cases on<;>simp[bitI]
theorem Z3b(r:Int):0≤roleB r∧roleB r≤3:=by unfold roleB;simp only[Bool.cond_eq_ite];grind
def bpduOk(b:Bpdu):Bool:=inR b.Role 0 3&&(vecOk b.Vec&&isHopsB b.Hops)
end Go.Md
namespace Go.Ev
open Go.Md
def o140(n_:Int):Bool×List Row×List Row:=(true,[[.bool (isPortB n_)]],[])
def c140:Contract:=(cp zp0 λn_=>c0 (o140 n_)) true
def e140(n_:Int)(n:Nat):=evFn ⟨prog,Hx,140⟩ T23.call n f140 [zp0.row n_]
theorem r140(n_:Int)(n:Nat):e140 n_ n=some ([[D.bool (inR n_ (0) (3))]],[]):=by kernel_rfl
theorem m140(n_:Int):(o140 n_).1=true→e140 n_ 0=some (o140 n_).2:=by
 refine pm λhpre=>(r140 n_ _).trans ?_;rfl
def T140:Table:=(140,c140)::T23
theorem Zo5:Table.Sound prog Hx T140:=sa Zqn func140 (by kernel_rfl) (Zah λn_=>Zan λh=>⟨_,m140 n_ h⟩)
def o159(n_:Int):Bool×List Row×List Row:=(true,[[.bool (isHopsB n_)]],[])
def c159:Contract:=(cp zp0 λn_=>c0 (o159 n_)) true
def e159(n_:Int)(n:Nat):=evFn ⟨prog,Hx,159⟩ T140.call n f159 [zp0.row n_]
theorem r159(n_:Int)(n:Nat):e159 n_ n=some ([[D.bool (inR n_ (0) (8))]],[]):=by kernel_rfl
theorem m159(n_:Int):(o159 n_).1=true→e159 n_ 0=some (o159 n_).2:=by
 refine pm λhpre=>(r159 n_ _).trans ?_;rfl
def T159:Table:=(159,c159)::T140
theorem Zpo:Table.Sound prog Hx T159:=sa Zo5 func159 (by kernel_rfl) (Zah λn_=>Zan λh=>⟨_,m159 n_ h⟩)
def o158(v:Vec):Bool×List Row×List Row:=(true,[[.bool (vecOk v)]],[])
def zp1:Pa (Vec):=⟨λv=>[.int .i64 v.Root,.int .i64 v.Cost,.int .i64 v.Bridge,.int .i64 v.Port],λr=>match r with|[.int .i64 v_Root,.int .i64 v_Cost,.int .i64 v_Bridge,.int .i64 v_Port]=>some (λt=>t,⟨v_Root,v_Cost,v_Bridge,v_Port⟩)|_=>none,by
 intro r f x h t ht;split at h
 ·cases h;exact⟨ht,rfl⟩
 ·cases h⟩
def c158:Contract:=(cp zp1 λv=>c0 (o158 v)) true
def e158(v:Vec)(n:Nat):=evFn ⟨prog,Hx,158⟩ T159.call n f158 [zp1.row v]
theorem r158(v:Vec)(n:Nat):e158 v n=bif !inR (Vec.Root v) (1) (9)then some ([[D.bool false]],[])else bif !inR (Vec.Bridge v) (1) (9)then some ([[D.bool false]],[])else bif decide (Vec.Root v>Vec.Bridge v)then some ([[D.bool false]],[])else bif !isPortB (Vec.Port v)then some ([[D.bool false]],[])else bif inR (Vec.Cost v) (0) (20)then some ([[D.bool (decide ((Vec.Cost v==0)=(Vec.Root v==Vec.Bridge v)))]],[])else some ([[D.bool false]],[]):=by kernel_rfl
theorem m158(v:Vec):(o158 v).1=true→e158 v 0=some (o158 v).2:=by
 refine pm λhpre=>(r158 v _).trans ?_;unfold vecOk;simp only[Bool.cond_eq_ite];grind
def T158:Table:=(158,c158)::T159
theorem Zpn:Table.Sound prog Hx T158:=sa Zpo func158 (by kernel_rfl) (Zah λv=>Zan λh=>⟨_,m158 v h⟩)
def o156(v:Vec):Bool×List Row×List Row:=(true,[[.bool (vecOk v)]],[])
def c156:Contract:=(cp zp1 λv=>c0 (o156 v)) true
def e156(v:Vec)(n:Nat):=evFn ⟨prog,Hx,156⟩ T158.call n f156 [zp1.row v]
theorem r156(v:Vec)(n:Nat):e156 v n=bif inR (Vec.Root v) (1) (9)then bif inR (Vec.Bridge v) (1) (9)then bif decide (Vec.Root v≤Vec.Bridge v)then bif inR (Vec.Cost v) (0) (20)then bif decide ((Vec.Cost v==0)=(Vec.Root v==Vec.Bridge v))then some ([[D.bool (inR (Vec.Port v) (0) (3))]],[])else some ([[D.bool false]],[])else some ([[D.bool false]],[])else some ([[D.bool false]],[])else some ([[D.bool false]],[])else some ([[D.bool false]],[]):=by kernel_rfl
theorem m156(v:Vec):(o156 v).1=true→e156 v 0=some (o156 v).2:=by
 refine pm λhpre=>(r156 v _).trans ?_;unfold vecOk isPortB;simp only[Bool.cond_eq_ite];grind
def T156:Table:=(156,c156)::T158
theorem Zpl:Table.Sound prog Hx T156:=sa Zpn func156 (by kernel_rfl) (Zah λv=>Zan λh=>⟨_,m156 v h⟩)
def o130(on:Bool):Bool×List Row×List Row:=(true,[[.int .i64 (bitI on 1)]],[])
def zp2:Pa (Bool):=⟨λon=>[.bool on],λr=>match r with|[.bool on]=>some (λt=>t,on)|_=>none,by
 intro r f x h t ht;split at h
 ·cases h;exact⟨ht,rfl⟩
 ·cases h⟩
def c130:Contract:=(cp zp2 λon=>c0 (o130 on)) true
def e130(on:Bool)(n:Nat):=evFn ⟨prog,Hx,130⟩ T156.call n f130 [zp2.row on]
theorem r130(on:Bool)(n:Nat):e130 on n=bif on then some ([[D.int i64 (1)]],[])else some ([[D.int i64 (0)]],[]):=by kernel_rfl
theorem m130(on:Bool):(o130 on).1=true→e130 on 0=some (o130 on).2:=by
 refine pm λhpre=>(r130 on _).trans ?_;cases on<;>rfl
def T130:Table:=(130,c130)::T156
theorem Zov:Table.Sound prog Hx T130:=sa Zpl func130 (by kernel_rfl) (Zah λon=>Zan λh=>⟨_,m130 on h⟩)
end Go.Ev
end
noncomputable section
open List (getD length drop take set append replicate all isEmpty)
open Int (toNat ofNat)
open Go.IntKind (i64 wrap)
open Go.Proofs.Tryz (prog f148 f151 f160 func148 func151 func160)
namespace Go.Ev
open Go.RowKit Go.Md
end Go.Ev
namespace Go.Md
open Go Go.Ev
def openB(p:Port):Bool:=(p.Role==1||p.Role==2)&&p.Wait==0
def portOk(p:Port):Bool:=(bif p.Has then p.Up&&(vecOk p.Vec&&(isHopsB p.Hops&&inR p.Left 1 3))else p.Vec.Root==0&&p.Vec.Cost==0&&p.Vec.Bridge==0&&p.Vec.Port==0&&p.Hops==0&&p.Left==0)&&(inR p.Role 0 3&&((p.Role==0)==!p.Up)&&inR p.Wait 0 4&&p.Open==openB p)
end Go.Md
namespace Go.Ev
open Go.Md
def o160(p:Port):Bool×List Row×List Row:=(true,[[.bool (openB p)]],[])
def zp3:Pa (Port):=⟨λp=>[.bool p.Up,.bool p.Has,.int .i64 p.Vec.Root,.int .i64 p.Vec.Cost,.int .i64 p.Vec.Bridge,.int .i64 p.Vec.Port,.int .i64 p.Hops,.int .i64 p.Left,.int .i64 p.Role,.int .i64 p.Wait,.bool p.Open],λr=>match r with|[.bool p_Up,.bool p_Has,.int .i64 p_Vec_Root,.int .i64 p_Vec_Cost,.int .i64 p_Vec_Bridge,.int .i64 p_Vec_Port,.int .i64 p_Hops,.int .i64 p_Left,.int .i64 p_Role,.int .i64 p_Wait,.bool p_Open]=>some (λt=>t,⟨p_Up,p_Has,⟨p_Vec_Root,p_Vec_Cost,p_Vec_Bridge,p_Vec_Port⟩,p_Hops,p_Left,p_Role,p_Wait,p_Open⟩)|_=>none,by
 intro r f x h t ht;split at h
 ·cases h;exact⟨ht,rfl⟩
 ·cases h⟩
def c160:Contract:=(cp zp3 λp=>c0 (o160 p)) true
def e160(p:Port)(n:Nat):=evFn ⟨prog,Hx,160⟩ T130.call n f160 [zp3.row p]
theorem r160(p:Port)(n:Nat):e160 p n=bif Port.Role p==1 then some ([[D.bool (Port.Wait p==0)]],[])else bif Port.Role p==2 then some ([[D.bool (Port.Wait p==0)]],[])else some ([[D.bool false]],[]):=by kernel_rfl
theorem m160(p:Port):(o160 p).1=true→e160 p 0=some (o160 p).2:=by
 refine pm λhpre=>(r160 p _).trans ?_;unfold openB;simp only[Bool.cond_eq_ite];grind
def T160:Table:=(160,c160)::T130
theorem Zpp:Table.Sound prog Hx T160:=sa Zov func160 (by kernel_rfl) (Zah λp=>Zan λh=>⟨_,m160 p h⟩)
def o151(p:Port):Bool×List Row×List Row:=(true,[[.bool (portOk p)]],[])
def c151:Contract:=(cp zp3 λp=>c0 (o151 p)) true
def e151(p:Port)(n:Nat):=evFn ⟨prog,Hx,151⟩ T160.call n f151 [zp3.row p]
def y151_0(p:Port):=Vec.Root (Port.Vec p)==0&&(Vec.Cost (Port.Vec p)==0&&(Vec.Bridge (Port.Vec p)==0&&(Vec.Port (Port.Vec p)==0&&true)))
def y151_1(p:Port):List Row×List Row:=([[D.bool (decide (Port.Open p=openB p))]],[])
theorem r151(p:Port)(n:Nat):e151 p n=bif Port.Has p then bif !Port.Up p then some ([[D.bool false]],[])else bif !vecOk (Port.Vec p)then some ([[D.bool false]],[])else bif !isHopsB (Port.Hops p)then some ([[D.bool false]],[])else bif !inR (Port.Left p) (1) (3)then some ([[D.bool false]],[])else bif !Port.Has p then bif !(y151_0 p)then some ([[D.bool false]],[])else bif Port.Hops p !=0 then some ([[D.bool false]],[])else bif Port.Left p !=0 then some ([[D.bool false]],[])else bif !inR (Port.Role p) (0) (3)then some ([[D.bool false]],[])else bif decide ((Port.Role p==0)=Port.Up p)then some ([[D.bool false]],[])else bif !inR (Port.Wait p) (0) (4)then some ([[D.bool false]],[])else some (y151_1 p)else bif !inR (Port.Role p) (0) (3)then some ([[D.bool false]],[])else bif decide ((Port.Role p==0)=Port.Up p)then some ([[D.bool false]],[])else bif !inR (Port.Wait p) (0) (4)then some ([[D.bool false]],[])else some (y151_1 p)else bif !Port.Has p then bif !(y151_0 p)then some ([[D.bool false]],[])else bif Port.Hops p !=0 then some ([[D.bool false]],[])else bif Port.Left p !=0 then some ([[D.bool false]],[])else bif !inR (Port.Role p) (0) (3)then some ([[D.bool false]],[])else bif decide ((Port.Role p==0)=Port.Up p)then some ([[D.bool false]],[])else bif !inR (Port.Wait p) (0) (4)then some ([[D.bool false]],[])else some (y151_1 p)else bif !inR (Port.Role p) (0) (3)then some ([[D.bool false]],[])else bif decide ((Port.Role p==0)=Port.Up p)then some ([[D.bool false]],[])else bif !inR (Port.Wait p) (0) (4)then some ([[D.bool false]],[])else some (y151_1 p):=by kernel_rfl
theorem m151(p:Port):(o151 p).1=true→e151 p 0=some (o151 p).2:=by
 refine pm λhpre=>(r151 p _).trans ?_;delta y151_0 y151_1;unfold portOk;simp only[Zk5];apply Zm0;cases p.Has<;>simp only[Bool.cond_eq_ite]<;>grind
def T151:Table:=(151,c151)::T160
theorem Zpg:Table.Sound prog Hx T151:=sa Zpp func151 (by kernel_rfl) (Zah λp=>Zan λh=>⟨_,m151 p h⟩)
def o148(p:Port):Bool×List Row×List Row:=(true,[[.bool (portOk p)]],[])
def c148:Contract:=(cp zp3 λp=>c0 (o148 p)) true
def e148(p:Port)(n:Nat):=evFn ⟨prog,Hx,148⟩ T151.call n f148 [zp3.row p]
def y148_0(p:Port):List Row×List Row:=([[D.bool (decide (Port.Open p=(Port.Wait p==0)))]],[])
theorem r148(p:Port)(n:Nat):e148 p n=bif Port.Has p then bif !Port.Up p then some ([[D.bool false]],[])else bif !vecOk (Port.Vec p)then some ([[D.bool false]],[])else bif !inR (Port.Hops p) (0) (8)then some ([[D.bool false]],[])else bif !inR (Port.Left p) (1) (3)then some ([[D.bool false]],[])else bif Port.Role p==1 then bif inR (Port.Role p) (0) (3)then bif decide ((Port.Role p==0)=!Port.Up p)then bif inR (Port.Wait p) (0) (4)then some (y148_0 p)else some ([[D.bool false]],[])else some ([[D.bool false]],[])else some ([[D.bool false]],[])else bif inR (Port.Role p) (0) (3)then bif decide ((Port.Role p==0)=!Port.Up p)then bif inR (Port.Wait p) (0) (4)then bif Port.Role p==2 then some (y148_0 p)else some ([[D.bool (decide (Port.Open p=false))]],[])else some ([[D.bool false]],[])else some ([[D.bool false]],[])else some ([[D.bool false]],[])else bif !(Vec.Root (Port.Vec p)==0&&(Vec.Cost (Port.Vec p)==0&&(Vec.Bridge (Port.Vec p)==0&&(Vec.Port (Port.Vec p)==0&&true))))then some ([[D.bool false]],[])else bif Port.Hops p !=0 then some ([[D.bool false]],[])else bif Port.Left p !=0 then some ([[D.bool false]],[])else bif Port.Role p==1 then bif inR (Port.Role p) (0) (3)then bif decide ((Port.Role p==0)=!Port.Up p)then bif inR (Port.Wait p) (0) (4)then some (y148_0 p)else some ([[D.bool false]],[])else some ([[D.bool false]],[])else some ([[D.bool false]],[])else bif inR (Port.Role p) (0) (3)then bif decide ((Port.Role p==0)=!Port.Up p)then bif inR (Port.Wait p) (0) (4)then bif Port.Role p==2 then some (y148_0 p)else some ([[D.bool (decide (Port.Open p=false))]],[])else some ([[D.bool false]],[])else some ([[D.bool false]],[])else some ([[D.bool false]],[]):=by kernel_rfl
theorem m148(p:Port):(o148 p).1=true→e148 p 0=some (o148 p).2:=by
 refine pm λhpre=>(r148 p _).trans ?_;delta y148_0;unfold portOk openB isHopsB;simp only[Zk5];apply Zm0;cases p.Has<;>simp only[Bool.cond_eq_ite]<;>grind
def T148:Table:=(148,c148)::T151
theorem Zpd:Table.Sound prog Hx T148:=sa Zpg func148 (by kernel_rfl) (Zah λp=>Zan λh=>⟨_,m148 p h⟩)
end Go.Ev
end
