/- Typed data and its rows: what a proof about contracts speaks of. -/
import Derived.Test.YtihhlajibgoemaaGreatEvLib
namespace Go.Ev
set_option linter.unusedVariables false
set_option linter.unusedSimpArgs false
class En (α:Type) where
 leaves:List Leaf
 enc:Bool→α→List D
 dec:List D→α
 nil:α
 dec_enc:∀o x,dec (enc o x)=x
 fit:∀o x,fits o leaves (enc o x)=true
 lend:∀o x,lendRow (enc o x)=enc false x
 deep:∀x,deepRow (enc true x)=true
def enS{α:Type}[En α](o:Bool)(xs:List α):List (List D):=xs.map (En.enc o)
def deS(α:Type)[En α](es:List (List D)):List α:=es.map En.dec
noncomputable def isS(α:Type)[En α](o:Bool)(es:List (List D)):Bool:=@decide (es=enS o (deS α es)) (Classical.propDecidable _)
noncomputable def isE(α:Type)[En α](o:Bool)(r:List D):Bool:=@decide (r=En.enc o (En.dec r:α)) (Classical.propDecidable _)
noncomputable def sameB{α:Type}(x y:α):Bool:=@decide (x=y) (Classical.propDecidable _)
theorem Zas{α:Type}(x:α):sameB x x=true:=by unfold sameB;exact @decide_eq_true _ (Classical.propDecidable _) rfl
theorem Zav{α:Type}{x y:α}(h:sameB x y=true):x=y:=by unfold sameB at h;exact @of_decide_eq_true _ (Classical.propDecidable _) h
section
variable {α : Type} [En α]
theorem Zad(o:Bool)(xs:List α):deS α (enS o xs)=xs:=by
 unfold deS enS;rw[List.map_map];have:(En.dec∘En.enc o:α→α)=id:=funext λx=>En.dec_enc o x;rw[this,List.map_id]
theorem Zak(o:Bool)(xs:List α):isS α o (enS o xs)=true:=by
 unfold isS;exact @decide_eq_true _ (Classical.propDecidable _) (by rw[Zad])
theorem Zay{o:Bool}{es:List (List D)}(h:isS α o es=true):∃xs:List α,es=enS o xs:=⟨deS α es,by unfold isS at h;exact @of_decide_eq_true _ (Classical.propDecidable _) h⟩
theorem Ztl(o:Bool):isS α o []=true:=Zak o ([]:List α)
theorem Zxs:deS α []=[]:=rfl
theorem Z25(o:Bool)(x:α):isE α o (En.enc o x)=true:=by
 unfold isE;exact @decide_eq_true _ (Classical.propDecidable _) (by rw[En.dec_enc])
theorem isE_ex{o:Bool}{r:List D}(h:isE α o r=true):∃x:α,r=En.enc o x:=⟨En.dec r,by unfold isE at h;exact @of_decide_eq_true _ (Classical.propDecidable _) h⟩
theorem Zaa(o:Bool)(xs:List α):(enS o xs).length=xs.length:=List.length_map _
theorem Z22(o:Bool):enS o ([]:List α)=[]:=rfl
theorem Z2o(o:Bool)(x:α)(xs:List α):enS o (x::xs)=En.enc o x::enS o xs:=rfl
theorem Zce(o:Bool)(xs ys:List α):enS o (xs++ys)=enS o xs++enS o ys:=List.map_append
theorem Zgz(o:Bool)(x:α):enS o [x]=[En.enc o x]:=rfl
theorem Zba(o:Bool)(xs:List α)(x:α):enS o xs++[En.enc o x]=enS o (xs++[x]):=by rw[Zce,Zgz]
theorem Zab(o:Bool){xs:List α}{i:Nat}(h:i<xs.length):(enS o xs).getD i []=En.enc o xs[i]:=by
 unfold enS;rw[List.getD_eq_getElem?_getD,List.getElem?_map,List.getElem?_eq_getElem h];rfl
theorem Z2q(o:Bool){xs:List α}{i:Nat}(h:i<xs.length):(enS o xs).getD i []=En.enc o (xs.getD i En.nil):=by
 rw[Zab o h,List.getD_eq_getElem?_getD,List.getElem?_eq_getElem h];rfl
theorem Za9(o:Bool)(xs:List α)(i:Nat)(x:α):(enS o xs).set i (En.enc o x)=enS o (xs.set i x):=by
 unfold enS;rw[List.map_set]
theorem Zuv(o:Bool)(xs:List α)(i:Nat):(enS o xs).drop i=enS o (xs.drop i):=by
 unfold enS;rw[List.map_drop]
theorem Zm3(o:Bool)(xs:List α)(i:Nat):(enS o xs).take i=enS o (xs.take i):=by
 unfold enS;rw[List.map_take]
theorem Zd2(o:Bool)(n:Nat)(x:α):List.replicate n (En.enc o x)=enS o (List.replicate n x):=by
 unfold enS;rw[List.map_replicate]
theorem Zaf(o:Bool)(xs:List α):lendRows (enS o xs)=enS false xs:=by
 induction xs with
 |nil=>rfl
 |cons x xs ih=>
  show lendRow (En.enc o x)::lendRows (enS o xs)=En.enc false x::enS false xs;rw[ih,En.lend]
theorem Zal(xs:List α):deepRows (enS true xs)=true:=by
 induction xs with
 |nil=>rfl
 |cons x xs ih=>
  show(deepRow (En.enc true x)&&deepRows (enS true xs))=true;rw[ih,En.deep];rfl
abbrev RR:=Option (List Row×List Row)
abbrev U_:TV:=.v false [.undef]
noncomputable def u_(n:Nat)(l:List TV):List TV:=Nat.rec (motive:=λ_=>List TV) l (λ_ r=>U_::r) n
abbrev I_(x:Int):TV:=.v false [.d (.int .i64 x)]
abbrev B_(b:Bool):TV:=.v false [.d (.bool b)]
theorem Za5{R:Type}{c:Bool}{a b r:R}(h:c=false)(hb:b=r):(bif c then a else b)=r:=by rw[h];exact hb
theorem Zaj{R:Type}{c:Bool}{a b r:R}(h:c=true)(hb:a=r):(bif c then a else b)=r:=by rw[h];exact hb
theorem g_pre{G:RR→Prop}{c:Bool}{a:RR}(h:c=true)(ha:G a):G (bif c then a else none):=by rw[h];exact ha
theorem g_if{G:RR→Prop}{c:Bool}{a b:RR}(ha:c=true→G a)(hb:c=false→G b):G (bif c then a else b):=by
 cases c
 ·exact hb rfl
 ·exact ha rfl
theorem g_t{G:RR→Prop}{c:Bool}{a b:RR}(h:c=true)(ha:G a):G (bif c then a else b):=by rw[h];exact ha
theorem g_f{G:RR→Prop}{c:Bool}{a b:RR}(h:c=false)(hb:G b):G (bif c then a else b):=by rw[h];exact hb
theorem g_eq{G:RR→Prop}{a b:RR}(h:a=b)(hb:G b):G a:=h▸hb
theorem g_loop{V:Type}{G:RR→Prop}{body:St→(Ex→St→RR)→RR}{m lv wr:Nat}{K:Ex→St→RR}(S:V→St)(p:V→Prop)(μ:V→Nat)
  (h:∀v,p v→∀f:St→RR,(∀v',p v'→μ v'<μ v→G (f (S v')))→G (body (S v) (kThen (λst=>f (st.head m lv wr)) K))):
  ∀(k:Nat) (v:V),p v→μ v<k→G (loopRun body m lv wr k (S v) K):=by
 intro k;induction k with
 |zero=>intro v _ hk;exact absurd hk (Nat.not_lt_zero _)
 |succ k ih=>
  intro v hp hk;unfold loopRun;exact h v hp (λst=>loopRun body m lv wr k st K) (λv' hp' hμ=>ih v' hp' (by omega))
theorem Z21{o:Bool}{xs ys:List α}(h:enS o xs=enS o ys):xs=ys:=by
 have:=congrArg (deS α) h
 rwa [Zad,Zad]at this
theorem Z23{o:Bool}{x y:α}(h:En.enc o x=En.enc o y):x=y:=by
 have:=congrArg (En.dec:List D→α) h
 rwa [En.dec_enc,En.dec_enc]at this
theorem Z2p(o:Bool)(xs:List α):(enS o xs).all (λr=>fits o (En.leaves α) r)=true:=List.all_eq_true.2 (λr hr=>by
 obtain⟨x,_,rfl⟩:=List.mem_map.1 hr;exact En.fit o x)
theorem Zaw(o:Bool)(xs:List α):decide (Int.ofNat xs.length<Int.ofNat (enS o xs).length)=false:=by
 rw[Zaa,Zap];exact decide_eq_false (Nat.lt_irrefl _)
theorem Zaz(o:Bool){xs:List α}{i:Nat}(h:i<xs.length):decide (Int.ofNat i<Int.ofNat (enS o xs).length)=true:=by
 rw[Zaa,Zap];exact decide_eq_true h
theorem Zai{A R:Type}{body:St→(Ex→St→Option R)→Option R}{m lv wr:Nat}{K:Ex→St→Option R}{X:Type}{xs:List X}(S:Nat→A→St)(p:Nat→A→Prop)(g:Nat→A→List X→Option R)
  (hend:∀a,p xs.length a→∀f:St→Option R,body (S xs.length a) (kThen (λst=>f (st.head m lv wr)) K)=g xs.length a [])
  (h:∀i a (hi:i<xs.length),p i a→∀f:St→Option R,(∀a',p (i+1) a'→f (S (i+1) a')=g (i+1) a' (xs.drop (i+1)))→body (S i a) (kThen (λst=>f (st.head m lv wr)) K)=g i a (xs[i]::xs.drop (i+1))):
  ∀(k:Nat) (a:A),xs.length<k→p 0 a→loopRun body m lv wr k (S 0 a) K=g 0 a xs:=by
 intro k a hk hp;refine Zby (V:=Nat×A) (λv=>S v.1 v.2) (λv=>v.1≤xs.length∧p v.1 v.2) (λv=>xs.length-v.1) (λv=>g v.1 v.2 (xs.drop v.1)) ?_ k (0,a) ⟨Nat.zero_le _,hp⟩ (by simp;omega)
 rintro⟨i,a⟩ ⟨h1,h2⟩ f hf;simp only at h1 h2;by_cases hi:i<xs.length
 ·show _=g i a (xs.drop i);rw[List.drop_eq_getElem_cons hi];exact h i a hi h2 f (λa' ha=>hf (i+1,a') ⟨hi,ha⟩ (by simp;omega))
 ·have:i=xs.length:=by omega
  subst this;show _=g xs.length a (xs.drop xs.length);rw[List.drop_length];exact hend a h2 f
end
def szR(w:Int)(left:Int):Int:=bif decide (w≤left)then left-w else -1
def markS{α:Type}(mk:α→Int→α)(n:α→Int):List α→Int→List α
 |[],_=>[]
 |x::xs,k=>mk x k::markS mk n xs (k+n x)
def cntS{α:Type}(n:α→Int):List α→Int
 |[]=>0
 |x::xs=>n x+cntS n xs
theorem Za1{α:Type}(mk:α→Int→α)(n:α→Int):∀(xs:List α) (k:Int),(markS mk n xs k).length=xs.length
 |[],_=>rfl
 |x::xs,k=>by simp[markS,Za1 mk n xs]
theorem Zag{α:Type}{n:α→Int}(h:∀x,0≤n x):∀xs:List α,0≤cntS n xs
 |[]=>Int.le_refl 0
 |x::xs=>by have:=Zag h xs;have:=h x;unfold cntS;omega
theorem Zam{α:Type}{mk:α→Int→α}{n:α→Int}(h1:∀x k,mk (mk x k) k=mk x k)(h2:∀x k,n (mk x k)=n x):∀(xs:List α) (k:Int),markS mk n (markS mk n xs k) k=markS mk n xs k∧cntS n (markS mk n xs k)=cntS n xs
 |[],_=>⟨rfl,rfl⟩
 |x::xs,k=>by
  obtain⟨a,b⟩:=Zam h1 h2 xs (k+n x);refine⟨?_,?_⟩
  ·show mk (mk x k) k::markS mk n (markS mk n xs (k+n x)) (k+n (mk x k))=_;rw[h1,h2,a];rfl
  ·show n (mk x k)+cntS n (markS mk n xs (k+n x))=_;rw[h2,b];rfl
theorem Zb1{α:Type}{n:α→Int}{c:Int}(h:∀x,n x=c):∀xs:List α,cntS n xs=c*(xs.length:Int)
 |[]=>by simp[cntS]
 |x::xs=>by
  unfold cntS;rw[h x,Zb1 h xs,List.length_cons]
  push_cast
  rw[Int.mul_add];omega
theorem Zdn{α:Type}(pre:List α)(x:α)(rest:List α){i:Nat}(h:pre.length=i):i<(pre++x::rest).length:=by simp[←h]
theorem Zfa{α:Type}(pre:List α)(x:α)(rest:List α){i:Nat}(h:pre.length=i)(hi:i<(pre++x::rest).length):(pre++x::rest)[i]=x:=by subst h;simp
theorem Zda{α:Type}(pre:List α)(x y:α)(rest:List α){i:Nat}(h:pre.length=i):(pre++x::rest).set i y=(pre++[y])++rest:=by subst h;simp
theorem Zbb{α:Type}{xs ys:List α}{i:Nat}(hi:i<xs.length)(hl:ys.length=xs.length)(h:ys.take i=xs.take i):(ys.set i xs[i]).take (i+1)=xs.take (i+1):=by
 rw[List.take_add_one,List.take_add_one,List.take_set,List.getElem?_set_self (by omega),List.getElem?_eq_getElem hi]
 rw[List.set_eq_of_length_le (by rw[List.length_take];omega),h]
theorem Zau{x:Int}(h0:0≤x)(h1:x≤9223372036854775807):IntKind.wrap IntKind.i64 x=x:=Zb6 (by omega) h1
theorem Zmw(k:Int):((IntKind.wrap IntKind.u8 k).toNat.toUInt8.toNat:Int)=IntKind.wrap IntKind.u8 k:=by
 rw[IntKind.wrap_u8];have h1:0≤k % 256:=Int.emod_nonneg k (by decide)
 have h2:k % 256<256:=Int.emod_lt_of_pos k (by decide)
 simp only[Nat.toUInt8,UInt8.toNat_ofNat'];omega
theorem Zbe(w left:Int)(h0:0≤left):(w≤left∧szR w left=left-w∧decide (szR w left<0)=false)∨(left<w∧szR w left=-1∧decide (szR w left<0)=true):=by
 by_cases h:w≤left
 ·have e:szR w left=left-w:=by unfold szR;rw[decide_eq_true h];rfl
  exact .inl ⟨h,e,by rw[e];exact decide_eq_false (by omega)⟩
 ·have e:szR w left=-1:=by unfold szR;rw[decide_eq_false h];rfl
  exact .inr ⟨by omega,e,by rw[e];rfl⟩
theorem Zcd{w left:Int}(h:w≤left):szR w left=left-w:=by unfold szR;rw[decide_eq_true h];rfl
theorem Zbl{w left:Int}(h:left<w):szR w left=-1:=by unfold szR;rw[decide_eq_false (by omega)];rfl
theorem Zdo{α:Type}{wt:α→Int}{small:α→Bool}(hp:∀x,0≤wt x)(h:∀x,wt x≤1048576→small x=true):∀xs:List α,cntS wt xs≤1048576→xs.all small=true
 |[],_=>rfl
 |x::xs,hc=>by
  unfold cntS at hc;have h1:=Zag hp xs;have h2:=hp x;rw[List.all_cons,h x (by omega),Zdo hp h xs (by omega)]
  rfl
instance:En Int where
 leaves:=[.int .i64]
 enc _ x:=[.int .i64 x]
 dec r:=(r.getD 0 .dead).num
 nil:=0
 dec_enc _ _:=rfl
 fit _ _:=rfl
 lend _ _:=rfl
 deep _:=rfl
instance:En Bool where
 leaves:=[.bool]
 enc _ x:=[.bool x]
 dec r:=(r.getD 0 .dead).flag
 nil:=false
 dec_enc _ _:=rfl
 fit _ _:=rfl
 lend _ _:=rfl
 deep _:=rfl
instance:En UInt8 where
 leaves:=[.int .u8]
 enc _ x:=[.int .u8 (x.toNat:Int)]
 dec r:=(r.getD 0 .dead).num.toNat.toUInt8
 nil:=0
 dec_enc _ x:=by simp[D.num]
 fit _ _:=rfl
 lend _ _:=rfl
 deep _:=rfl
instance:En ByteArray where
 leaves:=[.str]
 enc _ x:=[.str x]
 dec r:=(r.getD 0 .dead).text
 nil:=ByteArray.empty
 dec_enc _ _:=rfl
 fit _ _:=rfl
 lend _ _:=rfl
 deep _:=rfl
theorem Zvt(o:Bool)(x:Int)(es:List (List D)):isS Int o ([D.int .i64 x]::es)=isS Int o es:=by
 rw[Bool.eq_iff_iff];constructor
 ·intro h;obtain⟨xs,hx⟩:=Zay h;cases xs with
  |nil=>cases hx
  |cons y ys=>
   have:es=enS o ys:=(List.cons.inj hx).2;rw[this];exact Zak o ys
 ·intro h;obtain⟨xs,rfl⟩:=Zay h;exact Zak o (x::xs)
theorem isS_of{α:Type}[En α]{T:Ty}{xs:List T.den}(h:∀x∈xs,∃y:α,T.enc x=En.enc false y):isS α false (xs.map T.enc)=true:=by
 have:∃ys:List α,xs.map T.enc=enS false ys:=by
  induction xs with
  |nil=>exact⟨[],rfl⟩
  |cons x xs ih=>
   obtain⟨ys,hy⟩:=ih (λx hx=>h x (List.mem_cons_of_mem _ hx));obtain⟨y,he⟩:=h x List.mem_cons_self;exact⟨y::ys,by rw[List.map_cons,hy,he];rfl⟩
 obtain⟨ys,hy⟩:=this;rw[hy];exact Zak false ys
theorem Zf9{α:Type}[En α]{T:Ty}{cv:T.den→α}(h:∀x,T.ok x→T.enc x=En.enc false (cv x))(xs:List T.den)(hx:∀x∈xs,T.ok x):xs.map T.enc=enS false (xs.map cv):=by
 unfold enS;rw[List.map_map];exact List.map_congr_left (λx hm=>h x (hx x hm))
theorem Zs9(x:(Ty.int .i64).den)(_:(Ty.int .i64).ok x):(Ty.int .i64).enc x=En.enc false (x:Int):=rfl
theorem Zpv(x:Ty.bool.den)(_:Ty.bool.ok x):Ty.bool.enc x=En.enc false (x:Bool):=rfl
theorem Z0g(x:Ty.str.den)(_:Ty.str.ok x):Ty.str.enc x=En.enc false (x:ByteArray):=rfl
theorem Zhc{x:Int}(h0:-4611686018427387904≤x)(h1:x≤4611686018427387904):IntKind.wrap IntKind.i64 x=x:=Zb6 (by omega) (by omega)
def u8(x:Int):UInt8:=(IntKind.wrap IntKind.u8 x).toNat.toUInt8
theorem Zvf(x:Int):((u8 x).toNat:Int)=IntKind.wrap IntKind.u8 x:=Zmw x
theorem Zus(o:Bool)(b:UInt8):En.enc o b=[D.int .u8 (b.toNat:Int)]:=rfl
theorem Z2k(o:Bool)(x:Int):(En.enc o (u8 x))=[D.int .u8 (IntKind.wrap IntKind.u8 x)]:=by rw[Zus,Zvf]
theorem Zu4{α:Type}[En α](h:∀(o:Bool) (x:α),(En.enc o x).all D.noSl=true)(o:Bool)(xs:List α):((enS o xs).all λr=>r.all D.noSl)=true:=List.all_eq_true.2 (λr hr=>by
 obtain⟨x,_,rfl⟩:=List.mem_map.1 hr;exact h o x)
theorem Zty(o:Bool)(xs:List UInt8):((enS o xs).all λr=>r.all D.noSl)=true:=Zu4 (λ_ _=>rfl) o xs
theorem and255(x:Int):IntKind.wrap IntKind.u8 (IntKind.wrap IntKind.i64 (Int.ofNat (BitVec.toNat (BitVec.and (BitVec.ofInt 64 x) (BitVec.ofInt 64 255)))))=IntKind.wrap IntKind.u8 x:=by
 have h:BitVec.toNat (BitVec.and (BitVec.ofInt 64 x) (BitVec.ofInt 64 255))=(BitVec.ofInt 64 x).toNat % 256:=by
  have:=BitVec.toNat_and (BitVec.ofInt 64 x) (BitVec.ofInt 64 255);show BitVec.toNat (BitVec.ofInt 64 x &&&BitVec.ofInt 64 255)=_;rw[this];exact Nat.and_two_pow_sub_one_eq_mod (BitVec.ofInt 64 x).toNat 8
 rw[h,BitVec.toNat_ofInt,Zb6 (by show _≤(((_ % 256:Nat)):Int);omega) (by show(((_ % 256:Nat)):Int)≤_;omega),IntKind.wrap_u8,IntKind.wrap_u8]
 show(((x % 2 ^ 64).toNat % 256:Nat):Int) % 256=x % 256;omega
theorem Zk5(c a b:Bool):(bif c then(some ([[D.bool a]],[]):Option (List Row×List Row))else some ([[D.bool b]],[]))=some ([[D.bool (bif c then a else b)]],[]):=by cases c<;>rfl
theorem Zm0{a b:Bool}(h:a=true↔b=true):(some ([[D.bool a]],[]):Option (List Row×List Row))=some ([[D.bool b]],[]):=by rw[Bool.eq_iff_iff.2 h]
theorem Zhv{k:Nat}(h:k≤4611686018427387904):IntKind.wrap IntKind.i64 (Int.ofNat k)=Int.ofNat k:=Zb6 (by show _≤(k:Int);omega) (by show(k:Int)≤_;omega)
theorem Zxt(xs:List UInt8)(x:Int):List.append (enS true xs) [[D.int .u8 (IntKind.wrap IntKind.u8 x)]]=enS true (xs++[u8 x]):=by
 rw[Zce,Zgz,Z2k];rfl
def cvByte(x:Int):UInt8:=x.toNat.toUInt8
theorem Zs3{x:Int}(h0:0≤x)(h1:x≤255):((x.toNat.toUInt8.toNat:Nat):Int)=x:=by
 simp only[Nat.toUInt8,UInt8.toNat_ofNat'];omega
theorem Zpw(x:(Ty.int .u8).den)(h:(Ty.int .u8).ok x):(Ty.int .u8).enc x=En.enc false (cvByte x):=by
 have h':(decide (IntKind.u8.min≤x)&&decide (x≤IntKind.u8.max))=true:=h;rw[Bool.and_eq_true]at h';have hb:=Zs3 (x:=x) (of_decide_eq_true h'.1) (of_decide_eq_true h'.2);show[D.int .u8 x]=[D.int .u8 ((x.toNat.toUInt8.toNat:Nat):Int)];rw[hb]
theorem Z3c{α:Type}[En α]{n:Nat}{es:List (List D)}(h:isS α false es=true):∃ys:List α,D.sl false n es=D.sl false n (enS false ys):=by
 obtain⟨ys,rfl⟩:=Zay h;exact⟨ys,rfl⟩
theorem gos:(∀(α:Type) [En α] (o:Bool) (xs:List α),(enS o xs).length=xs.length)∧(∀n:Nat,Int.toNat (Int.ofNat n)=n)∧(∀i n:Nat,decide (Int.ofNat i<Int.ofNat n)=decide (i<n))∧(∀n:Nat,decide ((0:Int)≤Int.ofNat n)=true)∧
  (∀h:Decidable True,@decide True h=true)∧(∀h:Decidable False,@decide False h=false)∧(∀(α:Type) (a b:α),cond true a b=a)∧(∀(α:Type) (a b:α),cond false a b=b)∧(∀b:Bool,(b&&b)=b)∧(∀b:Bool,(b&&true)=b)∧(∀b:Bool,(true&&b)=b)∧((!true)=false)∧((!false)=true)∧
  (∀n:Nat,¬n<n)∧(∀n:Nat,0+n=n)∧(∀(α:Type) [En α] (o:Bool) (xs:List α),isS α o (enS o xs)=true)∧(∀(α:Type) [En α] (o:Bool) (xs:List α),deS α (enS o xs)=xs)∧(∀(α:Type) [En α] (o:Bool),isS α o []=true)∧(∀(α:Type) [En α],deS α []=[])∧
  (∀(α:Type) (l:List α),[]++l=l)∧(∀(α:Type) [En α] (o:Bool) (xs:List α),lendRows (enS o xs)=enS false xs)∧(∀(α:Type) [En α] (xs:List α),deepRows (enS true xs)=true)∧(∀(o:Bool) (xs:List UInt8),((enS o xs).all λr=>r.all D.noSl)=true)∧
  (∀(α:Type) (d a:α) (l:List α),(a::l).getD 0 d=a)∧(∀(α:Type) (d a:α) (l:List α) (n:Nat),(a::l).getD (n+1) d=l.getD n d)∧(∀(α:Type) (a b:List α),List.append a b=a++b):=
 ⟨@Zaa,Zac,@Zap,@Zaq,@decide_true,@decide_false,@cond_true,@cond_false,Bool.and_self,Bool.and_true,Bool.true_and,Bool.not_true,Bool.not_false,Nat.lt_irrefl,Nat.zero_add,@Zak,@Zad,@Ztl,@Zxs,@List.nil_append,@Zaf,@Zal,Zty,λ_ _ _ _=>rfl,λ_ _ _ _ _=>rfl,λ_ _ _=>rfl⟩
end Go.Ev
