/- Words for proofs about what a run leaves. -/
import Derived.Laws.BitsLemmas
import Derived.Test.YtihhlajibgoemaaGreatEvTy
namespace Go.Ev
set_option linter.unusedVariables false
set_option linter.unusedSimpArgs false
theorem Zb6{x:Int}(h0:-9223372036854775808≤x)(h1:x≤9223372036854775807):IntKind.wrap IntKind.i64 x=x:=by rw[IntKind.wrap_i64];omega
theorem Zae{i:Nat}(h:i<4611686018427387904):IntKind.wrap IntKind.i64 (Int.ofNat i+1)=Int.ofNat (i+1):=by
 rw[Zb6 (by have:(0:Int)≤Int.ofNat i:=Int.natCast_nonneg i;omega) (by have:Int.ofNat i<4611686018427387904:=by { show((i:Nat):Int)<4611686018427387904;omega };omega)]
 rfl
theorem Zap{i n:Nat}:decide (Int.ofNat i<Int.ofNat n)=decide (i<n):=by
 by_cases h:i<n<;>simp[h]
theorem Zaq{n:Nat}:decide ((0:Int)≤Int.ofNat n)=true:=by simp
theorem Zac(n:Nat):Int.toNat (Int.ofNat n)=n:=rfl
def isRow(own:Bool)(ls:List Leaf)(es:List (List D)):Bool:=es.all λr=>fits own ls r
theorem Ztk{own:Bool}{ls:List Leaf}{es:List (List D)}(h:isRow own ls es=true){i:Nat}(hi:i<es.length):fits own ls (es.getD i [])=true:=by
 have:=List.all_eq_true.1 h (es.getD i []) (by rw[List.getD_eq_getElem?_getD,List.getElem?_eq_getElem hi];exact List.getElem_mem hi)
 exact this
theorem Z2r{own:Bool}{k:IntKind}{r:List D}(h:fits own [.int k] r=true):∃x,r=[.int k x]:=by
 match r,h with
 |[d],h=>
  simp only[fits,Bool.and_true]at h;obtain⟨n,rfl⟩:=Zei h;exact⟨n,rfl⟩
 |[],h=>cases h
 |d::d'::ds,h=>simp[fits]at h
theorem Zue{es xs:List (List D)}{i:Nat}(hi:i<es.length)(hl:xs.length=es.length)(h:xs.take i=es.take i):(xs.set i (es.getD i [])).take (i+1)=es.take (i+1):=by
 have h1:es.getD i []=es[i]:=by rw[List.getD_eq_getElem?_getD,List.getElem?_eq_getElem hi];rfl
 rw[List.take_add_one,List.take_add_one,List.take_set,List.getElem?_set_self (by omega),List.getElem?_eq_getElem hi,h1]
 rw[List.set_eq_of_length_le (by rw[List.length_take];omega),h]
theorem Z0o{A R:Type}{body:St→(Ex→St→Option R)→Option R}{m lv wr:Nat}{K:Ex→St→Option R}{es:List (List D)}(S:Nat→A→St)(p:Nat→A→Prop)(g:A→List (List D)→Option R)
  (hend:∀a,p es.length a→∀f:St→Option R,body (S es.length a) (kThen (λst=>f (st.head m lv wr)) K)=g a [])
  (h:∀i a,i<es.length→p i a→∀f:St→Option R,(∀a',p (i+1) a'→f (S (i+1) a')=g a' (es.drop (i+1)))→body (S i a) (kThen (λst=>f (st.head m lv wr)) K)=g a (es.getD i []::es.drop (i+1))):
  ∀(k:Nat) (a:A),es.length<k→p 0 a→loopRun body m lv wr k (S 0 a) K=g a es:=by
 intro k a hk hp;refine Zby (V:=Nat×A) (λv=>S v.1 v.2) (λv=>v.1≤es.length∧p v.1 v.2) (λv=>es.length-v.1) (λv=>g v.2 (es.drop v.1)) ?_ k (0,a) ⟨Nat.zero_le _,hp⟩ (by simp;omega)
 rintro⟨i,a⟩ ⟨h1,h2⟩ f hf;simp only at h1 h2;by_cases hi:i<es.length
 ·show _=g a (es.drop i);rw[List.drop_eq_getElem_cons hi,show es[i]=es.getD i [] by rw[List.getD_eq_getElem?_getD,List.getElem?_eq_getElem hi];rfl]
  exact h i a hi h2 f (λa' ha=>hf (i+1,a') ⟨hi,ha⟩ (by simp;omega))
 ·have:i=es.length:=by omega
  subst this;show _=g a (es.drop es.length);rw[List.drop_length];exact hend a h2 f
theorem Z0p{A R:Type}{body:St→(Ex→St→Option R)→Option R}{m lv wr:Nat}{K:Ex→St→Option R}(S:Nat→A→St)(p:Nat→A→Prop)(g:Nat→Nat→A→Option R)(N:Nat)
  (hlast:∀a,p N a→∀f:St→Option R,body (S N a) (kThen (λst=>f (st.head m lv wr)) K)=g 0 N a)
  (h:∀k i a,i+(k+1)=N→p i a→∀f:St→Option R,(∀a',p (i+1) a'→f (S (i+1) a')=g k (i+1) a')→body (S i a) (kThen (λst=>f (st.head m lv wr)) K)=g (k+1) i a):
  ∀(k:Nat) (a:A),N<k→p 0 a→loopRun body m lv wr k (S 0 a) K=g N 0 a:=by
 intro k a hk hp;refine Zby (V:=Nat×A) (λv=>S v.1 v.2) (λv=>v.1≤N∧p v.1 v.2) (λv=>N-v.1) (λv=>g (N-v.1) v.1 v.2) ?_ k (0,a) ⟨Nat.zero_le _,hp⟩ (by simp;omega)
 rintro⟨i,a⟩ ⟨h1,h2⟩ f hf;simp only at h1 h2;by_cases hi:i=N
 ·subst hi;show _=g (i-i) i a;rw[Nat.sub_self];exact hlast a h2 f
 ·show _=g (N-i) i a;obtain⟨k,hk⟩:∃k,N-i=k+1:=⟨N-i-1,by omega⟩
  rw[hk];refine h k i a (by omega) h2 f (λa' ha=>?_)
  have:=hf (i+1,a') ⟨by show i+1≤N;omega,ha⟩ (by simp;omega)
  rw[show k=N-(i+1) by omega]
  exact this
theorem Zvs{own:Bool}{ls:List Leaf}{es:List (List D)}(h:isRow own ls es=true){i:Nat}(hi:i<es.length):(es.getD i []).length=ls.length:=Zh3 (Ztk h hi)
theorem Zhl:∀{r:List D},r.all D.noSl=true→lendRow r=r
 |[],_=>rfl
 |d::r,h=>by
  simp only[List.all_cons,Bool.and_eq_true]at h;unfold lendRow;rw[Zhl h.2];cases d<;>first|rfl|cases h.1
theorem Zf6:∀{es:List (List D)},(es.all λr=>r.all D.noSl)=true→lendRows es=es
 |[],_=>rfl
 |r::es,h=>by
  simp only[List.all_cons,Bool.and_eq_true]at h;unfold lendRows;rw[Zhl h.1,Zf6 h.2]
theorem Zld{own:Bool}:∀{ls:List Leaf} {r:List D},ls.any Leaf.isSl=false→fits own ls r=true→r.all D.noSl=true
 |[],[],_,_=>rfl
 |l::ls,d::r,hl,h=>by
  simp only[List.any_cons,Bool.or_eq_false_iff]at hl;simp only[fits,Bool.and_eq_true]at h;rw[List.all_cons,Zld hl.2 h.2,Bool.and_true];cases l with
  |sl n f=>cases hl.1
  |int k=>obtain⟨n,rfl⟩:=Zei h.1;rfl
  |bool=>obtain⟨n,rfl⟩:=Zex h.1;rfl
  |str=>obtain⟨n,rfl⟩:=Zg0 h.1;rfl
  |other=>rw[Zf1 h.1];rfl
 |[],_::_,_,h=>by cases h
 |_::_,[],_,h=>by cases h
theorem Zyc{own:Bool}{ls:List Leaf}{es:List (List D)}(hl:ls.any Leaf.isSl=false)(h:isRow own ls es=true):lendRows es=es:=by
 refine Zf6 (List.all_eq_true.2 λr hr=>?_);exact Zld hl (List.all_eq_true.1 h r hr)
theorem len_le{a b:Nat}:decide (Int.ofNat a≤Int.ofNat b)=decide (a≤b):=by by_cases h:a≤b<;>simp[h]
theorem len_ne{a b:Nat}:(Int.ofNat a !=Int.ofNat b)=!decide (a=b):=by
 by_cases h:a=b
 ·subst h;simp
 ·have:¬Int.ofNat a=Int.ofNat b:=λhx=>h (by injection hx)
  simp[h,bne];exact λhx=>h (by exact_mod_cast hx)
theorem Zd3{n k:Nat}(h:n*k≤140737488355328):(decide (0≤Int.ofNat n)&&(decide (Int.ofNat n≤Int.ofNat n)&&decide (Int.toNat (Int.ofNat n)*k≤140737488355328)))=true:=by
 rw[Zac];simp[h]
def Ty.leaves:Ty→List Leaf
 |.int k=>[.int k]
 |.bool=>[.bool]
 |.str=>[.str]
 |.sl e=>[.sl e.width true]
 |.pair a b=>a.leaves++b.leaves
theorem Zm7{own:Bool}:∀{ls ls':List Leaf} {r r':List D},fits own ls r=true→fits own ls' r'=true→fits own (ls++ls') (r++r')=true
 |[],ls',[],r',_,h=>h
 |l::ls,ls',d::r,r',h,h'=>by
  simp only[fits,Bool.and_eq_true]at h;simp only[List.cons_append,fits,Bool.and_eq_true];exact⟨h.1,Zm7 h.2 h'⟩
 |[],_,_::_,_,h,_=>by cases h
 |_::_,_,[],_,h,_=>by cases h
theorem Zkc:∀(T:Ty) (x:T.den),fits false T.leaves (T.enc x)=true
 |.int k,x=>by simp[Ty.leaves,Ty.enc,fits,Leaf.fit]
 |.bool,x=>rfl
 |.str,x=>rfl
 |.sl e,x=>by simp[Ty.leaves,Ty.enc,fits,Leaf.fit]
 |.pair a b,x=>Zm7 (Zkc a x.1) (Zkc b x.2)
theorem Z0j(T:Ty)(xs:List T.den):isRow false T.leaves (xs.map T.enc)=true:=
 List.all_eq_true.2 (λr hr=>by obtain⟨x,_,rfl⟩:=List.mem_map.1 hr;exact Zkc T x)
end Go.Ev
