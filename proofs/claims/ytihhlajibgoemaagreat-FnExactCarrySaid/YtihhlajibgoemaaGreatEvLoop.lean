/- A loop by the rounds that are left. -/
import Derived.WalkKit
namespace Go
theorem Znd{p:Nat→Prop}:∀{n:Nat},p n→∃m,p m∧∀k,k<m→¬p k:=by
 intro n;induction n using Nat.strongRecOn with
 |_ n ih=>
  intro h;by_cases hs:∃k,k<n∧p k
  ·obtain⟨k,hk,hp⟩:=hs;exact ih k hk hp
  ·exact⟨n,h,λk hk hp=>hs ⟨k,hk,hp⟩⟩
open Classical in
noncomputable def leastOr(p:Nat→Prop):Nat:=if h:∃n,p n then(Znd h.choose_spec).choose else 0
theorem Zhj{p:Nat→Prop}{n:Nat}(h:p n):p (leastOr p)∧∀k,k<leastOr p→¬p k:=by
 have he:∃n,p n:=⟨n,h⟩;unfold leastOr;rw[dif_pos he];exact(Znd he.choose_spec).choose_spec
theorem Zud{P:Program}{Q:Exit→Act→World→Prop}{c:Code}(I:Nat→Act→World→Prop)
  (round:∀n a w,I n a w→c.wp P (Exit.then (λa' w'=>∃m,m<n∧I m a' w') Q) a w) {n:Nat} {a:Act} {w:World} (h:I n a w):(Code.loop c).wp P Q a w:=by
 refine wp_loop (λa w=>∃n,I n a w) (λa w=>leastOr λn=>I n a w) ⟨n,h⟩ (λa w ⟨k,hk⟩=>?_);obtain⟨h1,_⟩:=Zhj (p:=λn=>I n a w) hk;refine wp_mono (round _ a w h1) (λe a' w' hq=>?_);cases e with
 |normal=>
  obtain⟨m,hm,hi⟩:=hq;refine⟨⟨m,hi⟩,?_⟩;have h2:=(Zhj (p:=λn=>I n a' w') hi).2;rcases Nat.lt_or_ge m (leastOr λn=>I n a' w')with h3|h3
  ·exact absurd hi (h2 m h3)
  ·exact Nat.lt_of_le_of_lt h3 hm
 |_=>exact hq
end Go
