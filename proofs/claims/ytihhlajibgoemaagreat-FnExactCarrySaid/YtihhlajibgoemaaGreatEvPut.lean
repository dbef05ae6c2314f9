/- A row of a root, some cells of which are written anew by somebody. -/
import Derived.Test.YtihhlajibgoemaaGreatEvEffAll
namespace Go.Ev
open Go.RowKit
set_option linter.unusedVariables false
set_option linter.unusedSimpArgs false
def putRoot(x:Root)(q:Path)(i j n:Nat)(ds:List D)(pin:List Nat):Root:=
 {(x.wrote q j ds pin)with es:=modAt (λrows=>rows.set i (newRow rows i j n ds)) x.es q }
theorem Zle{w:World}{S:FP}{n0:Nat}{es0:List (List D)}{B0 off0 len0 cap0:Nat}{q:Path}{d':D}{v':Value}{R:FP}
  (hh:HeadAt w (.sl true n0 es0) (.slice (some ⟨B0,off0,none⟩) len0 cap0) q d' v') (hq:q≠[]) (hv:v'.oneCell'=true)
  (back:∀{w':World} {S':FP} {d2:D} {G':FP},(∀b,S b→S' b∧w'.heap[b]?=w.heap[b]?)→(∀b,R b→w'.heap[b]?=w.heap[b]?)→repD w' S' d2 v' G'→(∀b,G' b→¬R b)→
    repD w' S' (putD (.sl true n0 es0) q d2) (.slice (some ⟨B0,off0,none⟩) len0 cap0) (λb=>G' b∨R b)∧HeadAt w' (putD (.sl true n0 es0) q d2) (.slice (some ⟨B0,off0,none⟩) len0 cap0) q d2 v'):R B0:=by
 obtain⟨h,_⟩:=back (w':=w) (S':=S) (d2:=.dead) (G':=λ_=>False) (λb hb=>⟨hb,rfl⟩) (λb hb=>rfl) ⟨hv,λ_ h=>h⟩ (λb hb=>hb.elim);rw[Zjk hh hq rfl]at h;obtain⟨F',_,_,_,_,hF,_⟩:=Zbm h;exact((hF B0).2 (.inl rfl)).resolve_left (λh=>h)
theorem Zvb{w:World}{S F:FP}{x:Root}{hd:Value}{q:Path}{n i j m:Nat}{es:List (List D)}{B off cap:Nat}(hrep:repD w S (rootD x) hd F)
  (hh:HeadAt w (rootD x) hd q (.sl true n es) (.slice (some ⟨B,off,none⟩) es.length cap)) (hi:i<es.length) (hj:j+m≤n) (hSF:∀b,F b→¬S b) (hz:x.frz=false) {pin:List Nat} (hfree:x.free q (i*n+j) m pin=true):
  ∃Go Ro:FP,repRow w S (((es.getD i []).drop j).take m) B (off+i*n+j) Go∧ownBlk w B (off+i*n+j+m)∧¬Go B∧¬Ro B∧(∀b,F b↔b=B∨Go b∨Ro b)∧(∀b,Go b→¬Ro b)∧(((es.getD i []).drop j).take m).length=m∧
   ∀{w':World} {ds:List D} {G:FP},ds.length=m→(∀b,S b→w'.heap[b]?=w.heap[b]?)→(∀b,Ro b→w'.heap[b]?=w.heap[b]?)→Within w w' (.slice (some ⟨B,off+i*n+j,none⟩) 1 1) m pin→(∀k,k<m→k∈pin→ds.getD k .dead=((es.getD i []).getD (j+k) .dead))→
    repRow w' S ds B (off+i*n+j) G→(∀b,G b→b≠B∧¬Ro b)→
    repD w' S (rootD (putRoot x q i j n ds pin)) hd (λb=>b=B∨G b∨Ro b)∧(putRoot x q i j n ds pin).es.length=x.es.length∧
    ((ds.all D.noSl=true→∀b,F b→b≠B→w'.heap[b]?=w.heap[b]?)→Keeps w w' x (putRoot x q i j n ds pin) hd hd)∧
    Within w w' hd (x.es.length*x.sz) x.pin:=by
 obtain⟨G0,R0,hG0,hF0,hd0,back0⟩:=Zc7 hh hrep;obtain⟨F',_,hcap,hrows,hnB,hGB,⟨cs,t,hblk,hsize⟩,hc63⟩:=Zbm hG0;obtain⟨Gr,Rr,hrl,hrow,hFr,hdr,back1⟩:=Zb9 i hrows hi;obtain⟨Go,Ro,hold,hFo,hdo,back2⟩:=Zfl (j:=j) (n:=m) hrow (by omega)
 have hmul:i*n+n≤es.length*n:=by
  have:=Nat.mul_le_mul_right n (show i+1≤es.length from hi);rw[Nat.add_mul]at this;omega
 have hmul2:es.length*n≤cap*n:=Nat.mul_le_mul_right n hcap;have hRB:∀b,(Ro b∨Rr b∨R0 b)→b≠B:=by
  rintro b (hb|hb|hb) rfl
  ·exact hnB ((hFr _).2 (.inl ((hFo _).2 (.inr hb))))
  ·exact hnB ((hFr _).2 (.inr hb))
  ·exact hd0 _ ((hGB _).2 (.inl rfl)) hb
 refine⟨Go,λb=>Ro b∨Rr b∨R0 b,hold,⟨cs,t,hblk,by omega⟩,λhb=>hnB ((hFr B).2 (.inl ((hFo B).2 (.inl hb)))),λhb=>hRB B hb rfl,λb=>?_,λb hb hb'=>?_,by rw[List.length_take,List.length_drop,hrl];omega,?_⟩
 ·rw[hF0 b,hGB b,hFr b,hFo b];constructor
  ·rintro((h|(h|h)|h)|h)<;>simp[h]
  ·rintro(h|h|h|h|h)<;>simp[h]
 ·rcases hb' with hb' |hb' |hb'
  ·exact hdo b hb hb'
  ·exact hdr b ((hFo b).2 (.inl hb)) hb'
  ·exact hd0 b ((hGB b).2 (.inr ((hFr b).2 (.inl ((hFo b).2 (.inl hb)))))) hb'
 ·intro w' ds G hlen hS0 hR hW hpk hnew hG;obtain⟨w1,w2,w3,w4,w5,w6,w7⟩:=Zhd x q j ds pin;have hS:∀b,S b→S b∧w'.heap[b]?=w.heap[b]?:=λb hb=>⟨hb,hS0 b hb⟩;obtain⟨cs',hc4,hc5,hc6⟩:=hW B _ 1 1 rfl cs t _ hblk;have hc2:∀k,¬(off+i*n+j≤k∧k<off+i*n+j+m)→w'.cell? ⟨B,k,none⟩=w.cell? ⟨B,k,none⟩:=by
   intro k hk;unfold World.cell?;simp only[hc4,hblk];exact hc6 k (λh=>hk ⟨h.1,h.2.1⟩)
  have hcp:∀k,k<m→k∈pin→w'.cell? ⟨B,off+i*n+j+k,none⟩=w.cell? ⟨B,off+i*n+j+k,none⟩:=by
   intro k _ hk;unfold World.cell?;simp only[hc4,hblk];exact hc6 _ (λh=>h.2.2 (by rw[show off+i*n+j+k-(off+i*n+j)=k by omega];exact hk))
  have e0:rootD (putRoot x q i j n ds pin)=.sl true x.sz (modAt (λrows=>rows.set i (newRow rows i j n ds)) x.es q):=by
   show D.sl true (x.wrote q j ds pin).sz (modAt (λrows=>rows.set i (newRow rows i j n ds)) x.es q)=_;rw[w2]
  have hrow':=back2 (w':=w') (S':=S) (ds:=ds) (G':=G) hlen hS (λb hb=>hR b (.inl hb)) (λk hk hnk=>hc2 _ (λh=>hnk ⟨by omega,by omega⟩)) hnew (λb hb hb'=>(hG b hb).2 (.inl hb'))
  have hrows':=back1 (w':=w') (S':=S) hS (λb hb=>hR b (.inr (.inl hb))) (λk hk hnk=>hc2 _ (λh=>hnk ⟨by omega,by omega⟩)) (by rw[Zck _ _ _ (by omega),hrl]) hrow'
   (λb hb hb'=>by
    rcases hb with hb|hb
    ·exact(hG b hb).2 (.inr (.inl hb'))
    ·exact hdr b ((hFo b).2 (.inr hb)) hb')
  have hnr:newRow es i j n ds=splice (es.getD i []) j ds:=Zc1 hrl;rw[←hnr]at hrows';have hrepN:repD w' S (.sl true n (es.set i (newRow es i j n ds))) (.slice (some ⟨B,off,none⟩) es.length cap) (λb=>b=B∨((G b∨Ro b)∨Rr b)):=by
   refine⟨some ⟨B,off,none⟩,cap,by rw[List.length_set],by rw[List.length_set];exact hcap,.inr ⟨B,off,_,rfl,hrows',.inl ⟨rfl,?_,λb=>Iff.rfl,⟨cs',t,hc4,by omega⟩,hc63⟩⟩⟩
   rintro((hb|hb)|hb)
   ·exact(hG B hb).1 rfl
   ·exact hRB B (.inl hb) rfl
   ·exact hRB B (.inr (.inl hb)) rfl
  obtain⟨hrepR,_⟩:=back0 (w':=w') hS (λb hb=>hR b (.inr (.inr hb))) hrepN (λb hb hb'=>by
   rcases hb with rfl|((hb|hb)|hb)
   ·exact hd0 _ ((hGB _).2 (.inl rfl)) hb'
   ·exact(hG b hb).2 (.inr (.inr hb'))
   ·exact hd0 b ((hGB b).2 (.inr ((hFr b).2 (.inl ((hFo b).2 (.inr hb)))))) hb'
   ·exact hd0 b ((hGB b).2 (.inr ((hFr b).2 (.inr hb)))) hb')
  have hput:=Zll hh (λrows=>rows.set i (newRow rows i j n ds)) rfl (rfl:rootD x=.sl true x.sz x.es);rw[hput]at hrepR;have hmodl:(modAt (λrows=>rows.set i (newRow rows i j n ds)) x.es q).length=x.es.length:=Zen _ (λxs=>List.length_set ..) _ _;rw[e0];refine⟨Zhb hrepR (λb=>?_),hmodl,λhsame=>?_,?_⟩
  ·constructor
   ·rintro((h|(h|h)|h)|h)<;>simp[h]
   ·rintro(h|h|h|h|h)<;>simp[h]
  ·intro hb;refine⟨⟨w4.trans hb,w7.2⟩,λga gh q' hg ho hp=>?_,KeepF.no hz⟩;change pathOk (modAt (λrows=>rows.set i (newRow rows i j n ds)) x.es q) q'=true at hp;rw[e0];cases hall:ds.all D.noSl with
   |true=>
    have ho':okView x ga gh q'=true:=by
     unfold okView headOk putRoot Root.wrote at ho;rw[hall]at ho;exact ho
    obtain⟨k1,k2⟩:=Zhi (w:=w) (w':=w') (S:=S) (n1:=n) (j0:=j) hall hi (by omega) (λk' hk'=>hc2 k' (by rw[←hlen];exact hk')) hh rfl rfl (rfl:rootD x=_) hrep (hsame hall) hp
    exact⟨ho',k1,λsz es2 u hh2=>k2 hh2⟩
   |false=>
    obtain⟨ho',hq⟩:=Zj6 hg ho hall;refine⟨ho',?_⟩;rcases hq with rfl|⟨i',j',rfl,hcol⟩
    ·refine⟨rfl,λsz es2 u hh2=>?_⟩;obtain⟨a1,a2⟩:=Za0 hh2;injection a1 with _ a3 a4;subst a3 a4 a2;exact⟨_,hmodl,.nil _ _⟩
    ·obtain⟨k1,k2⟩:=Zji (w:=w) (w':=w') (S:=S) (ds:=ds) (n:=x.sz) (es:=x.es) hi (by omega) (λk' hk'=>hc2 k' (by rw[←hlen];exact hk')) hh hrep (λhq B' off' len' cap' he=>by
      have hh':=hh;unfold rootD at hh' back0;rw[he]at hh' back0;exact hR B' (.inr (.inr (Zle hh' hq rfl back0)))) (λhq hii h1 h2 hown=>by
       subst hii;have hes:x.es=es:=by
        subst hq;obtain⟨a1,_⟩:=Za0 hh;unfold rootD at a1;injection a1 with _ _ a4;exact a4.symm
       rcases hcol hq h1 h2 with h3|h3
       ·exfalso;cases hc:ds.getD (j'-j) .dead<;>rw[hc]at h3 hown<;>first|(cases hown;done)|cases h3
       ·have h3:j'-j∈pin:=by simpa using h3
        have hk1:=hpk (j'-j) (by omega) h3
        have hk2:=hcp (j'-j) (by omega) h3
        rw[show j+(j'-j)=j' by omega]at hk1
        rw[show off+i'*n+j+(j'-j)=off+i'*n+j' by omega]at hk2
        exact⟨by rw[hes];exact hk1,hk2⟩) hp
     exact⟨k1,λsz es2 u hh2=>k2 hh2⟩
  ·intro B' off' len' cap' he cs0 t0 f0 hc0;cases q with
   |nil=>
    obtain⟨a1,a2⟩:=Za0 hh;rw[he]at a2;injection a2 with a2;injection a2 with a2;injection a2 with a4 a5;injection a1 with _ a6 a7;subst a4;rw[hblk]at hc0;injection hc0 with hc0;injection hc0 with g1 g2 g3;subst g1 g2 g3;refine⟨cs',hc4,hc5,λy hy=>hc6 y (λhin=>hy ?_)⟩;rw[←a7,←a6,←a5];refine⟨by omega,by omega,λhp=>?_⟩
    rcases Zna hfree rfl hp with h1|h1|h1
    ·omega
    ·omega
    ·exact hin.2.2 (by rw[show y-(off+i*n+j)=y-off-(i*n+j) by omega];exact h1)
   |cons y q=>
    have hh':=hh;unfold rootD at hh' back0;rw[he]at hh' back0;have hRB':=Zle hh' (by simp) rfl back0
    exact⟨cs0,(hR B' (.inr (.inr hRB'))).trans hc0,rfl,λ_ _=>rfl⟩
end Go.Ev
