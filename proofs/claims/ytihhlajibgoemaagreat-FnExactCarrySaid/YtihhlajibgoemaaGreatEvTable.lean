/- A table of contracts, function by function. -/
import Derived.Test.YtihhlajibgoemaaGreatEvDraw
namespace Go.Ev
open Go.RowKit
set_option linter.unusedVariables false
set_option linter.unusedSimpArgs false
abbrev Contract:=List Row→Option (Bool×List Row×List Row)
def SoundAt(P:Program)(H:Hints)(f:FuncId)(g:Contract):Prop:=
 ∀ fn rows out back, P.funcs[f]? = some fn → g rows = some (true, out, back) → (fn.name == "runtime.NumGoroutine") = false ∧ fn.body.isNone = false ∧
  ∀(w:World) (S F:FP) (vs:List Value),(∀b,S b→b<w.heap.size)→(∀b,F b→b<w.heap.size∧¬S b)→
   argsRep P w S ((H.modes f fn.params.size).zip fn.params.toList) rows vs F→
   Calls P f vs.toArray w λe w'=>match e with
    |.returned v=>Leaves P w S F ((H.modes f fn.params.size).zip fn.params.toList) (H.muts f) fn.resultTypes.toList rows vs out back v w'
    |_=>False
theorem Zve{P:Program}{H:Hints}{call:CallF}:Sound P H call↔∀f,SoundAt P H f (call f):=
 ⟨λh f fn rows out back h1 h2=>h f fn rows out back h1 h2,λh f fn rows out back h1 h2=>h f fn rows out back h1 h2⟩
abbrev Table:=List (FuncId×Contract)
def Table.call(T:Table):CallF:=λf rows=>match T.find? (λx=>x.1==f)with|some x=>x.2 rows|none=>none
def Table.Sound(P:Program)(H:Hints)(T:Table):Prop:=∀x∈T,SoundAt P H x.1 x.2
theorem Table.sound{P:Program}{H:Hints}{T:Table}(h:T.Sound P H):Go.Ev.Sound P H T.call:=by
 rw[Zve];intro f fn rows out back h1 h2;unfold Table.call at h2;cases hf:T.find? (λx=>x.1==f)with
 |none=>rw[hf]at h2;cases h2
 |some x=>
  rw[hf]at h2;have hm:=List.mem_of_find?_eq_some hf;have he:=List.find?_some hf;have he':x.1=f:=by simpa using he
  have:=h x hm;rw[he']at this;exact this fn rows out back h1 h2
theorem Zj0 {P : Program} {H : Hints} {T : Table} (hT : T.Sound P H) (hm : P.follows .mixedOrders = true) {f : FuncId} {fn : Func} (hf : P.funcs[f]? = some fn) (hname : (fn.name == "runtime.NumGoroutine") = false) {g : Contract}
  (h:∀rows r,g rows=some (true,r)→∃n,evFn ⟨P,H,f⟩ T.call n fn rows=some r):SoundAt P H f g:=by
 intro fn' rows out back h1 h2;rw[hf]at h1;injection h1 with h1;subst h1;obtain⟨n,hn⟩:=h rows _ h2;obtain⟨a1,a2⟩:=Zux (X:=⟨P,H,f⟩) (call:=T.call) (Zko (X:=⟨P,H,f⟩) (Table.sound hT) hm) hf hn;exact⟨hname,a1,a2⟩
theorem Table.sound_nil{P:Program}{H:Hints}:Table.Sound P H []:=λx hx=>by cases hx
theorem Table.sound_cons{P:Program}{H:Hints}{T:Table}{f:FuncId}{g:Contract}(h:SoundAt P H f g)(hT:T.Sound P H):Table.Sound P H ((f,g)::T):=λx hx=>by
 rcases List.mem_cons.1 hx with rfl|hx
 ·exact h
 ·exact hT x hx
def bodyOf(fn:Func):Code:=fn.body.getD .skip
def codeAt:List Nat→Code→Code
 |[],c=>c
 |i::p,.seq a b=>match i with|0=>codeAt p a|_=>codeAt p b
 |_::p,.block _ b=>codeAt p b
 |_::p,.loop b=>codeAt p b
 |i::p,.cond _ a b=>match i with|0=>codeAt p a|_=>codeAt p b
 |_,c=>c
theorem Zby{V R:Type}{body:St→(Ex→St→Option R)→Option R}{m lv wr:Nat}{K:Ex→St→Option R}(S:V→St)(p:V→Prop)(μ:V→Nat)(r:V→Option R)
  (h:∀v,p v→∀f:St→Option R,(∀v',p v'→μ v'<μ v→f (S v')=r v')→body (S v) (kThen (λst=>f (st.head m lv wr)) K)=r v):
  ∀(k:Nat) (v:V),p v→μ v<k→loopRun body m lv wr k (S v) K=r v:=by
 intro k;induction k with
 |zero=>intro v _ hk;exact absurd hk (Nat.not_lt_zero _)
 |succ k ih=>
  intro v hp hk;unfold loopRun;exact h v hp (λst=>loopRun body m lv wr k st K) (λv' hp' hμ=>ih v' hp' (by omega))
def okT(P:Program):Nat→TypeId→List D→Prop
 |0,_,_=>False
 |n+1,t,row=>match P.underlying t with
  |some (.int k)=>∃x,row=[.int k x]∧(Lit.int k x).wf=true
  |some .bool=>∃b,row=[.bool b]
  |some .string=>∃s:ByteArray,row=[.str s]∧s.size≤9223372036854775807
  |some (.slice e)=>∃es:List (List D),row=[.sl false (P.cellsOf e) es]∧es.length≤9223372036854775807∧∀r∈es,okT P n e r
  |some (.struct fs)=>row.length=P.cellsOf t∧∀f∈fs.toList,okT P n f.type ((row.drop f.offset).take (P.cellsOf f.type))
  |_=>False
def coversT(P:Program):Nat→TypeId→Bool
 |0,_=>false
 |n+1,t=>match P.underlying t with
  |some (.int _)|some .bool|some .string=>true
  |some (.slice e)=>coversT P n e
  |some (.struct fs)=>fs.toList.all λf=>coversT P n f.type
  |_=>false
def partsFrom(P:Program):Nat→List Field→Option Nat
 |o,[]=>some o
 |o,f::fs=>if f.offset=o then partsFrom P (o+P.cellsOf f.type) fs else none
def tightT(P:Program):Nat→TypeId→Bool
 |0,_=>false
 |n+1,t=>match P.underlying t with
  |some (.int _)|some .bool|some .string=>true
  |some (.slice e)=>tightT P n e
  |some (.struct fs)=>partsFrom P 0 fs.toList==some (P.cellsOf t)&&fs.toList.all λf=>tightT P n f.type
  |_=>false
end Go.Ev
