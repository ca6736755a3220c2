/-
  A statement whose order is open: effects in every order that may be, what is only read as early as may be, with a look whether it stays.
-/
import Derived.Test.YtjoepfedeidgaaaGreatV1
import Derived.KernelRfl
import Derived.SizedLaws
import Derived.Test.YtjoepfedeidgaaaGreatProg
import Derived.Lib.Bytealg
import Derived.Laws.Externs
import Derived.DeepKeys4
set_option linter.all false
set_option linter.unusedSectionVars false
set_option maxHeartbeats 8000000
set_option maxRecDepth 20000
namespace Go.Vab
open Go
theorem F4s {P:Program} {C:Ctx} {V V':Operand→AV} {h:A3} (op:Op) (hV:∀ x∈op.operands.toList,V x=V' x):opW P C V h op=opW P C V' h op:=by
 cases op with
 | call c =>
  have hargs:c.args.toList.map V=c.args.toList.map V':=List.map_congr_left fun x hx=>hV x (by simp only [Op.operands,Call.operands];split <;> simp <;> simp at hx <;> simp [hx])
  simp only [opW,hargs]
  cases hc:c.callee with
  | value f =>
   have:V f=V' f:=hV f (by simp [Op.operands,Call.operands,hc])
   simp only [this]
  | builtin b=>rfl
  | _ => rfl
 | makeMap t r =>
  cases r with
  | none=>rfl
  | some r=>simp only [opW];rw [A4e _ hV]
 | lookup t m k ok =>
  cases ok with
  | true=>simp only [opW];rw [A4e _ hV]
  | false=>simp only [opW];rw [hV m (by simp [Op.operands]),hV k (by simp [Op.operands])]
 | mapUpdate t m k x=>simp only [opW];rw [hV m (by simp [Op.operands]),hV k (by simp [Op.operands]),hV x (by simp [Op.operands])]
 | convert f t x=>simp only [opW];rw [hV x (by simp [Op.operands]),A4e _ hV]
 | _ => simp only [opW];rw [A4e _ hV]
theorem A4g {P:Program} {C:Ctx} {ops:List Oper} {o:Oper} {σ τ:Nat→AV} {h:A3} (hr:∀ t∈V6 ops o,σ t=τ t):O2 P C ops o σ h=O2 P C ops o τ h:=by
 have hop:opW P C (U0 σ) h o.op=opW P C (U0 τ) h o.op:=F4s _ fun x hx=>F4K fun t ht=>hr t (by
  unfold V6
  refine List.mem_append_left _ (List.mem_filterMap.2 ⟨x,hx,?_⟩)
  rw [ht])
 unfold O2
 rw [hop]
 cases hg:o.guard with
 | none=>rfl
 | some p =>
  obtain ⟨j,want⟩:=p
  simp only
  cases hd:w7 ops j with
  | none=>rfl
  | some d =>
   simp only
   rw [hr d (by unfold V6;rw [hg];simp [hd])]
def V9 (P:Program) (C:Ctx) (ops:List Oper) (o:Oper) (σ:Nat→AV) (h:A3) (v:AV):Prop:=O2 P C ops o σ h fun r=>r=(v,h)
theorem F4t {P:Program} {C:Ctx} {ops:List Oper} {o:Oper} {σ:Nat→AV} {h:A3} {v:AV} (hk:Y3 false o.op=.pure) (hv:V9 P C ops o σ h v) (g:A3):V9 P C ops o σ g v:=by
 have key:∀ V:Operand→AV,opW P C V h o.op (fun r=>r=(v,h))→opW P C V g o.op fun r=>r=(v,g):=by
  intro V hV
  have plain:Evs (E6 C false V h o.op) (fun r=>r=(v,h))→Evs (E6 C false V g o.op) fun r=>r=(v,g):=by
   rintro ⟨r,h1,rfl⟩
   exact ⟨(v,g),(F4f (C:=C) (q:=false) (V:=V) o.op hk h v h h1).2 g,rfl⟩
  cases hop:o.op with
  | call c =>
   rw [hop] at hV hk plain
   simp only [opW] at hV ⊢
   simp only [Y3] at hk
   cases hc:c.callee with
   | value f=>rw [hc] at hk;simp at hk
   | builtin b =>
    simp only [hc] at hV hk ⊢
    simp only [E6,hc] at plain
    cases b <;> simp at hk <;> exact plain hV
   | _ => rw [hc] at hk;simp at hk
  | makeMap t r=>rw [hop] at hk;simp [Y3] at hk
  | lookup t m k ok=>rw [hop] at hk;simp [Y3] at hk
  | mapUpdate t m k x=>rw [hop] at hk;simp [Y3] at hk
  | convert f t x=>rw [hop] at hk;simp [Y3] at hk
  | _ => rw [hop] at hV plain;exact plain hV
 unfold V9 O2 at hv ⊢
 cases hg:o.guard with
 | none=>rw [hg] at hv;exact key _ hv
 | some p =>
  obtain ⟨j,want⟩:=p
  rw [hg] at hv
  simp only at hv ⊢
  cases hd:w7 ops j with
  | none=>rw [hd] at hv;exact hv.elim
  | some d =>
   rw [hd] at hv
   simp only at hv ⊢
   cases hσ:σ d with
   | bool b =>
    rw [hσ] at hv
    simp only [gW] at hv ⊢
    split at hv
    ·rename_i hb;rw [if_pos hb];exact key _ hv
    ·rename_i hb;rw [if_neg hb];cases hv;rfl
   | undef=>rw [hσ] at hv;simp only [gW] at hv ⊢;cases hv;rfl
   | _ => rw [hσ] at hv;simp [gW] at hv
def Q4 (loc:Env) (d:Option Nat) (v:AV):Env:=match d with
 | some d=>(d,v)::loc
 | none=>loc
theorem A1p (loc env:Env) (d:Option Nat) (v:AV) (t:Nat):F6 (Q4 loc d v) env t=A0A (F6 loc env) d v t:=by
 cases d with
 | none=>rfl
 | some d=>simp only [Q4,B6b,A0A,A2s]
def opI (ops:List Oper) (i:Nat):Oper:=match ops[i]? with|some o=>o|none=>default
def j7 (C:Ctx) (o:Oper):Prop:=match o.dst with|some d=>d < C.ntmps|none=>True
section
variable (P:Program) (C:Ctx) (ops:List Oper) (env:Env)
def u9 (h:A3) (k:Env→Prop):List Nat→Env→Prop
 | [],loc=>k loc
 | p::ps,loc=>∃ v,V9 P C ops (opI ops p) (F6 loc env) h v∧j7 C (opI ops p)∧u9 h k ps (Q4 loc (opI ops p).dst v)
def A1U (h:A3) (loc:Env):List Nat→Prop
 | []=>True
 | p::ps=>(∃ v,V9 P C ops (opI ops p) (F6 loc env) h v∧∀ d,(opI ops p).dst=some d→F6 loc env d=v)∧A1U h loc ps
def O0 (n:Nat) (eff:List Nat) (bs:List Nat) (S:List Nat):List Nat:=(List.range n).filter fun p => !eff.contains p&&eff.all fun e => !bef bs p e||S.contains e
def S4 (eff:List Nat) (bs:List Nat) (S:List Nat):List Nat:=eff.filter fun e => !S.contains e&&eff.all fun e' => !bef bs e e'||S.contains e'
def A0C (n:Nat) (eff:List Nat) (bs:List Nat) (S:List Nat) (e:Nat):List Nat:=(O0 n eff bs (e::S)).filter fun p => !(O0 n eff bs S).contains p
def A2j (n:Nat) (eff:List Nat) (bs:List Nat) (S:List Nat) (e:Nat):List Nat:=(O0 n eff bs S).filter fun p => !bef bs e p && !decide (Y3 false (opI ops p).op=.pure)
def A00 {α:Type} (f:α→Prop):List α→Prop
 | []=>True
 | [a]=>f a
 | a::b::l=>f a∧A00 f (b::l)
def A4T (eff:List Nat) (bs:List Nat) (T:List Nat→Env→A3→Prop) (S:List Nat) (loc:Env) (h:A3) (e:Nat):Prop :=
 O2 P C ops (opI ops e) (F6 loc env) h fun r=>j7 C (opI ops e)∧A1U P C ops env r.2 (Q4 loc (opI ops e).dst r.1) (A2j ops ops.length eff bs S e) ∧
  u9 P C ops env r.2 (fun loc'=>T (e::S) loc' r.2) (A0C ops.length eff bs S e) (Q4 loc (opI ops e).dst r.1)
def S5 (eff:List Nat) (bs:List Nat) (k:Env→A3→Prop):Nat→List Nat→Env→A3→Prop
 | 0,S,loc,h=>S4 eff bs S=[]∧k (commit C.vol loc env) h
 | n+1,S,loc,h=>match S4 eff bs S with
  | []=>k (commit C.vol loc env) h
  | l=>A00 (A4T P C ops env eff bs (S5 eff bs k n) S loc h) l
end
theorem D8l {α:Type} (f:α→Prop):∀ l:List α,A00 f l↔∀ a∈l,f a
 | []=>by simp [A00]
 | [a]=>by simp [A00]
 | a::b::l=>by simp only [A00,D8l f (b::l)];simp
structure TreeFacts (ops:List Oper) (eff:List Nat) (bs:Nat→Nat→Prop):Prop where
 lt:∀ i o,ops[i]?=some o→∀ e∈o.after.toList,Region.binds .any e=true→e.on < i
 up:∀ i o,ops[i]?=some o→∀ p,bs i p→p < i∧∃ e∈o.after.toList,Region.binds .any e=true∧(e.on=p∨bs e.on p)
 tr:∀ i j k,i < ops.length→bs i j→bs j k→bs i k
 rd:∀ i j,i < ops.length→j < ops.length→i∉eff→∀ d,(opI ops i).dst=some d→d∈V6 ops (opI ops j)→bs j i
 re:∀ i j,i < ops.length→j < ops.length→i≠j→∀ d,(opI ops i).dst=some d→d∈V6 ops (opI ops j)→bs j i∨bs i j
 dd:∀ i j,i < ops.length→j < ops.length→∀ d,(opI ops i).dst=some d→(opI ops j).dst=some d→i=j
 ef:∀ e∈eff,e < ops.length
section
variable {P:Program} {C:Ctx} {ops:List Oper} {env:Env}
theorem A1K {σ:Nat→AV} {d:Option Nat} {v:AV} {t:Nat} (h:d≠some t):A0A σ d v t=σ t:=by
 cases d with
 | none=>rfl
 | some d=>simp only [A0A,A2s];rw [if_neg];rintro rfl;exact h rfl
theorem A5V {σ:Nat→AV} {d:Nat} {v:AV}:A0A σ (some d) v d=v:=by simp [A0A,A2s]
theorem B6Y {h : A3} {k : Env → Prop} : ∀ (l : List Nat) (loc : Env), l.Pairwise (· < ·) →
  (∀ p∈l,∀ q∈l,p≤q→∀ d,(opI ops q).dst=some d→d∉V6 ops (opI ops p))→(∀ p∈l,∀ q∈l,p < q→∀ d,(opI ops q).dst=some d→(opI ops p).dst≠some d) →
  u9 P C ops env h k l loc→∃ loc',k loc'∧(∀ t,(∀ p∈l,(opI ops p).dst≠some t)→F6 loc' env t=F6 loc env t) ∧
   ∀ p∈l,j7 C (opI ops p)∧∃ v,V9 P C ops (opI ops p) (F6 loc' env) h v∧∀ d,(opI ops p).dst=some d→F6 loc' env d=v
 | [],loc,_,_,_,hr=>⟨loc,hr,fun _ _ => rfl,fun p hp=>by cases hp⟩
 | p::ps,loc,hs,hd,hq,hr=>by
  obtain ⟨v,hv,hlt,hr⟩:=hr
  rw [List.pairwise_cons] at hs
  have mem:=fun q (h:q∈ps)=>List.mem_cons_of_mem p h
  have self:=List.mem_cons_self (a:=p) (l:=ps)
  obtain ⟨loc',h1,h2,h3⟩:=B6Y ps _ hs.2 (fun a ha b hb=>hd a (mem a ha) b (mem b hb)) (fun a ha b hb=>hq a (mem a ha) b (mem b hb)) hr
  refine ⟨loc',h1,fun t ht=>?_,fun q hmq=>?_⟩
  ·rw [h2 t fun q hq=>ht q (mem q hq),A1p,A1K (ht p self)]
  ·rcases List.mem_cons.1 hmq with rfl|hmq
   ·refine ⟨hlt,v,?_,fun d hdq=>?_⟩
    ·unfold V9 at hv ⊢
     rw [A4g (τ:=F6 loc env)]
     ·exact hv
     ·intro t ht
      rw [h2 t fun b hb hbd=>hd q self b (mem b hb) (Nat.le_of_lt (hs.1 b hb)) t hbd ht,A1p,A1K]
      exact fun hbd=>hd q self q self (Nat.le_refl _) t hbd ht
    ·rw [h2 d fun b hb hbd=>hq q self b (mem b hb) (hs.1 b hb) d hbd hdq,A1p,hdq,A5V]
   ·exact h3 q hmq
theorem D7w {h:A3} {loc:Env}:∀ {l:List Nat},A1U P C ops env h loc l→∀ p∈l,∃ v,V9 P C ops (opI ops p) (F6 loc env) h v∧∀ d,(opI ops p).dst=some d→F6 loc env d=v
 | p::ps,hs,q,hq=>by
  rcases List.mem_cons.1 hq with rfl|hq
  ·exact hs.1
  ·exact D7w hs.2 q hq
theorem enabled_mem {n:Nat} {eff bs S:List Nat} {p:Nat}:p∈O0 n eff bs S↔p < n∧p∉eff∧∀ e∈eff,bef bs p e=true→e∈S:=by
 unfold O0
 simp only [List.mem_filter,List.mem_range,Bool.and_eq_true,Bool.not_eq_true',List.all_eq_true,Bool.or_eq_true,List.contains_eq_mem,decide_eq_true_eq,decide_eq_false_iff_not]
 constructor
 ·rintro ⟨h1,h2,h3⟩
  exact ⟨h1,h2,fun e he hb=>by
   rcases h3 e he with h|h
   ·rw [hb] at h;cases h
   ·exact h⟩
 ·rintro ⟨h1,h2,h3⟩
  exact ⟨h1,h2,fun e he=>by
   cases hb:bef bs p e
   ·exact .inl rfl
   ·exact .inr (h3 e he hb)⟩
theorem nextE_mem {eff bs S:List Nat} {e:Nat}:e∈S4 eff bs S↔e∈eff∧e∉S∧∀ e'∈eff,bef bs e e'=true→e'∈S:=by
 unfold S4
 simp only [List.mem_filter,Bool.and_eq_true,Bool.not_eq_true',List.all_eq_true,Bool.or_eq_true,List.contains_eq_mem,decide_eq_true_eq,decide_eq_false_iff_not]
 constructor
 ·rintro ⟨h1,h2,h3⟩
  exact ⟨h1,h2,fun e' he hb=>by
   rcases h3 e' he with h|h
   ·rw [hb] at h;cases h
   ·exact h⟩
 ·rintro ⟨h1,h2,h3⟩
  exact ⟨h1,h2,fun e' he=>by
   cases hb:bef bs e e'
   ·exact .inl rfl
   ·exact .inr (h3 e' he hb)⟩
theorem newE_mem {n:Nat} {eff bs S:List Nat} {e p:Nat}:p∈A0C n eff bs S e↔p∈O0 n eff bs (e::S)∧p∉O0 n eff bs S:=by
 unfold A0C
 simp only [List.mem_filter,Bool.not_eq_true',List.contains_eq_mem,decide_eq_false_iff_not]
theorem stabE_mem {n:Nat} {eff bs S:List Nat} {e p:Nat}:p∈A2j ops n eff bs S e↔p∈O0 n eff bs S∧bef bs e p=false∧Y3 false (opI ops p).op≠.pure:=by
 unfold A2j
 simp only [List.mem_filter,Bool.and_eq_true,Bool.not_eq_true',decide_eq_false_iff_not,ne_eq]
theorem D61 (n:Nat) (f:Nat→Bool):((List.range n).filter f).Pairwise (· < ·):=List.pairwise_lt_range.filter _
theorem F72 {ops:Array Oper} {i:Nat} {o:Oper} (h:ops[i]?=some o):opI ops.toList i=o:=by
 unfold opI
 rw [Array.getElem?_toList,h]
theorem F6B {ops : Array Oper} {eff bs : List Nat} (F : TreeFacts ops.toList eff (fun i p => bef bs i p = true)) {k : Env → A3 → Prop} (hv : Y1 C.vol env) : ∀ (fuel : Nat) (listed : Array Bool) (σ : Nat → AV) (h : A3) (S : List Nat) (loc : Env) (m : Nat),
  listed.size=ops.size→(V7 ops.size listed).length≤fuel →
  (∀ e,e∈S↔e∈eff∧listed.getD e false=true)→S5 P C ops.toList env eff bs k m S loc h →
  (∀ t,(∃ p,p∈O0 ops.size eff bs S∧listed.getD p false=false∧(opI ops.toList p).dst=some t)∨σ t=F6 loc env t) →
  (∀ p,p∈O0 ops.size eff bs S→listed.getD p false=false→j7 C (opI ops.toList p)∧∃ v,V9 P C ops.toList (opI ops.toList p) (F6 loc env) h v∧∀ d,(opI ops.toList p).dst=some d→F6 loc env d=v) →
  (∀ i,listed.getD i false=true→i∈eff∨i∈O0 ops.size eff bs S) →
  (∀ i,listed.getD i false=true→∀ p,bef bs i p=true→listed.getD p false=true) →
  A0z P C ops (D6E C k) fuel listed σ h:=by
 have fin : ∀ (listed : Array Bool) (σ : Nat → AV) (h : A3) (S : List Nat) (loc : Env) (m : Nat), listed.size = ops.size → i8 ops listed = [] →
   (∀ e,e∈S↔e∈eff∧listed.getD e false=true)→S5 P C ops.toList env eff bs k m S loc h →
   (∀ t,(∃ p,p∈O0 ops.size eff bs S∧listed.getD p false=false∧(opI ops.toList p).dst=some t)∨σ t=F6 loc env t)→D6E C k σ h:=by
  intro listed σ h S loc m hs hr hS htree hσ
  have all:∀ i,i < ops.size→listed.getD i false=true:=by
   intro i
   induction i using Nat.strongRecOn with
   | _ i ih =>
    intro hi
    cases hc:listed.getD i false with
    | true=>rfl
    | false =>
     exfalso
     have:i∈i8 ops listed:=readyF_mem.2 ⟨hi,by
      have h2:i < listed.size:=by omega
      simpa [Array.getD,h2] using hc,ops[i],Array.getElem?_eq_getElem hi,fun e he hb=>by
      have:=F.lt i ops[i] (by rw [Array.getElem?_toList];exact Array.getElem?_eq_getElem hi) e he hb
      exact ih e.on this (by omega)⟩
     rw [hr] at this;cases this
  have hn:S4 eff bs S=[]:=by
   rw [List.eq_nil_iff_forall_not_mem]
   intro e he
   obtain ⟨h1,h2,_⟩:=nextE_mem.1 he
   exact h2 ((hS e).2 ⟨h1,all e (by simpa using F.ef e h1)⟩)
  have hk:k (commit C.vol loc env) h:=by
   cases m with
   | zero=>exact htree.2
   | succ m=>simp only [S5,hn] at htree;exact htree
  refine ⟨_,hk,fun t ht=>?_,fun t ht=>?_⟩
  ·rw [A1k,if_pos ht];exact hv t ht
  ·rw [A1k,if_neg (by simp only [ht];simp)]
   rcases hσ t with ⟨p,h1,h2,_⟩|h1
   ·have:=all p (enabled_mem.1 h1).1
    rw [this] at h2;cases h2
   ·exact h1
 have noleft:∀ (listed:Array Bool),listed.size=ops.size→V7 ops.size listed=[]→i8 ops listed=[]:=by
  intro listed hs hl
  rw [List.eq_nil_iff_forall_not_mem]
  intro i hi
  obtain ⟨h1,h2,_⟩:=readyF_mem.1 hi
  have:i∈V7 ops.size listed:=(D7r hs).2 ⟨h1,by
   have h3:i < listed.size:=by omega
   simpa [Array.getD,h3] using h2⟩
  rw [hl] at this;cases this
 intro fuel
 induction fuel with
 | zero =>
  intro listed σ h S loc m hs hl hS htree hσ hval hin hcl
  have hr:=noleft listed hs (List.length_eq_zero_iff.1 (Nat.le_zero.1 hl))
  exact ⟨hr,fin listed σ h S loc m hs hr hS htree hσ⟩
 | succ fuel ih =>
  intro listed σ h S loc m hs hl hS htree hσ hval hin hcl
  refine ⟨fun hr=>fin listed σ h S loc m hs hr hS htree hσ,fun i hi o ho=>?_⟩
  obtain ⟨h1,h2,o',ho',hafter⟩:=readyF_mem.1 hi
  rw [ho] at ho';cases ho'
  have hoI:=F72 ho
  have hilt:i < listed.size:=by omega
  have hil:i < ops.toList.length:=by simpa using h1
  have h2':listed.getD i false=false:=by simpa [Array.getD,hilt] using h2
  have hbs:∀ p,bef bs i p=true→listed.getD p false=true:=by
   intro p hp
   obtain ⟨_,e,he,hb,hor⟩:=F.up i o (by rw [Array.getElem?_toList];exact ho) p hp
   have hle:=hafter e he hb
   rcases hor with rfl|hor
   ·exact hle
   ·exact hcl e.on hle p hor
  have hcl':∀ j,(listed.setIfInBounds i true).getD j false=true→∀ p,bef bs j p=true→(listed.setIfInBounds i true).getD p false=true:=by
   intro j hj p hp
   rw [n0 hilt] at hj ⊢
   split
   ·rfl
   ·split at hj
    ·rename_i e;subst e;exact hbs p hp
    ·exact hcl j hj p hp
  have hleft:(V7 ops.size (listed.setIfInBounds i true)).length≤fuel:=by
   have hmem:i∈V7 ops.size listed:=(D7r hs).2 ⟨h1,h2'⟩
   obtain ⟨pre,post,hsplit⟩:=List.append_of_mem hmem
   rw [F4g hs h1 hsplit]
   rw [hsplit] at hl
   simp at hl ⊢;omega
  -- what it V6 is what the run in the text's order has
  have hread:∀ t∈V6 ops.toList o,σ t=F6 loc env t:=by
   intro t ht
   rcases hσ t with ⟨p,g1,g2,g3⟩|g1
   ·exfalso
    obtain ⟨e1,e2,e3⟩:=enabled_mem.1 g1
    have:=F.rd p i (by simpa using e1) hil e2 t g3 (by rw [hoI];exact ht)
    rw [hbs p this] at g2;cases g2
   ·exact g1
  rw [A4g hread]
  by_cases hie:i∈eff
  ·have hiS : i ∉ S := fun hx => by
    have:=((hS i).1 hx).2
    rw [h2'] at this;cases this
   have hnx:i∈S4 eff bs S:=nextE_mem.2 ⟨hie,hiS,fun e' he' hb=>(hS e').2 ⟨he',hbs e' hb⟩⟩
   cases m with
   | zero=>rw [htree.1] at hnx;cases hnx
   | succ m =>
   have hstep : O2 P C ops.toList (opI ops.toList i) (F6 loc env) h fun r => j7 C (opI ops.toList i) ∧ A1U P C ops.toList env r.2 (Q4 loc (opI ops.toList i).dst r.1) (A2j ops.toList ops.toList.length eff bs S i) ∧
     u9 P C ops.toList env r.2 (fun loc'=>S5 P C ops.toList env eff bs k m (i::S) loc' r.2) (A0C ops.toList.length eff bs S i) (Q4 loc (opI ops.toList i).dst r.1):=by
    simp only [S5] at htree
    cases hn:S4 eff bs S with
    | nil=>rw [hn] at hnx;cases hnx
    | cons a l =>
     rw [hn] at htree hnx
     exact (D8l _ _).1 htree i hnx
   rw [hoI] at hstep
   refine A1o _ _ (fun r hr=>?_) hstep
   obtain ⟨hlt,hstab,hreads⟩:=hr
   have hsz:ops.toList.length=ops.size:=by simp
   rw [hsz] at hstab hreads
   have enab:∀ p,p∈O0 ops.size eff bs S→p∈O0 ops.size eff bs (i::S):=fun p hp=>by
    obtain ⟨e1,e2,e3⟩:=enabled_mem.1 hp
    exact enabled_mem.2 ⟨e1,e2,fun e he hb=>List.mem_cons_of_mem _ (e3 e he hb)⟩
   have lt_of:∀ p q,p < ops.toList.length→bef bs p q=true→q < p:=fun p q hp hb=>by
    have:=F.up p _ (List.getElem?_eq_getElem hp) q hb
    exact this.1
   obtain ⟨loc',hk,hkeep,hvals⟩:=B6Y (A0C ops.size eff bs S i) _ (by unfold A0C O0;exact (D61 _ _).filter _)
    (fun p hp q hq hpq d hdq hdr=>by
     obtain ⟨a1,_⟩:=newE_mem.1 hp
     obtain ⟨b1,_⟩:=newE_mem.1 hq
     obtain ⟨c1,c2,_⟩:=enabled_mem.1 a1
     obtain ⟨d1,d2,_⟩:=enabled_mem.1 b1
     have:=F.rd q p (by simpa using d1) (by simpa using c1) d2 d hdq hdr
     have:=lt_of p q (by simpa using c1) this
     omega)
    (fun p hp q hq hpq d hdq hdp=>by
     obtain ⟨a1,_⟩:=newE_mem.1 hp
     obtain ⟨b1,_⟩:=newE_mem.1 hq
     have:=F.dd p q (by simpa using (enabled_mem.1 a1).1) (by simpa using (enabled_mem.1 b1).1) d hdp hdq
     omega) hreads
   refine ⟨hlt,ih (listed.setIfInBounds i true) _ r.2 (i::S) loc' m (by simpa using hs) hleft ?_ hk ?_ ?_ ?_ hcl'⟩
   ·intro e
    rw [n0 hilt,List.mem_cons,hS e]
    constructor
    ·rintro (rfl|⟨g1,g2⟩)
     ·exact ⟨hie,if_pos rfl⟩
     ·exact ⟨g1,by split;rfl;exact g2⟩
    ·rintro ⟨g1,g2⟩
     split at g2
     ·exact .inl (by assumption)
     ·exact .inr ⟨g1,g2⟩
   ·intro t
    by_cases hnew:∃ p∈A0C ops.size eff bs S i,(opI ops.toList p).dst=some t
    ·obtain ⟨p,hp,hpt⟩:=hnew
     obtain ⟨a1,a2⟩:=newE_mem.1 hp
     refine .inl ⟨p,a1,?_,hpt⟩
     rw [n0 hilt]
     have:p≠i:=by rintro rfl;exact (enabled_mem.1 a1).2.1 hie
     rw [if_neg this]
     cases hc:listed.getD p false with
     | false=>rfl
     | true =>
      rcases hin p hc with h|h
      ·exact absurd h (enabled_mem.1 a1).2.1
      ·exact absurd h a2
    ·have e1 : F6 loc' env t = A0A (F6 loc env) o.dst r.1 t := by
      rw [hkeep t fun p hp hpt=>hnew ⟨p,hp,hpt⟩,A1p]
     by_cases hdt:o.dst=some t
     ·right
      rw [e1,hdt,A5V,A5V]
     ·rcases hσ t with ⟨p,g1,g2,g3⟩|g1
      ·refine .inl ⟨p,enab p g1,?_,g3⟩
       rw [n0 hilt]
       have:p≠i:=by rintro rfl;exact (enabled_mem.1 g1).2.1 hie
       rw [if_neg this];exact g2
      ·right
       rw [e1,A1K hdt,A1K hdt,g1]
   ·intro p hp hpl
    rw [n0 hilt] at hpl
    have hpi:p≠i:=by
     rintro rfl;rw [if_pos rfl] at hpl;cases hpl
    rw [if_neg hpi] at hpl
    by_cases hpn:p∈A0C ops.size eff bs S i
    ·exact hvals p hpn
    ·have hpS:p∈O0 ops.size eff bs S:=Classical.byContradiction fun hx=>hpn (newE_mem.2 ⟨hp,hx⟩)
     obtain ⟨c1,c2,c3⟩:=enabled_mem.1 hpS
     have hnb:bef bs i p=false:=by
      cases hb:bef bs i p with
      | false=>rfl
      | true=>rw [hbs p hb] at hpl;cases hpl
     obtain ⟨g1,v,g2,g3⟩:=hval p hpS hpl
     have hdp:∀ d,(opI ops.toList p).dst=some d→F6 loc' env d=F6 (Q4 loc o.dst r.1) env d:=fun d hd=>hkeep d fun q hq hqd=>by
      obtain ⟨b1,b2⟩:=newE_mem.1 hq
      have:=F.dd p q (by simpa using c1) (by simpa using (enabled_mem.1 b1).1) d hd hqd
      subst this
      exact b2 hpS
     have hrp:∀ t∈V6 ops.toList (opI ops.toList p),F6 loc' env t=F6 (Q4 loc o.dst r.1) env t:=fun t ht=>hkeep t fun q hq hqd=>by
      obtain ⟨b1,b2⟩:=newE_mem.1 hq
      obtain ⟨d1,d2,d3⟩:=enabled_mem.1 b1
      have hb:=F.rd q p (by simpa using d1) (by simpa using c1) d2 t hqd ht
      exact b2 (enabled_mem.2 ⟨d1,d2,fun e he hqe=>c3 e he (F.tr p q e (by simpa using c1) hb hqe)⟩)
     refine ⟨g1,?_⟩
     by_cases hpure:Y3 false (opI ops.toList p).op=.pure
     ·have hp0 : ∀ t ∈ V6 ops.toList (opI ops.toList p), F6 (Q4 loc o.dst r.1) env t = F6 loc env t := fun t ht => by
       rw [A1p,A1K]
       intro hd
       rcases F.re i p hil (by simpa using c1) (fun e=>hpi e.symm) t (by rw [hoI];exact hd) ht with hb|hb
       ·exact hiS (c3 i hie hb)
       ·rw [hnb] at hb;cases hb
      refine ⟨v,?_,fun d hd=>?_⟩
      ·unfold V9
       rw [A4g fun t ht=>(hrp t ht).trans (hp0 t ht)]
       exact F4t hpure g2 r.2
      ·rw [hdp d hd,A1p,A1K,g3 d hd]
       intro hd2
       exact hpi (F.dd p i (by simpa using c1) hil d hd (by rw [hoI];exact hd2))
     ·obtain ⟨v',q1,q2⟩:=D7w hstab p (stabE_mem.2 ⟨hpS,hnb,hpure⟩)
      refine ⟨v',?_,fun d hd=>by rw [hdp d hd];exact q2 d hd⟩
      unfold V9
      rw [A4g hrp]
      exact q1
   ·intro j hj
    rw [n0 hilt] at hj
    split at hj
    ·rename_i e;subst e;exact .inl hie
    ·exact (hin j hj).imp id (enab j)
  ·have hen:i∈O0 ops.size eff bs S:=enabled_mem.2 ⟨h1,hie,fun e he hb=>(hS e).2 ⟨he,hbs e hb⟩⟩
   obtain ⟨hlt,v,hv1,hv2⟩:=hval i hen h2'
   rw [hoI] at hv1 hv2 hlt
   refine A1o _ _ (fun r hr=>?_) hv1
   subst hr
   refine ⟨hlt,ih (listed.setIfInBounds i true) _ h S loc m (by simpa using hs) hleft ?_ htree ?_ ?_ ?_ hcl'⟩
   ·intro e
    rw [n0 hilt,hS e]
    constructor
    ·rintro ⟨g1,g2⟩;exact ⟨g1,by split;rfl;exact g2⟩
    ·rintro ⟨g1,g2⟩
     split at g2
     ·rename_i e;subst e;exact absurd g1 hie
     ·exact ⟨g1,g2⟩
   ·intro t
    by_cases hdt:o.dst=some t
    ·right
     rw [hdt,A5V,hv2 t hdt]
    ·rcases hσ t with ⟨p,g1,g2,g3⟩|g1
     ·refine .inl ⟨p,g1,?_,g3⟩
      rw [n0 hilt,if_neg]
      ·exact g2
      ·rintro rfl;rw [hoI] at g3;exact hdt g3
     ·right
      show A0A σ o.dst v t = _
      rw [A1K hdt,g1]
   ·intro p hp hpl
    rw [n0 hilt] at hpl
    split at hpl
    ·cases hpl
    ·exact hval p hp hpl
   ·intro j hj
    rw [n0 hilt] at hj
    split at hj
    ·rename_i e;subst e;exact .inr hen
    ·exact hin j hj
theorem D7x {ops : Array Oper} {eff bs : List Nat} (F : TreeFacts ops.toList eff (fun i p => bef bs i p = true)) {k : Env → A3 → Prop} {h : A3}
  (he:u9 P C ops.toList env h (fun loc=>S5 P C ops.toList env eff bs k eff.length [] loc h) (O0 ops.toList.length eff bs []) []):D0M P C ops k env h:=by
 intro hv
 have hsz:ops.toList.length=ops.size:=by simp
 rw [hsz] at he
 have lt_of:∀ p q,p < ops.toList.length→bef bs p q=true→q < p:=fun p q hp hb=>(F.up p _ (List.getElem?_eq_getElem hp) q hb).1
 obtain ⟨loc',hk,hkeep,hvals⟩:=B6Y (O0 ops.size eff bs []) [] (by unfold O0;exact D61 _ _)
  (fun p hp q hq hpq d hdq hdr=>by
   obtain ⟨c1,c2,_⟩:=enabled_mem.1 hp
   obtain ⟨d1,d2,_⟩:=enabled_mem.1 hq
   have:=F.rd q p (by simpa using d1) (by simpa using c1) d2 d hdq hdr
   have:=lt_of p q (by simpa using c1) this
   omega)
  (fun p hp q hq hpq d hdq hdp=>by
   have:=F.dd p q (by simpa using (enabled_mem.1 hp).1) (by simpa using (enabled_mem.1 hq).1) d hdp hdq
   omega) he
 have none:∀ i,(Array.replicate ops.size false).getD i false=false:=fun i=>by
  simp only [Array.getD_eq_getD_getElem?,Array.getElem?_replicate]
  split <;> rfl
 refine F6B F hv ops.size (Array.replicate ops.size false) env.get h [] loc' eff.length (by simp) ?_ (fun e=>by simp [none]) hk (fun t=>?_) (fun p hp _ => hvals p hp) (fun i hi=>by rw [none] at hi;cases hi) (fun i hi=>by rw [none] at hi;cases hi)
 ·unfold V7
  refine Nat.le_trans (List.length_filter_le _ _) (by simp)
 ·by_cases hnew:∃ p∈O0 ops.size eff bs [],(opI ops.toList p).dst=some t
  ·obtain ⟨p,hp,hpt⟩:=hnew
   exact .inl ⟨p,hp,none p,hpt⟩
  ·right
   rw [hkeep t fun p hp hpt=>hnew ⟨p,hp,hpt⟩,A1x]
end
end Go.Vab

namespace Go.Vab
open Go
section
variable {β:Type} {C:Ctx} {q:Bool} {L:List Oper} {k:Env→A3→Option β} {i:Nat} {loc env:Env} {h:A3}
end
section
variable {C:Ctx} {n:Code} {s:St} {env:Env} {h:A3}
theorem xX (id:Nat) (hn:n=.exit id:=by kernel_rfl):evC C n s=some (.exit id,s):=F7o id hn
end
end Go.Vab

namespace Go.Vab
open Go
def A7U (ops:List Oper) (eff bs:List Nat):Bool :=
 (ops.zipIdx.all fun x=>x.1.after.toList.all fun e => !Region.binds .any e||decide (e.on < x.2)) &&
 (ops.zipIdx.all fun x=>(List.range ops.length).all fun p => !bef bs x.2 p||x.1.after.toList.any fun e=>Region.binds .any e&&(decide (e.on=p)||bef bs e.on p)) &&
 ((List.range ops.length).all fun i=>(List.range ops.length).all fun j => !bef bs i j||(bs.getD i 0 ||| bs.getD j 0) == bs.getD i 0) &&
 (ops.zipIdx.all fun x=>match x.1.dst with
  | none=>true
  | some d=>ops.zipIdx.all fun y=>(!(V6 ops y.1).contains d||bef bs y.2 x.2||(eff.contains x.2&&(decide (x.2=y.2)||bef bs x.2 y.2)))&&(decide (x.2=y.2)||decide (y.1.dst≠some d))) &&
 eff.all fun e=>decide (e < ops.length)
theorem E2M {ops:List Oper} {i:Nat} (h:i < ops.length):ops[i]?=some (opI ops i):=by
 unfold opI
 rw [List.getElem?_eq_getElem h]
theorem D7H {ops:List Oper} {eff bs:List Nat} (h:A7U ops eff bs=true):TreeFacts ops eff (fun i p=>bef bs i p=true):=by
 unfold A7U at h
 simp only [Bool.and_eq_true] at h
 obtain ⟨⟨⟨⟨h1,h2⟩,h3⟩,h4⟩,h5⟩:=h
 simp only [List.all_eq_true,Bool.or_eq_true,Bool.not_eq_true',decide_eq_true_eq,Prod.forall,List.mem_zipIdx_iff_getElem?,List.mem_range,List.any_eq_true,Bool.and_eq_true] at h1 h2 h3 h4 h5
 have lt:∀ i p,bef bs i p=true→p < i:=fun i p hp=>by unfold bef at hp;simp at hp;exact hp.1
 have key:∀ i j,i < ops.length→j < ops.length→∀ d,(opI ops i).dst=some d→(d∉V6 ops (opI ops j)∨bef bs j i=true∨(i∈eff∧(i=j∨bef bs i j=true)))∧(i=j∨(opI ops j).dst≠some d):=by
  intro i j hi hj d hd
  have:=h4 (opI ops i) i (E2M hi)
  rw [hd] at this
  simp only [List.all_eq_true,Bool.or_eq_true,Bool.not_eq_true',decide_eq_true_eq,Prod.forall,List.mem_zipIdx_iff_getElem?,Bool.and_eq_true,List.contains_eq_mem,decide_eq_false_iff_not] at this
  obtain ⟨g1,g2⟩:=this (opI ops j) j (E2M hj)
  refine ⟨?_,g2⟩
  rcases g1 with (g|g)|g
  ·exact .inl g
  ·exact .inr (.inl g)
  ·exact .inr (.inr g)
 refine ⟨fun i o ho e he hb=>?_,fun i o ho p hp=>⟨lt i p hp,?_⟩,fun i j k hi hij hjk=>?_,fun i j hi hj hie d hd hr=>?_,fun i j hi hj hne d hd hr=>?_,fun i j hi hj d hd hd'=>?_,fun e he=>h5 e he⟩
 ·rcases h1 o i ho e he with h|h
  ·rw [hb] at h;cases h
  ·exact h
 ·have hil:i < ops.length:=(List.getElem?_eq_some_iff.1 ho).1
  rcases h2 o i ho p (Nat.lt_trans (lt i p hp) hil) with h|h
  ·rw [hp] at h;cases h
  ·exact h
 ·rcases h3 i hi j (Nat.lt_trans (lt i j hij) hi) with h|h
  ·rw [hij] at h;cases h
  ·have e:=eq_of_beq h
   have l1:=lt i j hij
   have l2:=lt j k hjk
   unfold bef at hjk ⊢
   simp only [Bool.and_eq_true,decide_eq_true_eq] at hjk ⊢
   refine ⟨by omega,?_⟩
   rw [←e,Nat.testBit_or,hjk.2,Bool.or_true]
 ·rcases (key i j hi hj d hd).1 with h|h|h
  ·exact absurd hr h
  ·exact h
  ·exact absurd h.1 hie
 ·rcases (key i j hi hj d hd).1 with h|h|h
  ·exact absurd hr h
  ·exact .inl h
  ·rcases h.2 with h|h
   ·exact absurd h hne
   ·exact .inr h
 ·rcases (key i j hi hj d hd).2 with h|h
  ·exact h
  ·exact absurd hd' h
def gv (y:AV) (want:Bool) (X:Option AV):Option AV:=match y with
 | .bool b=>if b=want then X else some .undef
 | .undef=>some .undef
 | _ => none
@[simp] theorem D9Y (b want:Bool) (X:Option AV):gv (.bool b) want X=if b=want then X else some .undef:=rfl
@[simp] theorem F6C (want:Bool) (X:Option AV):gv .undef want X=some .undef:=rfl
@[simp] theorem A5W (b want:Bool) (X:(AV × A3→Prop)→Prop) (h:A3) (K:AV × A3→Prop):gW (.bool b) want X h K=if b=want then X K else K (.undef,h):=rfl
@[simp] theorem F6D (want:Bool) (X:(AV × A3→Prop)→Prop) (h:A3) (K:AV × A3→Prop):gW .undef want X h K=K (.undef,h):=rfl
theorem d9 {α:Type} (a:α) (K:α→Prop):Evs (some a) K=K a:=propext (Iff.intro (fun ⟨r,h1,h2⟩=>by cases h1;exact h2) (fun h=>⟨a,rfl,h⟩))
theorem A4k (h:A3) (X:Option AV) (K:AV × A3→Prop):Evs (pureV h X) K=Evs X fun v=>K (v,h):=by
 cases X with
 | none=>exact propext (Iff.intro (fun ⟨r,h1,_⟩=>by cases h1) (fun ⟨r,h1,_⟩=>by cases h1))
 | some a=>rw [d9];exact d9 (a,h) K
theorem A1y (y:AV) (want:Bool) (h:A3) (X:Option AV) (K:AV × A3→Prop):gW y want (Evs (pureV h X)) h K=Evs (gv y want X) fun v=>K (v,h):=by
 cases y with
 | bool b =>
  simp only [A5W,D9Y]
  split
  ·exact A4k h X K
  ·rw [d9]
 | undef=>simp only [F6D,F6C,d9]
 | _ => exact propext (Iff.intro (fun h=>h.elim) (fun ⟨r,h1,_⟩=>by cases h1))
def fnW (P:Program) (f:AV) (args:List AV) (h:A3):(AV × A3→Prop)→Prop:=match f with
 | .fn g caps=>SpecQ P g (args++caps) h
 | _ => fun _ => False
@[simp] theorem G9M (P:Program) (g:Nat) (caps args:List AV) (h:A3) (K:AV × A3→Prop):fnW P (.fn g caps) args h K=SpecQ P g (args++caps) h K:=rfl
section
variable {P:Program} {C:Ctx} {L:List Oper} {k:Env→A3→Prop} {i:Nat} {loc env:Env} {h:A3}
theorem w0 {Y:Prop} (h1:Y7 P C L k (List.drop 0 L) [] env h=Y):Y7 P C L k L [] env h=Y:=h1
end
def D9 (F:(AV × A3→Prop)→Prop) (h:A3) (Y:AV→Prop):Prop:=∃ v,F (fun r=>r=(v,h))∧Y v
def E8 (p rest:Prop):Prop:=p∧rest
def G5 (p q:Prop):Prop:=p∧q
section
variable {P:Program} {C:Ctx} {L:List Oper} {env:Env} {k:Env→Prop} {p:Nat} {ps:List Nat} {loc:Env} {h:A3}
theorem rG {y : AV} {want : Bool} {X : Option AV} {Y : AV → Prop} (H : Evs (gv y want X) Y) (d : Nat) (h2 : ∀ v, Y v → u9 P C L env h k ps ((d, v) :: loc)) (hd : (opI L p).dst = some d := by kernel_rfl) (hlt : decide (d < C.ntmps) = true := by kernel_rfl)
  (h1:O2 P C L (opI L p) (F6 loc env) h=gW y want (Evs (pureV h X)) h:=by kernel_rfl):u9 P C L env h k (p::ps) loc:=by
 obtain ⟨v,e,hY⟩:=H
 refine ⟨v,?_,?_,?_⟩
 ·unfold V9;rw [h1,A1y,e,d9]
 ·unfold j7;rw [hd];exact of_decide_eq_true hlt
 ·unfold Q4;rw [hd];exact h2 v hY
theorem rF {F : (AV × A3 → Prop) → Prop} {Y : AV → Prop} (H : D9 F h Y) (d : Nat) (h2 : ∀ v, Y v → u9 P C L env h k ps ((d, v) :: loc)) (hd : (opI L p).dst = some d := by kernel_rfl) (hlt : decide (d < C.ntmps) = true := by kernel_rfl)
  (h1:O2 P C L (opI L p) (F6 loc env) h=F:=by kernel_rfl):u9 P C L env h k (p::ps) loc:=by
 obtain ⟨v,e,hY⟩:=H
 refine ⟨v,?_,?_,?_⟩
 ·unfold V9;rw [h1];exact e
 ·unfold j7;rw [hd];exact of_decide_eq_true hlt
 ·unfold Q4;rw [hd];exact h2 v hY
end
section
variable {P:Program} {C:Ctx} {L:List Oper} {env:Env} {eff bs:List Nat} {k:Env→A3→Prop} {loc:Env} {h:A3} {m e:Nat} {S:List Nat}
end
section
variable {P:Program} {C:Ctx} {L:List Oper} {env:Env} {loc:Env} {h:A3} {p:Nat} {ps:List Nat}
theorem sG {y : AV} {want : Bool} {X : Option AV} (v : AV) (d : Nat) {rest Z : Prop} (H : E8 (gv y want X = some v) rest) (h2 : rest → A1U P C L env h loc ps ∧ Z) (hd : (opI L p).dst = some d) (hv : F6 loc env d = v)
  (h1:O2 P C L (opI L p) (F6 loc env) h=gW y want (Evs (pureV h X)) h):A1U P C L env h loc (p::ps)∧Z:=by
 obtain ⟨e,hr⟩:=H
 obtain ⟨g1,g2⟩:=h2 hr
 refine ⟨⟨⟨v,?_,fun d' hd'=>?_⟩,g1⟩,g2⟩
 ·unfold V9;rw [h1,A1y,e,d9]
 ·rw [hd] at hd';cases hd';exact hv
end
section
variable {P:Program} {C:Ctx} {n:Code} {s:St} {env:Env} {h:A3} {Q:Ex × St→Prop}
def wL (P:Program) (C:Ctx) (n:Code) (Q:Ex × St→Prop) (s:St):Prop:=wC P C n Q s
theorem W0 {P:Program} {C:Ctx} {n:Code} {Q:Ex × St→Prop} {s:St} (h:wC P C n Q s):wL P C n Q s:=h
theorem yX (id:Nat) (hn:n=.exit id:=by kernel_rfl):wC P C n Q s=Q (.exit id,s):=by subst hn;rfl
end
theorem I6 {α:Type} {m:Option α} {a:α} {Q:α→Prop} (h:m=some a) (hq:Q a):Evs m Q:=⟨a,h,hq⟩
theorem B6 {p rest:Prop} (h:p) (hr:rest):E8 p rest:=⟨h,hr⟩
theorem I0 {p q:Prop} (h:p) (hr:q):G5 p q:=⟨h,hr⟩
theorem V3 {v:AV} {x y:Prop} (h:v=.bool true) (hx:x):E9 v x y:=by subst h;exact hx
theorem V4 {v:AV} {x y:Prop} (h:v=.bool false) (hy:y):E9 v x y:=by subst h;exact hy
theorem S6 {y:AV} {want:Bool} {X:(AV × A3→Prop)→Prop} {h:A3} {K:AV × A3→Prop} (hy:y=.bool want) (hx:X K):gW y want X h K:=by subst hy;simpa using hx
theorem T4 {y:AV} {want:Bool} {X:(AV × A3→Prop)→Prop} {h:A3} {K:AV × A3→Prop} (hy:y=.bool (!want)) (hk:K (.undef,h)):gW y want X h K:=by subst hy;cases want <;> simpa using hk
theorem T5 {y:AV} {want:Bool} {X:(AV × A3→Prop)→Prop} {h:A3} {K:AV × A3→Prop} (hy:y=.undef) (hk:K (.undef,h)):gW y want X h K:=by subst hy;exact hk
theorem A5 {F:(AV × A3→Prop)→Prop} {h:A3} {Y:AV→Prop} {v:AV} (hF:F fun r=>r=(v,h)) (hY:Y v):D9 F h Y:=⟨v,hF,hY⟩
theorem SpecQ.step {P:Program} {g:Nat} {args:List AV} {h:A3} {K K':AV × A3→Prop} (hs:SpecQ P g args h K) (hK:∀ r,K r→K' r):SpecQ P g args h K':=hs.mono hK
theorem F6E {g : (Ex × St → Prop) → St → Prop} {Q : Ex × St → Prop} (hg : ∀ Q Q' s, (∀ r, Q r → Q' r) → g Q s → g Q' s) (N : Nat) (I : Nat → St → Prop) (step : ∀ i s, i < N → I i s → g (fun r => (r.1 = .nrm ∧ I (i + 1) r.2) ∨ (r.1 ≠ .nrm ∧ Q r)) s)
  (last:∀ s,I N s→g (fun r=>r.1≠.nrm∧Q r) s) {s:St} (h0:I 0 s):A2i g Q s:=by
 refine ⟨fun n s=>∃ i,i+n=N∧I i s,N,⟨0,by omega,h0⟩,fun n s ⟨i,hi,hs⟩=>?_⟩
 by_cases h:i < N
 ·refine hg _ _ _ (fun r hr=>?_) (step i s h hs)
  rcases hr with ⟨h1,h2⟩|h1
  ·exact .inl ⟨h1,n - 1,by omega,i+1,by omega,h2⟩
  ·exact .inr h1
 ·have:i=N:=by omega
  subst this
  exact hg _ _ _ (fun r hr=>.inr hr) (last s hs)
end Go.Vab

namespace Go.Vab
open Go
theorem D7y {P:Program} {C:Ctx} {ops:Array Oper} {q q':(Nat→AV)→A3→Prop} (hq:∀ σ h,q σ h→q' σ h):∀ (n:Nat) (listed:Array Bool) (σ:Nat→AV) (h:A3),A0z P C ops q n listed σ h→A0z P C ops q' n listed σ h
 | 0,_,_,_,h=>⟨h.1,hq _ _ h.2⟩
 | n+1,_,_,_,h=>⟨fun h0=>hq _ _ (h.1 h0),fun i hi o ho=>A1o _ _ (fun _ hr=>⟨hr.1,D7y hq n _ _ _ hr.2⟩) (h.2 i hi o ho)⟩
theorem A0k {P:Program} {C:Ctx}:∀ (c:Code) {Q Q':Ex × St→Prop} {s:St},(∀ r,Q r→Q' r)→wC P C c Q s→wC P C c Q' s
 | .skip,_,_,_,hQ,h=>hQ _ h
 | .exit _,_,_,_,hQ,h=>hQ _ h
 | .ret,_,_,_,hQ,h=>hQ _ h
 | .region _ _ false,_,_,_,hQ,h=>B6f (fun _ _ hk=>hQ _ hk) _ _ _ _ h
 | .region _ _ true,_,_,_,hQ,h=>fun hv=>D7y (fun _ _ ⟨e,h1,h2⟩=>⟨e,hQ _ h1,h2⟩) _ _ _ _ (h hv)
 | .seq x y,Q,Q',s,hQ,h=>by
  simp only [wC] at h ⊢
  refine A0k x (fun r hr=>?_) h
  obtain ⟨ex,s'⟩:=r
  cases ex with
  | nrm=>exact A0k y hQ hr
  | exit id=>exact hQ _ hr
  | ret=>exact hQ _ hr
 | .cond c x y,Q,Q',s,hQ,h=>by
  simp only [wC] at h ⊢
  unfold E9 at h ⊢
  split at h
  ·split at h
   ·rename_i hb;simp only [hb,if_true];exact A0k x hQ h
   ·rename_i hb;simp only [hb];exact A0k y hQ h
  ·cases h
 | .block id c,Q,Q',s,hQ,h=>by
  simp only [wC] at h ⊢
  exact A0k c (fun r hr=>hQ _ hr) h
 | .loop c,Q,Q',s,hQ,h=>by
  obtain ⟨I,n,h0,step⟩:=h
  exact ⟨I,n,h0,fun m s hs=>A0k c (fun r hr=>hr.imp id fun ⟨a,b⟩=>⟨a,hQ _ b⟩) (step m s hs)⟩
 | .rangeFunc ..,_,_,_,_,h=>h.elim
 | .scope _,_,_,_,_,h=>h.elim
 | .label _,_,_,_,_,h=>h.elim
 | .goto _,_,_,_,_,h=>h.elim
 | .refuse _,_,_,_,_,h=>h.elim
theorem G0 {P : Program} {C : Ctx} {c : Code} {Q : Ex × St → Prop} (N : Nat) (I : Nat → St → Prop) (step : ∀ i s, i < N → I i s → wC P C c (fun r => (r.1 = .nrm ∧ I (i + 1) r.2) ∨ (r.1 ≠ .nrm ∧ Q r)) s)
  (last:∀ s,I N s→wC P C c (fun r=>r.1≠.nrm∧Q r) s) {s:St} (h0:I 0 s):A2i (wC P C c) Q s :=
 F6E (g:=wC P C c) (fun _ _ _ hq h=>A0k c hq h) N I step last h0
theorem SpecQ.drop {P : Program} {f : Nat} {args : List AV} {h : A3} {K : AV × A3 → Prop} (hs : SpecQ P f args h K) (K' : AV × A3 → Prop)
  (hK:∀ r,K r→∃ h1 t,r.2=h1++t∧h1.length=h.length∧(∀ (i:Nat) (b:Blk),h1[i]?=some b→(∃ c:Blk,h[i]?=some c∧c.v=b.v)∨b.v.under h.length=true)∧r.1.under h.length=true∧K' (r.1,h1)):SpecQ P f args h K':=by
 intro E w xs R hxs
 rcases hs E w xs R hxs with ⟨h1,h2⟩|⟨x,w',r,E',h1,h2,h3,h4⟩
 ·refine .inl ⟨h1,h2.mono fun e w' hp=>?_⟩
  obtain ⟨r,E',x,g1,rfl,g2,g3⟩:=hp
  obtain ⟨h1,t,e,hl,hb,hv,hk⟩:=hK r g1
  rw [e] at g3
  exact ⟨(r.1,h1),E'.cut h.length,x,hk,rfl,VRel.cut _ _ hv g2,g3.cut R hl hb⟩
 ·obtain ⟨h1',t,e,hl,hb,hv,hk⟩:=hK r h2
  rw [e] at h4
  exact .inr ⟨x,w',(r.1,h1'),E'.cut h.length,h1,hk,VRel.cut _ _ hv h3,h4.cut R hl hb⟩
theorem SpecQ.drop1 {P:Program} {f:Nat} {args:List AV} {h:A3} {v:AV} (hv:v.under h.length=true) (hs:SpecQ P f args h fun r=>∃ t,r=(v,h++t)):SpecQ P f args h fun r=>r=(v,h) :=
 hs.drop _ fun r ⟨t,e⟩=>⟨h,t,by rw [e],rfl,fun i b hb=>.inl ⟨b,hb,rfl⟩,by rw [e];exact hv,by rw [e]⟩
def A0u (P:Program) (g:Nat) (args:List AV) (h:A3) (K:AV × A3→Prop):Prop:=SpecQ P g args h K
def fnA (P:Program) (f:AV) (args:List AV) (h:A3) (K:AV × A3→Prop):Prop:=fnW P f args h K
def F2R (t:Ty) (bytes:Nat) (zero s x:AV) (h:A3) (K:AV × A3→Prop):Prop:=R4 t bytes zero s x h K
theorem S3 {P:Program} {g:Nat} {args args':List AV} {h:A3} {K:AV × A3→Prop} (e:args=args') (hs:SpecQ P g args' h K):A0u P g args h K:=e ▸ hs
theorem v7 {P:Program} {g:Nat} {args args':List AV} {h h0:A3} {Y:AV→Prop} (e:args=args') (hs:D9 (SpecQ P g args' h) h0 Y):D9 (A0u P g args h) h0 Y:=e ▸ hs
theorem A0L {P:Program} {g:Nat} {args args':List AV} {h:A3} {K:AV × A3→Prop} {rest:Prop} (e:args=args') (hs:E8 (SpecQ P g args' h K) rest):E8 (A0u P g args h K) rest:=e ▸ hs
theorem A0M {y:AV} {want:Bool} {X:(AV × A3→Prop)→Prop} {h:A3} {K:AV × A3→Prop} {rest:Prop} (e:y=.bool want) (hs:E8 (X K) rest):E8 (gW y want X h K) rest:=⟨S6 e hs.1,hs.2⟩
theorem Z7 {t:Ty} {bytes:Nat} {zero s s' x x':AV} {h:A3} {K:AV × A3→Prop} (e:s=s') (e':x=x') (hs:R4 t bytes zero s' x' h K):F2R t bytes zero s x h K:=e ▸ e' ▸ hs
theorem o9 {y:AV} {want:Bool} {X:(AV × A3→Prop)→Prop} {h:A3} {Y:AV→Prop} (e:y=.bool want) (hs:D9 X h Y):D9 (gW y want X h) h Y:=by
 obtain ⟨v,h1,h2⟩:=hs
 exact ⟨v,S6 e h1,h2⟩
theorem s5 {y:AV} {want:Bool} {X:(AV × A3→Prop)→Prop} {h:A3} {Y:AV→Prop} (e:y=.bool (!want)) (hs:Y .undef):D9 (gW y want X h) h Y:=⟨.undef,T4 e rfl,hs⟩
theorem s6 {y:AV} {want:Bool} {X:(AV × A3→Prop)→Prop} {h:A3} {Y:AV→Prop} (e:y=.undef) (hs:Y .undef):D9 (gW y want X h) h Y:=⟨.undef,T5 e rfl,hs⟩
theorem E9m {P:Program} {f:AV} {g:Nat} {caps args:List AV} {h:A3} {K:AV × A3→Prop} (e:f=.fn g caps) (hs:A0u P g (args++caps) h K):fnA P f args h K:=by subst e;exact hs
theorem s7 {P:Program} {f:AV} {g:Nat} {caps args:List AV} {h h0:A3} {Y:AV→Prop} (e:f=.fn g caps) (hs:D9 (A0u P g (args++caps) h) h0 Y):D9 (fnA P f args h) h0 Y:=by subst e;exact hs
theorem A0J {P:Program} {f:AV} {g:Nat} {caps args:List AV} {h:A3} {K:AV × A3→Prop} {rest:Prop} (e:f=.fn g caps) (hs:E8 (A0u P g (args++caps) h K) rest):E8 (fnA P f args h K) rest:=by subst e;exact hs
theorem P4 {b want:Bool} {X:Option AV} {K:AV→Prop} (h1:b=want→Evs X K) (h2:b=(!want)→K .undef):Evs (gv (.bool b) want X) K:=by
 rw [D9Y]
 split
 ·exact h1 (by assumption)
 ·rename_i h;rw [d9];exact h2 (by cases b <;> cases want <;> simp_all)
theorem U8 {b want:Bool} {X:(AV × A3→Prop)→Prop} {h:A3} {K:AV × A3→Prop} (h1:b=want→X K) (h2:b=(!want)→K (.undef,h)):gW (.bool b) want X h K:=by
 rw [A5W]
 split
 ·exact h1 (by assumption)
 ·rename_i h;exact h2 (by cases b <;> cases want <;> simp_all)
theorem Y8 {b:Bool} {x y:Prop} (h1:b=true→x) (h2:b=false→y):E9 (.bool b) x y:=by
 rw [F4r]
 cases b
 ·exact h2 rfl
 ·exact h1 rfl
theorem a6 {v:AV} {b:Bool} {x y:Prop} (h:v=.bool b) (h1:b=true→x) (h2:b=false→y):E9 v x y:=by subst h;exact Y8 h1 h2
theorem P8 {v:AV} {b want:Bool} {X:Option AV} {K:AV→Prop} (h:v=.bool b) (h1:b=want→Evs X K) (h2:b=(!want)→K .undef):Evs (gv v want X) K:=by subst h;exact P4 h1 h2
theorem W8 {v:AV} {b want:Bool} {X:(AV × A3→Prop)→Prop} {h:A3} {K:AV × A3→Prop} (e:v=.bool b) (h1:b=want→X K) (h2:b=(!want)→K (.undef,h)):gW v want X h K:=by subst e;exact U8 h1 h2
theorem A0V {b want:Bool} {F:(AV × A3→Prop)→Prop} {h:A3} {Y:AV→Prop} (h1:b=want→D9 F h Y) (h2:b=(!want)→Y .undef):D9 (gW (.bool b) want F h) h Y:=by
 by_cases hb:b=want
 ·obtain ⟨v,g1,g2⟩:=h1 hb
  exact ⟨v,by rw [A5W,if_pos hb];exact g1,g2⟩
 ·exact ⟨.undef,by rw [A5W,if_neg hb],h2 (by cases b <;> cases want <;> simp_all)⟩
def u32 (x:BitVec 32):AV:=.int .u32 (x.toNat:Int)
section
variable (x y:BitVec 32)
@[simp] theorem G6j:A4 (u32 x) (.int .u32)=true:=by simp [A4,u32]
@[simp] theorem G8t:C6 .eql (u32 x) (u32 y)=some (.bool (decide (x=y))):=by
 simp only [C6,L3,u32,if_true]
 congr 2
 by_cases h:x=y
 ·subst h;simp
 ·have:¬ ((x.toNat:Int)=(y.toNat:Int)):=fun e=>h (BitVec.eq_of_toNat_eq (by omega))
  simp [h,this]
@[simp] theorem G8u:C6 .neq (u32 x) (u32 y)=some (.bool (decide (x≠y))):=by
 simp only [C6,L3,u32,if_true]
 congr 2
 by_cases h:x=y
 ·subst h;simp
 ·have:¬ ((x.toNat:Int)=(y.toNat:Int)):=fun e=>h (BitVec.eq_of_toNat_eq (by omega))
  simp [h,this]
@[simp] theorem G8v:C6 .add (u32 x) (u32 y)=some (u32 (x+y)):=by
 simp only [C6,L3,u32,if_true]
 congr 2
@[simp] theorem G8w:C6 .sub (u32 x) (u32 y)=some (u32 (x - y)):=by
 simp only [C6,L3,u32,if_true]
 congr 2
 unfold IntKind.wrap
 simp [IntKind.bits,IntKind.signed,BitVec.toNat_sub]
 have:=x.isLt
 have:=y.isLt
 omega
@[simp] theorem G8x:v9 .u64 (u32 x)=some (u64 (x.setWidth 64)):=by
 simp only [v9,u32,u64]
 congr 2
 unfold IntKind.wrap
 have:=x.isLt
 simp [IntKind.bits,IntKind.signed]
@[simp] theorem D9Z:eqv (u32 x) (u32 y)=some (decide (x=y)):=by
 simp only [eqv,u32,if_true]
 congr 1
 by_cases h:x=y
 ·subst h;simp
 ·have:¬ ((x.toNat:Int)=(y.toNat:Int)):=fun e=>h (BitVec.eq_of_toNat_eq (by omega))
  simp [h,this]
end
end Go.Vab

namespace Go.Vas
open Go Go.Vab
def Rd (P:Program) (tt:Nat→Option TI) (h:A3):Nat→TypeId→AV→Prop
 | 0,_,_ => False
 | n+1,t,v=>match P.underlying t with
  | some .bool=>∃ b,v=.bool b
  | some (.int k)=>∃ x,v=.int k x∧(Lit.int k x).wf=true
  | some .string=>∃ s,v=.str s∧s.size≤maxLen
  | some (.slice e) => v = .nilslice ∨ ∃ i el row, ∃ m : {m : Vab.Mode // m ≠ Vab.Mode.mp}, ∃ len cap, v = .slice i 0 [] el.ty 0 len (some cap) ∧ tt e = some el ∧ h[i]? = some ⟨row, 0, m.1⟩ ∧ A4 row (.arr cap el.ty) = true ∧ len ≤ cap ∧ cap ≤ maxLen ∧ len * P.bytesOf e ≤ reachBytes ∧
    ∀ j,j < cap→∃ x,row.get [j]=some x∧Rd P tt h n e x
  | some (.struct fs)=>∃ vs,v=.node vs∧∀ (f:Nat) x,fs[f]?=some x→∃ y,vs[f]?=some y∧Rd P tt h n x.type y
  | some (.array m e)=>∀ j,j < m→∃ x,v.get [j]=some x∧Rd P tt h n e x
  | _ => False
theorem Rd.app {P:Program} {tt:Nat→Option TI} {h:A3} (l:A3):∀ (n:Nat) (t:TypeId) (v:AV),Rd P tt h n t v→Rd P tt (h++l) n t v
 | 0,_,_,hr=>hr
 | n+1,t,v,hr=>by
  unfold Rd at hr ⊢
  split at hr
  ·exact hr
  ·exact hr
  ·exact hr
  ·rcases hr with hr|⟨i,el,row,m,len,cap,h1,h2,h3,h4,h5,h6,hw,h7⟩
   ·exact .inl hr
   ·exact .inr ⟨i,el,row,m,len,cap,h1,h2,by rw [List.getElem?_append_left (List.getElem?_eq_some_iff.1 h3).1];exact h3,h4,h5,h6,hw,fun j hj=>let ⟨x,hx,hy⟩:=h7 j hj;⟨x,hx,Rd.app l n _ _ hy⟩⟩
  ·obtain ⟨vs,h1,h2⟩:=hr
   exact ⟨vs,h1,fun f x hx=>let ⟨y,hy,hz⟩:=h2 f x hx;⟨y,hy,Rd.app l n _ _ hz⟩⟩
  ·intro j hj
   obtain ⟨x,hx,hy⟩:=hr j hj
   exact ⟨x,hx,Rd.app l n _ _ hy⟩
  ·exact hr
section
variable {H:Type} {enc:TypeId × Value→H} {P:Program} {tt:Nat→Option TI} {ok:List TypeId} {w:World}
theorem A4Z {e:TypeId} {d:DataW H}:∀ {l:List (DataW H)},d∈l→∀ {m:Nat},m∈DataW.weights P e d→m∈DataW.weightsAll P e l
 | x::l,hd,m,hm=>by
  simp only [DataW.weightsAll,List.mem_append]
  rcases List.mem_cons.1 hd with rfl|h
  ·exact .inl hm
  ·exact .inr (A4Z h hm)
theorem D62 {d:DataW H} {t:TypeId}:∀ {ts:List TypeId} {l:List (DataW H)} {i:Nat},ts[i]?=some t→l[i]?=some d→∀ {m:Nat},m∈DataW.weights P t d→m∈DataW.weightsEach P ts l
 | t'::ts,x::l,0,ht,hd,m,hm=>by
  simp at ht hd
  subst ht hd
  simp only [DataW.weightsEach,List.mem_append]
  exact .inl hm
 | t'::ts,x::l,i+1,ht,hd,m,hm=>by
  simp only [DataW.weightsEach,List.mem_append]
  exact .inr (D62 (i:=i) (by simpa using ht) (by simpa using hd) hm)
 | [],_,_,ht,_,_,_ => by simp at ht
 | _ :: _,[],_,_,hd,_,_ => by simp at hd
def Read (P:Program) (tt:Nat→Option TI) (w:World) (n:Nat) (t:TypeId) (cs:List Value):Prop :=
 ∀ E h,RelHeap E h w→O6 E h→∀ i,tt t=some i→∃ E' l v,RelHeap E' (h++l) w∧O6 E' (h++l)∧Ext E E'∧VRl E' v cs∧A4 v i.ty=true∧Rd P tt (h++l) n t v
theorem Read.list {n : Nat} : ∀ (items : List (TypeId × List Value)), (∀ x ∈ items, Read P tt w n x.1 x.2) → (∀ x ∈ items, ∃ i, tt x.1 = some i) →
  ∀ E h,RelHeap E h w→O6 E h→∃ E' l vs,RelHeap E' (h++l) w∧O6 E' (h++l)∧Ext E E'∧VRs E' vs (items.flatMap (·.2))∧vs.length=items.length ∧
   ∀ (j:Nat) x,items[j]?=some x→∃ v i,vs[j]?=some v∧tt x.1=some i∧A4 v i.ty=true∧VRl E' v x.2∧Rd P tt (h++l) n x.1 v
 | [],_,_,E,h,R,N=>⟨E,[],[],by simpa using R,by simpa using N,Ext.refl E,by simp [VRs],rfl,fun j x hx=>by simp at hx⟩
 | x::items,hr,ht,E,h,R,N=>by
  obtain ⟨i,hi⟩:=ht x (List.mem_cons_self ..)
  obtain ⟨E1,l1,v,R1,N1,X1,V1,T1,D1⟩:=hr x (List.mem_cons_self ..) E h R N i hi
  obtain ⟨E2,l2,vs,R2,N2,X2,V2,L2,D2⟩:=Read.list items (fun y hy=>hr y (List.mem_cons_of_mem _ hy)) (fun y hy=>ht y (List.mem_cons_of_mem _ hy)) E1 (h++l1) R1 N1
  refine ⟨E2,l1++l2,v::vs,by rw [←List.append_assoc];exact R2,by rw [←List.append_assoc];exact N2,X1.trans X2,?_,by simp [L2],fun j y hy=>?_⟩
  ·rw [List.flatMap_cons];exact VRs.cons (VRl.mono X2 _ _ V1) V2
  ·rw [←List.append_assoc]
   cases j with
   | zero =>
    simp at hy;subst hy
    exact ⟨v,i,rfl,hi,T1,VRl.mono X2 _ _ V1,Rd.app l2 _ _ _ D1⟩
   | succ j =>
    simp only [List.getElem?_cons_succ] at hy ⊢
    exact D2 j y hy
theorem read_ok (T : TTok P tt) (hok : A0l P tt ok = true) : ∀ (n : Nat) (t : TypeId) (cs : List Value) (x : DataW H × List MemPlace), ok.contains t = true →
  DataW.trod enc P w 0 (fun _ => true) true n t cs=some x→(∀ m∈DataW.weights P t x.1,m≤reachBytes)→Read P tt w n t cs
 | 0,t,cs,x,_,h,_ => by simp [DataW.trod] at h
 | n+1,t,cs,x,hm,h,hwt=>by
  intro E hp R N i hi
  have hok2:=hok
  simp only [A0l,Bool.and_eq_true,List.all_eq_true] at hok
  have hb:=hok.1 t (by simpa using hm)
  unfold B6W at hb
  rw [hi] at hb
  have keep:∀ v:AV,VRl E v cs→A4 v i.ty=true→Rd P tt (hp++[]) (n+1) t v→∃ E' l v,RelHeap E' (hp++l) w∧O6 E' (hp++l)∧Ext E E'∧VRl E' v cs∧A4 v i.ty=true∧Rd P tt (hp++l) (n+1) t v :=
   fun v h1 h2 h3=>⟨E,[],v,by simpa using R,by simpa using N,Ext.refl E,h1,h2,h3⟩
  cases hu:P.underlying t with
  | none=>rw [hu] at hb;simp at hb
  | some d =>
   rw [hu] at hb
   cases d <;> try (simp only [Bool.false_eq_true] at hb;done)
   case bool =>
    obtain ⟨b,rfl,_⟩:=DataW.trod_bool hu h
    have hty:=Ty.beq_eq _ _ hb
    exact keep (.bool b) (by simp only [VRl]) (by rw [hty];rfl) (by simp only [Rd,hu];exact ⟨_,rfl⟩)
   case string =>
    obtain ⟨b,rfl,_,hm⟩:=DataW.trod_string hu h
    have hty:=Ty.beq_eq _ _ hb
    exact keep (.str b) (by simp only [VRl]) (by rw [hty];rfl) (by simp only [Rd,hu];exact ⟨_,rfl,hm⟩)
   case int k =>
    obtain ⟨b,rfl,_,hm⟩:=DataW.trod_int hu h
    have hty:=Ty.beq_eq _ _ hb
    exact keep (.int k b) (by simp only [VRl]) (by rw [hty];simp [A4]) (by simp only [Rd,hu];exact ⟨_,rfl,hm⟩)
   case slice e =>
    simp only [Bool.and_eq_true] at hb
    obtain ⟨⟨hty,he⟩,hoe⟩:=hb
    have hty:=Ty.beq_eq _ _ hty
    cases hel:tt e with
    | none=>rw [hel] at he;cases he
    | some el =>
     rw [hel] at he
     simp only [Bool.and_eq_true,decide_eq_true_eq] at he
     obtain ⟨hsz,hcz⟩:=he
     rcases DataW.trod_slice hu h with ⟨rfl,_⟩|⟨a,len,cap,elems,rest,n',hn,rfl,rfl,_,hl,hmx,hlen,hel1,hel2,_⟩
     ·exact keep .nilslice (by simp only [VRl]) (by rw [hty];rfl) (by simp only [Rd,hu];exact .inl trivial)
     ·have hn':n=n':=by omega
      subst hn'
      have hw0:((elems.map (·.1)).length+(rest.map (·.1)).length) * P.bytesOf e≤reachBytes:=hwt _ (by simp [DataW.weights,hu])
      have hw1:len * P.bytesOf e≤reachBytes:=Nat.le_trans (Nat.mul_le_mul_right _ (by simp only [List.length_map];omega)) hw0
      have hwe:∀ y∈elems++rest,∀ m∈DataW.weights P e y.1,m≤reachBytes:=fun y hy m hm=>hwt m (by
       simp only [DataW.weights,hu,List.mem_cons,List.mem_append]
       rcases List.mem_append.1 hy with hy|hy
       ·exact .inr (.inl (A4Z (List.mem_map_of_mem hy) hm))
       ·exact .inr (.inr (A4Z (List.mem_map_of_mem hy) hm)))
      have hall:∀ k,k < cap→∃ cs' y,w.cells? 0 (a.add (k * P.cellsOf e)) (P.cellsOf e)=some cs'∧DataW.trod enc P w 0 (fun _ => true) true n e cs'=some y∧y∈elems++rest:=by
       intro k hk
       have key:∃ y,(w.cells? 0 (a.add (k * P.cellsOf e)) (P.cellsOf e)).bind (DataW.trod enc P w 0 (fun _ => true) true n e)=some y∧y∈elems++rest:=by
        by_cases hkl:k < len
        ·exact ⟨elems[k]'(by omega),by rw [hel1 k hkl,List.getElem?_eq_getElem (by omega)],List.mem_append_left _ (List.getElem_mem _)⟩
        ·obtain ⟨h1,h2⟩:=hel2 rfl
         have:=h2 (k - len) (by omega)
         rw [show len+(k - len)=k by omega] at this
         exact ⟨rest[k - len]'(by omega),by rw [this,List.getElem?_eq_getElem (by omega)],List.mem_append_right _ (List.getElem_mem _)⟩
       obtain ⟨y,hy,hy2⟩:=key
       obtain ⟨cs',h1,h2⟩:=Option.bind_eq_some_iff.1 hy
       exact ⟨cs',y,h1,h2,hy2⟩
      rw [hcz] at hall
      let f:Nat→List Value:=fun k=>(w.cells? 0 (a.add (k * el.ty.size)) el.ty.size).getD []
      have hf:∀ k,k < cap→w.cells? 0 (a.add (k * el.ty.size)) el.ty.size=some (f k)∧∃ y,DataW.trod enc P w 0 (fun _ => true) true n e (f k)=some y∧y∈elems++rest:=by
       intro k hk
       obtain ⟨cs',y,h1,h2,h3⟩:=hall k hk
       have:f k=cs':=by simp only [f,h1,Option.getD_some]
       rw [this]
       exact ⟨h1,y,h2,h3⟩
      obtain ⟨E1,l1,vs,R1,N1,X1,V1,L1,D1⟩:=Read.list (P:=P) (tt:=tt) (w:=w) (n:=n) ((List.range cap).map fun k=>(e,f k))
       (fun y hy=>by
        obtain ⟨k,hk,rfl⟩:=List.mem_map.1 hy
        obtain ⟨_,z,hz,hz2⟩:=hf k (List.mem_range.1 hk)
        exact read_ok T hok2 n e (f k) z hoe hz (hwe z hz2))
       (fun y hy=>by obtain ⟨k,_,rfl⟩:=List.mem_map.1 hy;exact ⟨el,hel⟩) E hp R N
      rw [List.length_map,List.length_range] at L1
      have hcells:((List.range cap).map fun k=>(e,f k)).flatMap (·.2)=(List.range cap).flatMap f:=by rw [List.flatMap_map]
      rw [hcells] at V1
      have helem:∀ j,j < cap→∃ v,vs[j]?=some v∧A4 v el.ty=true∧Rd P tt (hp++l1) n e v:=by
       intro j hj
       obtain ⟨v,i',hv,hi',ht,_,hr⟩:=D1 j (e,f j) (by simp [hj])
       rw [hel] at hi'
       simp only [Option.some.injEq] at hi'
       subst hi'
       exact ⟨v,hv,ht,hr⟩
      obtain ⟨W1,W2,W3,W4⟩:=A4f (u:=el.ty) (fun v hv=>by
       obtain ⟨j,hj⟩:=List.getElem?_of_mem hv
       obtain ⟨v',hv',ht,_⟩:=helem j (by have:=(List.getElem?_eq_some_iff.1 hj).1;omega)
       rw [hj] at hv'
       simp only [Option.some.injEq] at hv'
       rw [hv'];exact ht) V1
      rw [L1] at W2
      have hres : ∀ (m : Vab.Mode) (many : Bool) (ty : Ty), RelHeap (E1.pushAt a.block a.off many ty) ((hp ++ l1) ++ [⟨I8 el.ty vs, 0, m⟩]) w → O6 (E1.pushAt a.block a.off many ty) ((hp ++ l1) ++ [⟨I8 el.ty vs, 0, m⟩]) →
        (∃ c,ty=.arr c el.ty)→(cap≠0→a.spot=none)→m≠Vab.Mode.mp →
        ∃ E' l v,RelHeap E' (hp++l) w∧O6 E' (hp++l)∧Ext E E'∧VRl E' v [.slice (some a) len cap]∧A4 v i.ty=true∧Rd P tt (hp++l) (n+1) t v:=by
       intro m many ty R2 N2 ⟨c',hty'⟩ hsp hnm
       refine ⟨E1.pushAt a.block a.off many ty,l1++[⟨I8 el.ty vs,0,m⟩],.slice (hp++l1).length 0 [] el.ty 0 len (some cap),by rw [←List.append_assoc];exact R2,by rw [←List.append_assoc];exact N2,
        X1.trans (Gh.pushAt_ext ..),?_,by rw [hty];rfl,?_⟩
       ·simp only [VRl]
        have hE:(hp++l1).length=E1.n:=R1.n.symm
        rw [hE]
        refine ⟨a,cap,rfl,by simp [Gh.pushAt],by simp,hl,by simp,by simp,fun _ => ⟨0,c',by simp [Gh.pushAt,hty',Ty.sub],fun hc=>?_,by simp⟩⟩
        have hs:=hsp hc
        cases a
        simp only at hs
        simp [Gh.pushAt,hs]
       ·unfold Rd
        rw [hu]
        right
        refine ⟨_,el,I8 el.ty vs,⟨m,hnm⟩,len,cap,rfl,hel,?_,W2,hl,hmx,hw1,fun j hj=>?_⟩
        ·rw [←List.append_assoc,List.getElem?_append_right (Nat.le_refl _)];simp
        ·obtain ⟨v,hv,_,hr⟩:=helem j hj
         exact ⟨v,by rw [W3,hv],by rw [←List.append_assoc];exact Rd.app _ _ _ _ hr⟩
      by_cases hc0:cap=0
      ·subst hc0
       have hz:vs=[]:=List.eq_nil_of_length_eq_zero L1
       obtain ⟨R2,N2⟩:=A46 R1 N1 ⟨I8 el.ty vs,0,Vab.Mode.open⟩ a.block a.off true (.arr 0 el.ty) rfl (by simp only [if_true];exact ⟨0,el.ty,rfl,W2⟩) W1 (.inr ⟨rfl,rfl,rfl,by rw [W4,L1]⟩)
       exact hres Vab.Mode.open true _ R2 N2 ⟨0,rfl⟩ (fun h=>absurd rfl h) (by simp)
      ·obtain ⟨arr,te,fr,pre,post,g1,g2,g3,g4⟩:=D7Z (w:=w) (a:=a) (Nat.pos_of_ne_zero hsz) (Nat.pos_of_ne_zero hc0) (fun k hk=>(hf k hk).1)
       obtain ⟨R2,N2⟩:=A46 R1 N1 ⟨I8 el.ty vs,0,Vab.Mode.ro⟩ a.block a.off false (.arr cap el.ty) rfl (by simpa using W2) W1 (.inl ⟨rfl,arr,te,fr,pre,post,g1,g3,g4⟩)
       exact hres Vab.Mode.ro false _ R2 N2 ⟨cap,rfl⟩ (fun _ => g2) (by simp)
   case struct fs =>
    simp only [Bool.and_eq_true,List.all_eq_true] at hb
    obtain ⟨hty,hfs⟩:=hb
    cases hit:i.ty with
    | struct ts =>
     obtain ⟨fs',hu',hsz,_,hfld⟩:=T.struct t i ts hi hit
     rw [hu] at hu'
     simp only [Option.some.injEq,TypeDesc.struct.injEq] at hu'
     subst hu'
     obtain ⟨xs,n',hn,rfl,hlen,hxl,hx⟩:=DataW.trod_struct hu h
     have hn':n=n':=by omega
     subst hn'
     have hcell:=hok.2 t (by simpa using hm)
     rw [hi] at hcell
     simp only [decide_eq_true_eq] at hcell
     rw [hcell,hit] at hlen
     simp only [Ty.size] at hlen
     have hch:=D0L ts cs hlen
     have hf:∀ (f:Nat) (y:Field),fs[f]?=some y→∃ j,tt y.type=some j∧ts[f]?=some j.ty∧(cs.drop y.offset).take (P.cellsOf y.type)=(cs.drop (Ty.sizes (ts.take f))).take (match ts[f]? with|some t=>t.size|none=>0)∧Read P tt w n y.type ((cs.drop y.offset).take (P.cellsOf y.type)):=by
      intro f y hy
      obtain ⟨_,ho,j,hj,htf,_⟩:=hfld f y hy
      have hmem:y∈fs.toList:=List.mem_of_getElem? (by simpa using hy)
      have h3:=hfs y hmem
      rw [hj] at h3
      simp only [decide_eq_true_eq] at h3
      refine ⟨j,hj,htf,?_,?_⟩
      ·rw [ho,h3.2,htf]
      ·have hlt:f < fs.size:=(Array.getElem?_eq_some_iff.1 hy).1
       have h4:=hx f y hy
       rw [List.getElem?_eq_getElem (by omega)] at h4
       refine read_ok T hok2 n y.type _ _ h3.1 h4 (fun m hm=>hwt m ?_)
       simp only [DataW.weights,hu]
       exact D62 (i:=f) (by simp [hy]) (by rw [List.getElem?_map,List.getElem?_eq_getElem (by omega)];rfl) hm
     obtain ⟨E1,l1,vs,R1,N1,X1,V1,L1,D1⟩:=Read.list (P:=P) (tt:=tt) (w:=w) (n:=n) (fs.toList.map fun y=>(y.type,(cs.drop y.offset).take (P.cellsOf y.type)))
      (fun z hz=>by
       obtain ⟨y,hy,rfl⟩:=List.mem_map.1 hz
       obtain ⟨f,hfy⟩:=List.getElem?_of_mem hy
       obtain ⟨j,_,_,_,hr⟩:=hf f y (by simpa using hfy)
       exact hr)
      (fun z hz=>by
       obtain ⟨y,hy,rfl⟩:=List.mem_map.1 hz
       obtain ⟨f,hfy⟩:=List.getElem?_of_mem hy
       obtain ⟨j,hj,_⟩:=hf f y (by simpa using hfy)
       exact ⟨j,hj⟩) E hp R N
     rw [List.length_map] at L1
     have L1:vs.length=fs.size:=by rw [L1];simp
     have hcat:(fs.toList.map fun y=>(y.type,(cs.drop y.offset).take (P.cellsOf y.type))).flatMap (·.2)=cs:=by
      rw [List.flatMap_map]
      rw [D65 (n:=ts.length) (f:=fun f=>(cs.drop (Ty.sizes (ts.take f))).take (match ts[f]? with|some t=>t.size|none=>0)) (by simpa using hsz) (fun f y hy=>?_)]
      ·exact hch
      ·obtain ⟨j,_,_,he,_⟩:=hf f y (by simpa using hy)
       exact he
     rw [hcat] at V1
     have hD:∀ (f:Nat) (y:Field),fs[f]?=some y→∃ v,∃ j:TI,vs[f]?=some v∧ts[f]?=some j.ty∧A4 v j.ty=true∧Rd P tt (hp++l1) n y.type v:=by
      intro f y hy
      obtain ⟨v,j',hv,hj',ht,_,hr⟩:=D1 f (y.type,(cs.drop y.offset).take (P.cellsOf y.type)) (by rw [List.getElem?_map,Array.getElem?_toList,hy];rfl)
      obtain ⟨j,hj,htf,_⟩:=hf f y hy
      rw [hj] at hj'
      simp only [Option.some.injEq] at hj'
      subst hj'
      exact ⟨v,j,hv,htf,ht,hr⟩
     refine ⟨E1,l1,.node vs,R1,N1,X1,by simpa only [VRl] using V1,?_,?_⟩
     ·simp only [A4]
      refine B6c (by omega) (fun f v t' hv ht'=>?_)
      have hlt:f < fs.size:=by have:=(List.getElem?_eq_some_iff.1 hv).1;omega
      obtain ⟨v',j,hv',htf,ht,_⟩:=hD f fs[f] (Array.getElem?_eq_getElem hlt)
      rw [hv] at hv';rw [ht'] at htf
      simp only [Option.some.injEq] at hv' htf
      rw [hv',htf];exact ht
     ·unfold Rd
      rw [hu]
      exact ⟨vs,rfl,fun f y hy=>by obtain ⟨v,j,hv,_,_,hr⟩:=hD f y hy;exact ⟨v,hv,hr⟩⟩
    | int k=>rw [hit] at hty;cases hty
    | cell=>rw [hit] at hty;cases hty
    | arr a b=>rw [hit] at hty;cases hty
   case array m e =>
    simp only [Bool.and_eq_true] at hb
    obtain ⟨⟨hty,hoe⟩,hce⟩:=hb
    cases hit:i.ty with
    | arr m' u =>
     obtain ⟨e',el,hu',hel,hjt⟩:=T.arr t i m' u hi hit
     rw [hu] at hu'
     simp only [Option.some.injEq,TypeDesc.array.injEq] at hu'
     obtain ⟨rfl,rfl⟩:=hu'
     rw [hel] at hce
     simp only [decide_eq_true_eq] at hce
     obtain ⟨xs,n',hn,rfl,hlen,hxl,hx⟩:=DataW.trod_array hu h
     have hn':n=n':=by omega
     subst hn'
     have hcell:=hok.2 t (by simpa using hm)
     rw [hi] at hcell
     simp only [decide_eq_true_eq] at hcell
     rw [hcell,hit] at hlen
     simp only [Ty.size] at hlen
     rw [←hjt] at hlen
     have hch:=B53 el.ty.size m cs hlen
     rw [hce] at hx
     obtain ⟨E1,l1,vs,R1,N1,X1,V1,L1,D1⟩:=Read.list (P:=P) (tt:=tt) (w:=w) (n:=n) ((List.range m).map fun k=>(e,(cs.drop (k * el.ty.size)).take el.ty.size))
      (fun y hy=>by
       obtain ⟨k,hk,rfl⟩:=List.mem_map.1 hy
       have hk:=List.mem_range.1 hk
       have h4:=hx k hk
       rw [List.getElem?_eq_getElem (by omega)] at h4
       refine read_ok T hok2 n e _ _ hoe h4 (fun m hm=>hwt m ?_)
       simp only [DataW.weights,hu]
       exact A4Z (List.mem_map_of_mem (List.getElem_mem _)) hm)
      (fun y hy=>by obtain ⟨k,_,rfl⟩:=List.mem_map.1 hy;exact ⟨el,hel⟩) E hp R N
     rw [List.length_map,List.length_range] at L1
     rw [List.flatMap_map,hch] at V1
     have helem:∀ j,j < m→∃ v,vs[j]?=some v∧A4 v el.ty=true∧Rd P tt (hp++l1) n e v:=by
      intro j hj
      obtain ⟨v,i',hv,hi',ht,_,hr⟩:=D1 j (e,(cs.drop (j * el.ty.size)).take el.ty.size) (by simp [hj])
      rw [hel] at hi'
      simp only [Option.some.injEq] at hi'
      subst hi'
      exact ⟨v,hv,ht,hr⟩
     obtain ⟨W1,W2,W3,W4⟩:=A4f (u:=el.ty) (fun v hv=>by
      obtain ⟨j,hj⟩:=List.getElem?_of_mem hv
      obtain ⟨v',hv',ht,_⟩:=helem j (by have:=(List.getElem?_eq_some_iff.1 hj).1;omega)
      rw [hj] at hv'
      simp only [Option.some.injEq] at hv'
      rw [hv'];exact ht) V1
     rw [L1] at W2
     refine ⟨E1,l1,I8 el.ty vs,R1,N1,X1,W1,by rw [←hjt];exact W2,?_⟩
     unfold Rd
     rw [hu]
     intro j hj
     obtain ⟨v,hv,_,hr⟩:=helem j hj
     exact ⟨v,by rw [W3,hv],hr⟩
    | int k=>rw [hit] at hty;cases hty
    | cell=>rw [hit] at hty;cases hty
    | struct b=>rw [hit] at hty;cases hty
open Go.RowKit Go.WideShapes Go.ChangeShapes
theorem read_args (T : TTok P tt) (hok : A0l P tt ok = true) {W : World} {base : Nat} : ∀ (ts : List TypeId) (vs : List Value) (ds : List (DataW H)) (ps : List MemPlace), (∀ t ∈ ts, ok.contains t = true) → (∀ t ∈ ts, ∃ i, tt t = some i) →
  DataW.TrodAll enc P W 0 (fun _ => true) true ts vs ds ps→(∀ m∈DataW.weightsEach P ts ds,m≤reachBytes)→(∀ (j:Nat) t v,ts[j]?=some t→vs[j]?=some v→Value.okWide P W .any base t v) →
  ∀ E h,RelHeap E h W→O6 E h→∃ E' l avs,RelHeap E' (h++l) W∧O6 E' (h++l)∧Ext E E'∧VRc E' avs vs∧avs.length=ts.length∧∀ (j:Nat) t a,ts[j]?=some t→avs[j]?=some a→∃ n i,tt t=some i∧A4 a i.ty=true∧Rd P tt (h++l) n t a
 | [],[],[],ps,_,_,_,_,_,E,h,R,N=>⟨E,[],[],by simpa using R,by simpa using N,Ext.refl E,by simp [VRc],rfl,fun j t a hj=>by simp at hj⟩
 | t::ts,v::vs,d::ds,ps,ho,hi,hr,hwt,hv,E,h,R,N=>by
  obtain ⟨p,q,⟨n,h1⟩,h2,_⟩:=hr
  obtain ⟨i,hti⟩:=hi t (List.mem_cons_self ..)
  obtain ⟨E1,l1,a,R1,N1,X1,V1,T1,D1⟩:=read_ok T hok n t _ _ (ho t (List.mem_cons_self ..)) h1 (fun m hm=>hwt m (by simp only [DataW.weightsEach];exact List.mem_append_left _ hm)) E h R N i hti
  obtain ⟨E2,l2,avs,R2,N2,X2,V2,L2,D2⟩:=read_args T hok ts vs ds q (fun y hy=>ho y (List.mem_cons_of_mem _ hy)) (fun y hy=>hi y (List.mem_cons_of_mem _ hy)) h2 (fun m hm=>hwt m (by simp only [DataW.weightsEach];exact List.mem_append_right _ hm)) (fun j t v hj hjv=>hv (j+1) t v (by simpa using hj) (by simpa using hjv)) E1 (h++l1) R1 N1
  have hval:=D66 T hti (hv 0 t v rfl rfl)
  refine ⟨E2,l1++l2,a::avs,by rw [←List.append_assoc];exact R2,by rw [←List.append_assoc];exact N2,X1.trans X2,?_,by simp [L2],fun j u b hj hb=>?_⟩
  ·simp only [VRc]
   refine ⟨v,vs,rfl,?_,V2⟩
   rw [hval]
   exact VRel.mono X2 _ _ (VRel.of_cells T1 V1)
  ·rw [←List.append_assoc]
   cases j with
   | zero =>
    simp at hj hb;subst hj;subst hb
    exact ⟨n,i,hti,T1,Rd.app l2 _ _ _ D1⟩
   | succ j=>exact D2 j u b (by simpa using hj) (by simpa using hb)
 | [],_ :: _,_,_,_,_,hr,_,_,_,_,_,_ => by simp [DataW.TrodAll] at hr
 | [],[],_ :: _,_,_,_,hr,_,_,_,_,_,_ => by simp [DataW.TrodAll] at hr
 | _ :: _,[],_,_,_,_,hr,_,_,_,_,_,_ => by simp [DataW.TrodAll] at hr
 | _ :: _,_ :: _,[],_,_,_,hr,_,_,_,_,_,_ => by simp [DataW.TrodAll] at hr
end
theorem SpecQ.calls {P : Program} {f : Nat} {fn : Func} {args : List AV} {h : A3} {K : AV × A3 → Prop} (hs : SpecQ P f args h K) (hf : P.funcs[f]? = some fn) (hb : fn.body.isSome = true) (hn : (fn.name == "runtime.NumGoroutine") = false) :
  ∀ (E:Gh) (w:World) (xs:List Value),RelHeap E h w→VRc E args xs→Calls P f xs.toArray w fun e w'=>∃ r E' x,K r∧e=.returned x∧VRel E' r.1 x∧Moves E h w E' r.2 w':=by
 intro E w xs R V
 rcases hs E w xs R V with ⟨_,h2⟩|⟨x,w',r,E',h1,_⟩
 ·exact h2
 ·obtain ⟨c,hc⟩:=Option.isSome_iff_exists.1 hb
  have h3 : fn.name ≠ "runtime.NumGoroutine" := by simpa using hn
  simp [callFunc,hf,h3,hc] at h1
def Handed (P:Program) (tt:Nat→Option TI) (h:A3) (ts:List TypeId) (avs:List AV):Prop :=
 avs.length=ts.length∧∀ (j:Nat) t a,ts[j]?=some t→avs[j]?=some a→∃ n i,tt t=some i∧A4 a i.ty=true∧Rd P tt h n t a
theorem law_lifted_sized {C : Checked} {tt : Nat → Option TI} {ok : List TypeId} {os : Os} {f : FuncId} {fn : Func} {s : ChangeSpec} {b : Nat} {H : Type} {enc : TypeId × Value → H} (T : TTok C.prog tt) (hok : A0l C.prog tt ok = true)
  (own:ownKnob C.prog.godebug=none) (hl:laidOutB C.prog=true) (started:os.Started) (noInit:C.prog.inits.idxOf? f=none) (hfn:C.prog.funcs[f]?=some fn) (hvars:s.vars=[])
  (hread:(fn.params.toList.all fun t=>C.prog.readableRec t&&decide (t < C.prog.types.size)&&ok.contains t&&(tt t).isSome)=true) (hres:fn.resultTypes=#[b]) (hbool:C.prog.underlying b=some .bool)
  (hs:∀ ds:List (DataW H),ds.length=fn.params.size→s.fn H ds={ results:=[.lit (.bool true)],args:=ds })
  (witness:∃ (w:World) (tape:Tape) (i:Input),w.os=os∧(w.forCall tape i).Shaped C.prog∧i.vars=[]∧Input.okWide C.prog (w.forCall tape i) .any w.heap.size f i ∧
   s.pre6 enc C.prog fn [] false (w.forCall tape i).memory i.args∧({ modest:=false }:Assume).holds C.prog (lone (Frame.enter C.prog f i.args .normal) [] (w.forCall tape i)))
  (hbody : fn.body.isSome = true) (hname : (fn.name == "runtime.NumGoroutine") = false)
  (spec:∀ avs h,Handed C.prog tt h fn.params.toList avs→SpecQ C.prog f avs h fun r=>r.1=.bool true) :
  ReturnsInHanded {} C os f .any (s.pre6 enc C.prog fn [] false) (s.post enc C.prog fn false true false false):=by
 refine returnsInHanded_of_change_sized own started noInit hfn witness ?_
 intro W base args ds gs before hval hW _ hwt _
 simp only [List.all_eq_true,Bool.and_eq_true,decide_eq_true_eq] at hread
 have hW0:=hW
 obtain ⟨p,q,h1,h2,he,hz,hn⟩:=hW
 have hgs:gs=[]:=by
  rw [hvars] at h2
  cases gs with
  | nil=>rfl
  | cons _ _ => simp [DataW.TrodVars] at h2
 subst hgs
 have hwt':∀ m∈DataW.weightsEach C.prog fn.params.toList ds,m≤reachBytes:=by
  have ev:s.plain.varTypes C.prog=[]:=by
   unfold DataSpec.varTypes
   simp [ChangeSpec.plain,hvars]
  rw [ev,List.append_nil,List.append_nil] at hwt
  simpa using hwt
 obtain ⟨E,l,avs,R,N,X,V,L,D⟩:=read_args T hok fn.params.toList args.toList ds p (fun t ht=>(hread t ht).1.2) (fun t ht=>Option.isSome_iff_exists.1 (hread t ht).2) h1 hwt' (fun j t v hj hv=>hval j t v (by simpa using hj) (by simpa using hv)) E00 [] (F9g W) (fun i b hb=>by simp at hb)
 simp only [List.nil_append] at R N D
 have hsp:=SpecQ.calls (spec avs l ⟨L,D⟩) hfn hbody hname
 have hlen:ds.length=fn.params.size:=by
  have:∀ (ts:List TypeId) (vs:List Value) (ds:List (DataW H)) (ps:List MemPlace),DataW.TrodAll enc C.prog W 0 (fun _ => true) true ts vs ds ps→ds.length=ts.length:=by
   intro ts
   induction ts with
   | nil =>
    intro vs ds ps h
    cases vs <;> cases ds <;> simp [DataW.TrodAll] at h ⊢
   | cons t ts ih =>
    intro vs ds ps h
    cases vs <;> cases ds <;> simp only [DataW.TrodAll] at h
    obtain ⟨_,_,_,h,_⟩:=h
    simp [ih _ _ _ h]
  rw [this _ _ _ _ h1];simp
 have hc:=hsp E W args.toList R V
 simp only [Array.toArray_toList] at hc
 refine hc.mono fun e W' hp=>?_
 obtain ⟨⟨rv,h'⟩,E',x,hrv,rfl,hx,m⟩:=hp
 dsimp only at hrv hx m
 subst hrv
 simp only [VRel] at hx
 subst hx
 exact ⟨_,rfl,F4k hl hvars (fun t ht=>(hread t ht).1.1) hres hbool (hs ds hlen) hW0 (F3p N m)⟩
end Go.Vas

namespace Go.Vab
open Go
def N6:Ty:=(.struct [(.arr 32 (.int .u8)),(.arr 32 (.int .u8))])
@[simp] theorem G5G (vs:List AV):A4 (.node vs) N6=C0 vs [(.arr 32 (.int .u8)),(.arr 32 (.int .u8))]:=rfl
@[simp] theorem G5V:Ty.size N6=64:=by rfl
@[simp] theorem G5k (op:BinOp) (x y:AV):mEq N6 op x y=if A4 x N6&&A4 y N6 then (match op with | .eql=>bnd (eqv x y) fun b=>some (.bool b) | .neq=>bnd (eqv x y) fun b=>some (.bool !b) | _ => none) else none:=rfl
@[simp] theorem G32 (vs:List AV) (n:Nat):A4 (.node vs) (.arr n N6)=(decide (vs.length=n)&&G7 vs N6):=rfl
@[simp] theorem G4H (vs:List AV):D7 N6 (.node vs) 0=if C0 vs [(.arr 32 (.int .u8)),(.arr 32 (.int .u8))] then vs[0]? else none:=rfl
@[simp] theorem G4I (vs:List AV):D7 N6 (.node vs) 1=if C0 vs [(.arr 32 (.int .u8)),(.arr 32 (.int .u8))] then vs[1]? else none:=rfl
def F7:Ty:=(.struct [(.int .u8),(.int .u8),(.int .u8)])
@[simp] theorem G5H (vs:List AV):A4 (.node vs) F7=C0 vs [(.int .u8),(.int .u8),(.int .u8)]:=rfl
@[simp] theorem G5W:Ty.size F7=3:=by rfl
@[simp] theorem G5l (op:BinOp) (x y:AV):mEq F7 op x y=if A4 x F7&&A4 y F7 then (match op with | .eql=>bnd (eqv x y) fun b=>some (.bool b) | .neq=>bnd (eqv x y) fun b=>some (.bool !b) | _ => none) else none:=rfl
@[simp] theorem G33 (vs:List AV) (n:Nat):A4 (.node vs) (.arr n F7)=(decide (vs.length=n)&&G7 vs F7):=rfl
@[simp] theorem G3J (b ver:Nat) (path:List Nat):C2 F7 (.ptr b ver path F7) 0=some (.ptr b ver (path++[0]) (.int .u8)):=by simp [C2,F7]
@[simp] theorem G4J (vs:List AV):D7 F7 (.node vs) 0=if C0 vs [(.int .u8),(.int .u8),(.int .u8)] then vs[0]? else none:=rfl
@[simp] theorem G3K (b ver:Nat) (path:List Nat):C2 F7 (.ptr b ver path F7) 1=some (.ptr b ver (path++[1]) (.int .u8)):=by simp [C2,F7]
@[simp] theorem G4K (vs:List AV):D7 F7 (.node vs) 1=if C0 vs [(.int .u8),(.int .u8),(.int .u8)] then vs[1]? else none:=rfl
@[simp] theorem G3L (b ver:Nat) (path:List Nat):C2 F7 (.ptr b ver path F7) 2=some (.ptr b ver (path++[2]) (.int .u8)):=by simp [C2,F7]
@[simp] theorem G4L (vs:List AV):D7 F7 (.node vs) 2=if C0 vs [(.int .u8),(.int .u8),(.int .u8)] then vs[2]? else none:=rfl
def A6:Ty:=(.struct [(.int .u32),N6,.cell,F7,.cell,.cell,.cell,.cell,.cell])
@[simp] theorem G5X (vs:List AV):A4 (.node vs) A6=C0 vs [(.int .u32),N6,.cell,F7,.cell,.cell,.cell,.cell,.cell]:=rfl
@[simp] theorem G5m:Ty.size A6=74:=by rfl
@[simp] theorem G57 (op:BinOp) (x y:AV):mEq A6 op x y=if A4 x A6&&A4 y A6 then (match op with | .eql=>bnd (eqv x y) fun b=>some (.bool b) | .neq=>bnd (eqv x y) fun b=>some (.bool !b) | _ => none) else none:=rfl
@[simp] theorem G4M (vs:List AV) (n:Nat):A4 (.node vs) (.arr n A6)=(decide (vs.length=n)&&G7 vs A6):=rfl
@[simp] theorem G3b (b ver:Nat) (path:List Nat):C2 A6 (.ptr b ver path A6) 0=some (.ptr b ver (path++[0]) (.int .u32)):=by simp [C2,A6]
@[simp] theorem G4f (vs:List AV):D7 A6 (.node vs) 0=if C0 vs [(.int .u32),N6,.cell,F7,.cell,.cell,.cell,.cell,.cell] then vs[0]? else none:=rfl
@[simp] theorem G3c (b ver:Nat) (path:List Nat):C2 A6 (.ptr b ver path A6) 1=some (.ptr b ver (path++[1]) N6):=by simp [C2,A6]
@[simp] theorem G4g (vs:List AV):D7 A6 (.node vs) 1=if C0 vs [(.int .u32),N6,.cell,F7,.cell,.cell,.cell,.cell,.cell] then vs[1]? else none:=rfl
@[simp] theorem G3d (b ver:Nat) (path:List Nat):C2 A6 (.ptr b ver path A6) 2=some (.ptr b ver (path++[2]) .cell):=by simp [C2,A6]
@[simp] theorem G4h (vs:List AV):D7 A6 (.node vs) 2=if C0 vs [(.int .u32),N6,.cell,F7,.cell,.cell,.cell,.cell,.cell] then vs[2]? else none:=rfl
@[simp] theorem G3e (b ver:Nat) (path:List Nat):C2 A6 (.ptr b ver path A6) 3=some (.ptr b ver (path++[3]) F7):=by simp [C2,A6]
@[simp] theorem G4i (vs:List AV):D7 A6 (.node vs) 3=if C0 vs [(.int .u32),N6,.cell,F7,.cell,.cell,.cell,.cell,.cell] then vs[3]? else none:=rfl
@[simp] theorem G3f (b ver:Nat) (path:List Nat):C2 A6 (.ptr b ver path A6) 4=some (.ptr b ver (path++[4]) .cell):=by simp [C2,A6]
@[simp] theorem G4j (vs:List AV):D7 A6 (.node vs) 4=if C0 vs [(.int .u32),N6,.cell,F7,.cell,.cell,.cell,.cell,.cell] then vs[4]? else none:=rfl
@[simp] theorem G3g (b ver:Nat) (path:List Nat):C2 A6 (.ptr b ver path A6) 5=some (.ptr b ver (path++[5]) .cell):=by simp [C2,A6]
@[simp] theorem G4k (vs:List AV):D7 A6 (.node vs) 5=if C0 vs [(.int .u32),N6,.cell,F7,.cell,.cell,.cell,.cell,.cell] then vs[5]? else none:=rfl
@[simp] theorem G3h (b ver:Nat) (path:List Nat):C2 A6 (.ptr b ver path A6) 6=some (.ptr b ver (path++[6]) .cell):=by simp [C2,A6]
@[simp] theorem G4l (vs:List AV):D7 A6 (.node vs) 6=if C0 vs [(.int .u32),N6,.cell,F7,.cell,.cell,.cell,.cell,.cell] then vs[6]? else none:=rfl
@[simp] theorem G3i (b ver:Nat) (path:List Nat):C2 A6 (.ptr b ver path A6) 7=some (.ptr b ver (path++[7]) .cell):=by simp [C2,A6]
@[simp] theorem G4m (vs:List AV):D7 A6 (.node vs) 7=if C0 vs [(.int .u32),N6,.cell,F7,.cell,.cell,.cell,.cell,.cell] then vs[7]? else none:=rfl
@[simp] theorem G3j (b ver:Nat) (path:List Nat):C2 A6 (.ptr b ver path A6) 8=some (.ptr b ver (path++[8]) .cell):=by simp [C2,A6]
@[simp] theorem G4n (vs:List AV):D7 A6 (.node vs) 8=if C0 vs [(.int .u32),N6,.cell,F7,.cell,.cell,.cell,.cell,.cell] then vs[8]? else none:=rfl
def C3:Ty:=(.struct [(.arr 32 (.int .u8)),(.arr 32 (.int .u8))])
theorem A1q:C3=(.struct [(.arr 32 (.int .u8)),(.arr 32 (.int .u8))]):=rfl
@[simp] theorem G5I (vs:List AV):A4 (.node vs) C3=C0 vs [(.arr 32 (.int .u8)),(.arr 32 (.int .u8))]:=rfl
@[simp] theorem G5Y:Ty.size C3=64:=by rfl
@[simp] theorem G5n (op:BinOp) (x y:AV):mEq C3 op x y=if A4 x C3&&A4 y C3 then (match op with | .eql=>bnd (eqv x y) fun b=>some (.bool b) | .neq=>bnd (eqv x y) fun b=>some (.bool !b) | _ => none) else none:=rfl
@[simp] theorem G34 (vs:List AV) (n:Nat):A4 (.node vs) (.arr n C3)=(decide (vs.length=n)&&G7 vs C3):=rfl
@[simp] theorem G3M (b ver:Nat) (path:List Nat):C2 C3 (.ptr b ver path C3) 0=some (.ptr b ver (path++[0]) (.arr 32 (.int .u8))):=by simp [C2,C3]
@[simp] theorem G4N (vs:List AV):D7 C3 (.node vs) 0=if C0 vs [(.arr 32 (.int .u8)),(.arr 32 (.int .u8))] then vs[0]? else none:=rfl
@[simp] theorem G3N (b ver:Nat) (path:List Nat):C2 C3 (.ptr b ver path C3) 1=some (.ptr b ver (path++[1]) (.arr 32 (.int .u8))):=by simp [C2,C3]
@[simp] theorem G4O (vs:List AV):D7 C3 (.node vs) 1=if C0 vs [(.arr 32 (.int .u8)),(.arr 32 (.int .u8))] then vs[1]? else none:=rfl
def D5:Ty:=(.struct [(.int .u32),(.int .u8),C3,(.arr 32 (.int .u8)),(.int .u8),.cell,F7,.cell])
@[simp] theorem G5J (vs:List AV):A4 (.node vs) D5=C0 vs [(.int .u32),(.int .u8),C3,(.arr 32 (.int .u8)),(.int .u8),.cell,F7,.cell]:=rfl
@[simp] theorem G5Z:Ty.size D5=104:=by rfl
@[simp] theorem G5o (op:BinOp) (x y:AV):mEq D5 op x y=if A4 x D5&&A4 y D5 then (match op with | .eql=>bnd (eqv x y) fun b=>some (.bool b) | .neq=>bnd (eqv x y) fun b=>some (.bool !b) | _ => none) else none:=rfl
@[simp] theorem G35 (vs:List AV) (n:Nat):A4 (.node vs) (.arr n D5)=(decide (vs.length=n)&&G7 vs D5):=rfl
@[simp] theorem G3O (b ver:Nat) (path:List Nat):C2 D5 (.ptr b ver path D5) 0=some (.ptr b ver (path++[0]) (.int .u32)):=by simp [C2,D5]
@[simp] theorem G4P (vs:List AV):D7 D5 (.node vs) 0=if C0 vs [(.int .u32),(.int .u8),C3,(.arr 32 (.int .u8)),(.int .u8),.cell,F7,.cell] then vs[0]? else none:=rfl
@[simp] theorem G3P (b ver:Nat) (path:List Nat):C2 D5 (.ptr b ver path D5) 1=some (.ptr b ver (path++[1]) (.int .u8)):=by simp [C2,D5]
@[simp] theorem G4Q (vs:List AV):D7 D5 (.node vs) 1=if C0 vs [(.int .u32),(.int .u8),C3,(.arr 32 (.int .u8)),(.int .u8),.cell,F7,.cell] then vs[1]? else none:=rfl
@[simp] theorem G3Q (b ver:Nat) (path:List Nat):C2 D5 (.ptr b ver path D5) 2=some (.ptr b ver (path++[2]) C3):=by simp [C2,D5]
@[simp] theorem G4R (vs:List AV):D7 D5 (.node vs) 2=if C0 vs [(.int .u32),(.int .u8),C3,(.arr 32 (.int .u8)),(.int .u8),.cell,F7,.cell] then vs[2]? else none:=rfl
@[simp] theorem G3R (b ver:Nat) (path:List Nat):C2 D5 (.ptr b ver path D5) 3=some (.ptr b ver (path++[3]) (.arr 32 (.int .u8))):=by simp [C2,D5]
@[simp] theorem G4S (vs:List AV):D7 D5 (.node vs) 3=if C0 vs [(.int .u32),(.int .u8),C3,(.arr 32 (.int .u8)),(.int .u8),.cell,F7,.cell] then vs[3]? else none:=rfl
@[simp] theorem G3S (b ver:Nat) (path:List Nat):C2 D5 (.ptr b ver path D5) 4=some (.ptr b ver (path++[4]) (.int .u8)):=by simp [C2,D5]
@[simp] theorem G4T (vs:List AV):D7 D5 (.node vs) 4=if C0 vs [(.int .u32),(.int .u8),C3,(.arr 32 (.int .u8)),(.int .u8),.cell,F7,.cell] then vs[4]? else none:=rfl
@[simp] theorem G3T (b ver:Nat) (path:List Nat):C2 D5 (.ptr b ver path D5) 5=some (.ptr b ver (path++[5]) .cell):=by simp [C2,D5]
@[simp] theorem G4U (vs:List AV):D7 D5 (.node vs) 5=if C0 vs [(.int .u32),(.int .u8),C3,(.arr 32 (.int .u8)),(.int .u8),.cell,F7,.cell] then vs[5]? else none:=rfl
@[simp] theorem G3U (b ver:Nat) (path:List Nat):C2 D5 (.ptr b ver path D5) 6=some (.ptr b ver (path++[6]) F7):=by simp [C2,D5]
@[simp] theorem G4V (vs:List AV):D7 D5 (.node vs) 6=if C0 vs [(.int .u32),(.int .u8),C3,(.arr 32 (.int .u8)),(.int .u8),.cell,F7,.cell] then vs[6]? else none:=rfl
@[simp] theorem G3V (b ver:Nat) (path:List Nat):C2 D5 (.ptr b ver path D5) 7=some (.ptr b ver (path++[7]) .cell):=by simp [C2,D5]
@[simp] theorem G4W (vs:List AV):D7 D5 (.node vs) 7=if C0 vs [(.int .u32),(.int .u8),C3,(.arr 32 (.int .u8)),(.int .u8),.cell,F7,.cell] then vs[7]? else none:=rfl
def A7:Ty:=(.struct [C3,(.int .u8),(.int .u32)])
theorem s8:A7=(.struct [C3,(.int .u8),(.int .u32)]):=rfl
@[simp] theorem G5p (vs:List AV):A4 (.node vs) A7=C0 vs [C3,(.int .u8),(.int .u32)]:=rfl
@[simp] theorem G58:Ty.size A7=66:=by rfl
@[simp] theorem G6k (op:BinOp) (x y:AV):mEq A7 op x y=if A4 x A7&&A4 y A7 then (match op with | .eql=>bnd (eqv x y) fun b=>some (.bool b) | .neq=>bnd (eqv x y) fun b=>some (.bool !b) | _ => none) else none:=rfl
@[simp] theorem G4o (vs:List AV) (n:Nat):A4 (.node vs) (.arr n A7)=(decide (vs.length=n)&&G7 vs A7):=rfl
@[simp] theorem G3p (b ver:Nat) (path:List Nat):C2 A7 (.ptr b ver path A7) 0=some (.ptr b ver (path++[0]) C3):=by simp [C2,A7]
@[simp] theorem G4x (vs:List AV):D7 A7 (.node vs) 0=if C0 vs [C3,(.int .u8),(.int .u32)] then vs[0]? else none:=rfl
@[simp] theorem G3q (b ver:Nat) (path:List Nat):C2 A7 (.ptr b ver path A7) 1=some (.ptr b ver (path++[1]) (.int .u8)):=by simp [C2,A7]
@[simp] theorem G4y (vs:List AV):D7 A7 (.node vs) 1=if C0 vs [C3,(.int .u8),(.int .u32)] then vs[1]? else none:=rfl
@[simp] theorem G3r (b ver:Nat) (path:List Nat):C2 A7 (.ptr b ver path A7) 2=some (.ptr b ver (path++[2]) (.int .u32)):=by simp [C2,A7]
@[simp] theorem G4z (vs:List AV):D7 A7 (.node vs) 2=if C0 vs [C3,(.int .u8),(.int .u32)] then vs[2]? else none:=rfl
def B1:Ty:=(.struct [C3,(.int .u8),C3])
theorem a9:B1=(.struct [C3,(.int .u8),C3]):=rfl
@[simp] theorem G5K (vs:List AV):A4 (.node vs) B1=C0 vs [C3,(.int .u8),C3]:=rfl
@[simp] theorem G5a:Ty.size B1=129:=by rfl
@[simp] theorem G5q (op:BinOp) (x y:AV):mEq B1 op x y=if A4 x B1&&A4 y B1 then (match op with | .eql=>bnd (eqv x y) fun b=>some (.bool b) | .neq=>bnd (eqv x y) fun b=>some (.bool !b) | _ => none) else none:=rfl
@[simp] theorem G36 (vs:List AV) (n:Nat):A4 (.node vs) (.arr n B1)=(decide (vs.length=n)&&G7 vs B1):=rfl
@[simp] theorem G3W (b ver:Nat) (path:List Nat):C2 B1 (.ptr b ver path B1) 0=some (.ptr b ver (path++[0]) C3):=by simp [C2,B1]
@[simp] theorem G4X (vs:List AV):D7 B1 (.node vs) 0=if C0 vs [C3,(.int .u8),C3] then vs[0]? else none:=rfl
@[simp] theorem G3X (b ver:Nat) (path:List Nat):C2 B1 (.ptr b ver path B1) 1=some (.ptr b ver (path++[1]) (.int .u8)):=by simp [C2,B1]
@[simp] theorem G4Y (vs:List AV):D7 B1 (.node vs) 1=if C0 vs [C3,(.int .u8),C3] then vs[1]? else none:=rfl
@[simp] theorem G3Y (b ver:Nat) (path:List Nat):C2 B1 (.ptr b ver path B1) 2=some (.ptr b ver (path++[2]) C3):=by simp [C2,B1]
@[simp] theorem G4Z (vs:List AV):D7 B1 (.node vs) 2=if C0 vs [C3,(.int .u8),C3] then vs[2]? else none:=rfl
def B5:Ty:=(.struct [C3,(.int .u32)])
theorem i9:B5=(.struct [C3,(.int .u32)]):=rfl
@[simp] theorem G59 (vs:List AV):A4 (.node vs) B5=C0 vs [C3,(.int .u32)]:=rfl
@[simp] theorem G6l:Ty.size B5=65:=by rfl
@[simp] theorem G7x (op:BinOp) (x y:AV):mEq B5 op x y=if A4 x B5&&A4 y B5 then (match op with | .eql=>bnd (eqv x y) fun b=>some (.bool b) | .neq=>bnd (eqv x y) fun b=>some (.bool !b) | _ => none) else none:=rfl
@[simp] theorem G40 (vs:List AV) (n:Nat):A4 (.node vs) (.arr n B5)=(decide (vs.length=n)&&G7 vs B5):=rfl
@[simp] theorem G37 (b ver:Nat) (path:List Nat):C2 B5 (.ptr b ver path B5) 0=some (.ptr b ver (path++[0]) C3):=by simp [C2,B5]
@[simp] theorem G5L (vs:List AV):D7 B5 (.node vs) 0=if C0 vs [C3,(.int .u32)] then vs[0]? else none:=rfl
@[simp] theorem G38 (b ver:Nat) (path:List Nat):C2 B5 (.ptr b ver path B5) 1=some (.ptr b ver (path++[1]) (.int .u32)):=by simp [C2,B5]
@[simp] theorem G5M (vs:List AV):D7 B5 (.node vs) 1=if C0 vs [C3,(.int .u32)] then vs[1]? else none:=rfl
def B4:Ty:=(.struct [C3,C3])
theorem j0:B4=(.struct [C3,C3]):=rfl
@[simp] theorem G6A (vs:List AV):A4 (.node vs) B4=C0 vs [C3,C3]:=rfl
@[simp] theorem G6m:Ty.size B4=128:=by rfl
@[simp] theorem G7y (op:BinOp) (x y:AV):mEq B4 op x y=if A4 x B4&&A4 y B4 then (match op with | .eql=>bnd (eqv x y) fun b=>some (.bool b) | .neq=>bnd (eqv x y) fun b=>some (.bool !b) | _ => none) else none:=rfl
@[simp] theorem G41 (vs:List AV) (n:Nat):A4 (.node vs) (.arr n B4)=(decide (vs.length=n)&&G7 vs B4):=rfl
@[simp] theorem G39 (b ver:Nat) (path:List Nat):C2 B4 (.ptr b ver path B4) 0=some (.ptr b ver (path++[0]) C3):=by simp [C2,B4]
@[simp] theorem G5N (vs:List AV):D7 B4 (.node vs) 0=if C0 vs [C3,C3] then vs[0]? else none:=rfl
@[simp] theorem G4A (b ver:Nat) (path:List Nat):C2 B4 (.ptr b ver path B4) 1=some (.ptr b ver (path++[1]) C3):=by simp [C2,B4]
@[simp] theorem G5O (vs:List AV):D7 B4 (.node vs) 1=if C0 vs [C3,C3] then vs[1]? else none:=rfl
def s9:Ty:=(.struct [.cell,(.int .i64)])
@[simp] theorem G5P (vs:List AV):A4 (.node vs) s9=C0 vs [.cell,(.int .i64)]:=rfl
@[simp] theorem G5b:Ty.size s9=2:=by rfl
@[simp] theorem G5r (op:BinOp) (x y:AV):mEq s9 op x y=if A4 x s9&&A4 y s9 then (match op with | .eql=>bnd (eqv x y) fun b=>some (.bool b) | .neq=>bnd (eqv x y) fun b=>some (.bool !b) | _ => none) else none:=rfl
@[simp] theorem G4B (vs:List AV) (n:Nat):A4 (.node vs) (.arr n s9)=(decide (vs.length=n)&&G7 vs s9):=rfl
@[simp] theorem G4a (vs:List AV):D7 s9 (.node vs) 0=if C0 vs [.cell,(.int .i64)] then vs[0]? else none:=rfl
@[simp] theorem G4b (vs:List AV):D7 s9 (.node vs) 1=if C0 vs [.cell,(.int .i64)] then vs[1]? else none:=rfl
def I5:Ty:=(.struct [.cell,.cell,.cell,.cell,.cell,.cell])
@[simp] theorem G5s (vs:List AV):A4 (.node vs) I5=C0 vs [.cell,.cell,.cell,.cell,.cell,.cell]:=rfl
@[simp] theorem G6B:Ty.size I5=6:=by rfl
@[simp] theorem G6n (op:BinOp) (x y:AV):mEq I5 op x y=if A4 x I5&&A4 y I5 then (match op with | .eql=>bnd (eqv x y) fun b=>some (.bool b) | .neq=>bnd (eqv x y) fun b=>some (.bool !b) | _ => none) else none:=rfl
@[simp] theorem G4p (vs:List AV) (n:Nat):A4 (.node vs) (.arr n I5)=(decide (vs.length=n)&&G7 vs I5):=rfl
@[simp] theorem G3s (b ver:Nat) (path:List Nat):C2 I5 (.ptr b ver path I5) 0=some (.ptr b ver (path++[0]) .cell):=by simp [C2,I5]
@[simp] theorem G42 (vs:List AV):D7 I5 (.node vs) 0=if C0 vs [.cell,.cell,.cell,.cell,.cell,.cell] then vs[0]? else none:=rfl
@[simp] theorem G3t (b ver:Nat) (path:List Nat):C2 I5 (.ptr b ver path I5) 1=some (.ptr b ver (path++[1]) .cell):=by simp [C2,I5]
@[simp] theorem G43 (vs:List AV):D7 I5 (.node vs) 1=if C0 vs [.cell,.cell,.cell,.cell,.cell,.cell] then vs[1]? else none:=rfl
@[simp] theorem G3u (b ver:Nat) (path:List Nat):C2 I5 (.ptr b ver path I5) 2=some (.ptr b ver (path++[2]) .cell):=by simp [C2,I5]
@[simp] theorem G44 (vs:List AV):D7 I5 (.node vs) 2=if C0 vs [.cell,.cell,.cell,.cell,.cell,.cell] then vs[2]? else none:=rfl
@[simp] theorem G3v (b ver:Nat) (path:List Nat):C2 I5 (.ptr b ver path I5) 3=some (.ptr b ver (path++[3]) .cell):=by simp [C2,I5]
@[simp] theorem G45 (vs:List AV):D7 I5 (.node vs) 3=if C0 vs [.cell,.cell,.cell,.cell,.cell,.cell] then vs[3]? else none:=rfl
@[simp] theorem G3w (b ver:Nat) (path:List Nat):C2 I5 (.ptr b ver path I5) 4=some (.ptr b ver (path++[4]) .cell):=by simp [C2,I5]
@[simp] theorem G46 (vs:List AV):D7 I5 (.node vs) 4=if C0 vs [.cell,.cell,.cell,.cell,.cell,.cell] then vs[4]? else none:=rfl
@[simp] theorem G3x (b ver:Nat) (path:List Nat):C2 I5 (.ptr b ver path I5) 5=some (.ptr b ver (path++[5]) .cell):=by simp [C2,I5]
@[simp] theorem G47 (vs:List AV):D7 I5 (.node vs) 5=if C0 vs [.cell,.cell,.cell,.cell,.cell,.cell] then vs[5]? else none:=rfl
def j8:Ty:=(.struct [(.arr 32 (.int .u8)),D5])
@[simp] theorem G5t (vs:List AV):A4 (.node vs) j8=C0 vs [(.arr 32 (.int .u8)),D5]:=rfl
@[simp] theorem G6C:Ty.size j8=136:=by rfl
@[simp] theorem G6o (op:BinOp) (x y:AV):mEq j8 op x y=if A4 x j8&&A4 y j8 then (match op with | .eql=>bnd (eqv x y) fun b=>some (.bool b) | .neq=>bnd (eqv x y) fun b=>some (.bool !b) | _ => none) else none:=rfl
@[simp] theorem G4q (vs:List AV) (n:Nat):A4 (.node vs) (.arr n j8)=(decide (vs.length=n)&&G7 vs j8):=rfl
@[simp] theorem G48 (vs:List AV):D7 j8 (.node vs) 0=if C0 vs [(.arr 32 (.int .u8)),D5] then vs[0]? else none:=rfl
@[simp] theorem G49 (vs:List AV):D7 j8 (.node vs) 1=if C0 vs [(.arr 32 (.int .u8)),D5] then vs[1]? else none:=rfl
def G6:Ty:=(.struct [.cell,(.arr 32 (.int .u8)),D5,(.int .u8)])
@[simp] theorem G5c (vs:List AV):A4 (.node vs) G6=C0 vs [.cell,(.arr 32 (.int .u8)),D5,(.int .u8)]:=rfl
@[simp] theorem G5u:Ty.size G6=138:=by rfl
@[simp] theorem G6D (op:BinOp) (x y:AV):mEq G6 op x y=if A4 x G6&&A4 y G6 then (match op with | .eql=>bnd (eqv x y) fun b=>some (.bool b) | .neq=>bnd (eqv x y) fun b=>some (.bool !b) | _ => none) else none:=rfl
@[simp] theorem G4c (vs:List AV) (n:Nat):A4 (.node vs) (.arr n G6)=(decide (vs.length=n)&&G7 vs G6):=rfl
@[simp] theorem G3k (b ver:Nat) (path:List Nat):C2 G6 (.ptr b ver path G6) 0=some (.ptr b ver (path++[0]) .cell):=by simp [C2,G6]
@[simp] theorem G4r (vs:List AV):D7 G6 (.node vs) 0=if C0 vs [.cell,(.arr 32 (.int .u8)),D5,(.int .u8)] then vs[0]? else none:=rfl
@[simp] theorem G3l (b ver:Nat) (path:List Nat):C2 G6 (.ptr b ver path G6) 1=some (.ptr b ver (path++[1]) (.arr 32 (.int .u8))):=by simp [C2,G6]
@[simp] theorem G4s (vs:List AV):D7 G6 (.node vs) 1=if C0 vs [.cell,(.arr 32 (.int .u8)),D5,(.int .u8)] then vs[1]? else none:=rfl
@[simp] theorem G3m (b ver:Nat) (path:List Nat):C2 G6 (.ptr b ver path G6) 2=some (.ptr b ver (path++[2]) D5):=by simp [C2,G6]
@[simp] theorem G4t (vs:List AV):D7 G6 (.node vs) 2=if C0 vs [.cell,(.arr 32 (.int .u8)),D5,(.int .u8)] then vs[2]? else none:=rfl
@[simp] theorem G3n (b ver:Nat) (path:List Nat):C2 G6 (.ptr b ver path G6) 3=some (.ptr b ver (path++[3]) (.int .u8)):=by simp [C2,G6]
@[simp] theorem G4u (vs:List AV):D7 G6 (.node vs) 3=if C0 vs [.cell,(.arr 32 (.int .u8)),D5,(.int .u8)] then vs[3]? else none:=rfl
def K9:Ty:=(.struct [.cell,.cell])
@[simp] theorem G4v (vs:List AV):A4 (.node vs) K9=C0 vs [.cell,.cell]:=rfl
@[simp] theorem G5A:Ty.size K9=2:=by rfl
@[simp] theorem G5Q (op:BinOp) (x y:AV):mEq K9 op x y=if A4 x K9&&A4 y K9 then (match op with | .eql=>bnd (eqv x y) fun b=>some (.bool b) | .neq=>bnd (eqv x y) fun b=>some (.bool !b) | _ => none) else none:=rfl
@[simp] theorem G3o (vs:List AV) (n:Nat):A4 (.node vs) (.arr n K9)=(decide (vs.length=n)&&G7 vs K9):=rfl
@[simp] theorem G3C (b ver:Nat) (path:List Nat):C2 K9 (.ptr b ver path K9) 0=some (.ptr b ver (path++[0]) .cell):=by simp [C2,K9]
@[simp] theorem G3y (vs:List AV):D7 K9 (.node vs) 0=if C0 vs [.cell,.cell] then vs[0]? else none:=rfl
@[simp] theorem G3D (b ver:Nat) (path:List Nat):C2 K9 (.ptr b ver path K9) 1=some (.ptr b ver (path++[1]) .cell):=by simp [C2,K9]
@[simp] theorem G3z (vs:List AV):D7 K9 (.node vs) 1=if C0 vs [.cell,.cell] then vs[1]? else none:=rfl
def K8:Ty:=(.struct [.cell,.cell])
@[simp] theorem G4C (vs:List AV):A4 (.node vs) K8=C0 vs [.cell,.cell]:=rfl
@[simp] theorem G4d:Ty.size K8=2:=by rfl
@[simp] theorem G4w (op:BinOp) (x y:AV):mEq K8 op x y=if A4 x K8&&A4 y K8 then (match op with | .eql=>bnd (eqv x y) fun b=>some (.bool b) | .neq=>bnd (eqv x y) fun b=>some (.bool !b) | _ => none) else none:=rfl
@[simp] theorem G3E (vs:List AV) (n:Nat):A4 (.node vs) (.arr n K8)=(decide (vs.length=n)&&G7 vs K8):=rfl
@[simp] theorem G3A (b ver:Nat) (path:List Nat):C2 K8 (.ptr b ver path K8) 0=some (.ptr b ver (path++[0]) .cell):=by simp [C2,K8]
@[simp] theorem G3Z (vs:List AV):D7 K8 (.node vs) 0=if C0 vs [.cell,.cell] then vs[0]? else none:=rfl
@[simp] theorem G3B (b ver:Nat) (path:List Nat):C2 K8 (.ptr b ver path K8) 1=some (.ptr b ver (path++[1]) .cell):=by simp [C2,K8]
@[simp] theorem G3a (vs:List AV):D7 K8 (.node vs) 1=if C0 vs [.cell,.cell] then vs[1]? else none:=rfl
def L0:Ty:=(.struct [.cell,.cell])
@[simp] theorem G5B (vs:List AV):A4 (.node vs) L0=C0 vs [.cell,.cell]:=rfl
@[simp] theorem G5R:Ty.size L0=2:=by rfl
@[simp] theorem G5d (op:BinOp) (x y:AV):mEq L0 op x y=if A4 x L0&&A4 y L0 then (match op with | .eql=>bnd (eqv x y) fun b=>some (.bool b) | .neq=>bnd (eqv x y) fun b=>some (.bool !b) | _ => none) else none:=rfl
@[simp] theorem G30 (vs:List AV) (n:Nat):A4 (.node vs) (.arr n L0)=(decide (vs.length=n)&&G7 vs L0):=rfl
@[simp] theorem G3F (b ver:Nat) (path:List Nat):C2 L0 (.ptr b ver path L0) 0=some (.ptr b ver (path++[0]) .cell):=by simp [C2,L0]
@[simp] theorem G4D (vs:List AV):D7 L0 (.node vs) 0=if C0 vs [.cell,.cell] then vs[0]? else none:=rfl
@[simp] theorem G3G (b ver:Nat) (path:List Nat):C2 L0 (.ptr b ver path L0) 1=some (.ptr b ver (path++[1]) .cell):=by simp [C2,L0]
@[simp] theorem G4E (vs:List AV):D7 L0 (.node vs) 1=if C0 vs [.cell,.cell] then vs[1]? else none:=rfl
def M7:Ty:=(.struct [.cell,.cell])
@[simp] theorem G5C (vs:List AV):A4 (.node vs) M7=C0 vs [.cell,.cell]:=rfl
@[simp] theorem G5S:Ty.size M7=2:=by rfl
@[simp] theorem G5e (op:BinOp) (x y:AV):mEq M7 op x y=if A4 x M7&&A4 y M7 then (match op with | .eql=>bnd (eqv x y) fun b=>some (.bool b) | .neq=>bnd (eqv x y) fun b=>some (.bool !b) | _ => none) else none:=rfl
@[simp] theorem G31 (vs:List AV) (n:Nat):A4 (.node vs) (.arr n M7)=(decide (vs.length=n)&&G7 vs M7):=rfl
@[simp] theorem G3H (b ver:Nat) (path:List Nat):C2 M7 (.ptr b ver path M7) 0=some (.ptr b ver (path++[0]) .cell):=by simp [C2,M7]
@[simp] theorem G4F (vs:List AV):D7 M7 (.node vs) 0=if C0 vs [.cell,.cell] then vs[0]? else none:=rfl
@[simp] theorem G3I (b ver:Nat) (path:List Nat):C2 M7 (.ptr b ver path M7) 1=some (.ptr b ver (path++[1]) .cell):=by simp [C2,M7]
@[simp] theorem G4G (vs:List AV):D7 M7 (.node vs) 1=if C0 vs [.cell,.cell] then vs[1]? else none:=rfl
end Go.Vab

namespace Go.Vab
open Go
end Go.Vab

namespace Go.Vab
open Go
@[simp] theorem F6F (n m:Nat) (g f:Nat→BitVec 8):(arr n g).join (arr m f)=some (arr (n+m) fun i=>if i < n then g i else f (i - n)):=by
 simp only [arr,bytes,AV.join,if_true]
 congr 2
 rw [←List.map_append]
 congr 1
 apply List.ext_getElem?
 intro i
 rw [List.getElem?_append,W7,W7,W7,List.length_map,List.length_range]
 by_cases h:i < n
 ·simp [h,show i < n+m by omega]
 ·by_cases h2:i - n < m
  ·simp [h,h2,show i < n+m by omega]
  ·simp [h,h2,show ¬ i < n+m by omega]
theorem A4h:∀ (p:List Nat) (v:AV) (q:List Nat),v.get (p++q)=bnd (v.get p) fun r=>r.get q
 | [],v,q=>by simp
 | j::p,.node vs,q=>by
  simp only [List.cons_append,A1C]
  cases vs[j]? with
  | none=>rfl
  | some v=>simp only [G9];exact A4h p v q
 | j::p,.ints k xs,q=>by
  simp only [List.cons_append,AV.get]
  cases p with
  | nil =>
   cases q with
   | nil =>
    simp only [List.nil_append]
    cases xs[j]? <;> simp
   | cons a q =>
    simp only [List.nil_append]
    cases xs[j]? <;> simp [AV.get]
  | cons a p=>simp
 | j::p,.junk,q|j::p,.undef,q|j::p,.bool _,q|j::p,.int _ _,q|j::p,.str _,q|j::p,.nilptr,q|j::p,.ptr ..,q|j::p,.win ..,q|j::p,.nilslice,q|j::p,.slice ..,q
 | j::p,.nilmap,q|j::p,.map _,q|j::p,.nilfn,q|j::p,.fn ..,q|j::p,.tuple _,q=>by simp [AV.get]
def A01:AV→Nat→Prop
 | .nilslice,n=>n=0
 | .slice _ ver _ t off len none,n=>len=n∧off+len≤ver∧t=.int .u8
 | .slice _ _ _ t _ len (some c),n=>len=n∧len≤c∧t=.int .u8
 | _,_ => False
def Byt (h:A3) (x:AV) (n:Nat) (g:Nat→BitVec 8):Prop:=C7 (.int .u8) x h=some (arr n g)∧A01 x n
theorem Byt.app {h:A3} {x:AV} {n:Nat} {g:Nat→BitVec 8} (hb:Byt h x n g) (t:A3):Byt (h++t) x n g:=⟨D7X hb.1 t,hb.2⟩
theorem Byt.len {h:A3} {x:AV} {n:Nat} {g:Nat→BitVec 8} (hb:Byt h x n g):L9 x=some (nat n):=by
 obtain ⟨_,h2⟩:=hb
 unfold A01 at h2
 split at h2
 ·subst h2;rfl
 ·rw [←h2.1];rfl
 ·rw [←h2.1];rfl
 ·cases h2
theorem Byt.congr {h:A3} {x:AV} {n:Nat} {g f:Nat→BitVec 8} (hb:Byt h x n g) (e:∀ i,i < n→g i=f i):Byt h x n f:=⟨by rw [hb.1,A0G e],hb.2⟩
theorem Byt.nil (h:A3) (g:Nat→BitVec 8):Byt h .nilslice 0 g:=⟨by simp [C7,arr,bytes],rfl⟩
theorem a7 {i ver:Nat} {path:List Nat} {off len:Nat} {cap:Option Nat} {h:A3}:C7 (.int .u8) (.slice i ver path (.int .u8) off len cap) h=bnd (blkAt h i ver) fun b=>bnd (b.v.get path) fun r=>r.cut off len:=by simp [C7]
@[simp] theorem G5v (n:Nat) (u:Ty) (b ver:Nat) (path:List Nat):A1J (.arr n u) (.ptr b ver path (.arr n u)) none none none=some (.slice b ver path u 0 n (some n)):=by simp [A1J,D3]
def z7 (n:Nat) (g:Nat→BitVec 8):ByteArray:=⟨((List.range n).map fun i=>UInt8.ofNat (g i).toNat).toArray⟩
theorem Byt.str {h:A3} {x:AV} {n:Nat} {g:Nat→BitVec 8} (hb:Byt h x n g):A1Y x h=some (.str (z7 n g)):=by
 have key:∀ y:AV,(∀ s,y≠.str s)→C7 (.int .u8) y h=some (arr n g)→A1Y y h=some (.str (z7 n g)):=by
  intro y hy he
  unfold A1Y
  split
  ·exact absurd rfl (hy _)
  ·rw [he]
   simp only [G9,arr,bytes,z7,List.map_map]
   congr 5
 refine key x ?_ hb.1
 intro s e
 have h2:=hb.2
 rw [e] at h2
 exact h2
theorem F4u {n m:Nat} {g f:Nat→BitVec 8} (h:z7 n g=z7 m f):n=m∧∀ i,i < n→g i=f i:=by
 unfold z7 at h
 have h1:(List.range n).map (fun i=>UInt8.ofNat (g i).toNat)=(List.range m).map fun i=>UInt8.ofNat (f i).toNat:=by
  have:=congrArg ByteArray.data h
  simpa using this
 have hn:n=m:=by simpa using congrArg List.length h1
 subst hn
 refine ⟨rfl,fun i hi=>?_⟩
 have:=congrArg (fun l=>l[i]?) h1
 rw [W7,W7,if_pos hi,if_pos hi,Option.some.injEq] at this
 have h3:=congrArg UInt8.toNat this
 have q:∀ x:BitVec 8,(UInt8.ofNat x.toNat).toNat=x.toNat:=fun x=>by simp
 rw [q,q] at h3
 exact BitVec.eq_of_toNat_eq h3
section
variable {P:Program} {f:Nat} {args:List AV} {h:A3} {ver:Nat} {path:List Nat} {ty:Ty} {off len:Nat} {cap:Option Nat}
end
end Go.Vab

namespace Go.Vab
open Go
@[simp] theorem C0a (x y:BitVec 8):eqv (u8 x) (u8 y)=some (decide (x=y)):=by
 simp only [eqv,u8,if_true]
 congr 1
 by_cases h:x=y
 ·subst h;simp
 ·have:¬ ((x.toNat:Int)=(y.toNat:Int)):=fun e=>h (BitVec.eq_of_toNat_eq (by omega))
  simp [h,this]
abbrev Bs:=List (BitVec 8)
def Bs.g (l:Bs) (i:Nat):BitVec 8:=l.getD i 0#8
structure Pt where
 l:Bs
 h:l.length=32
 deriving DecidableEq
def Pt.g (p:Pt):Nat→BitVec 8:=Bs.g p.l
def pt (p:Pt):AV:=arr 32 p.g
theorem E2N {a b:Bs} (hl:a.length=b.length) (h:∀ i,i < a.length→a.g i=b.g i):a=b:=by
 apply List.ext_getElem? 
 intro i
 by_cases hi:i < a.length
 ·have:=h i hi
  unfold Bs.g at this
  rw [List.getD_eq_getElem?_getD,List.getD_eq_getElem?_getD,List.getElem?_eq_getElem hi,List.getElem?_eq_getElem (by omega)] at this
  rw [List.getElem?_eq_getElem hi,List.getElem?_eq_getElem (by omega)]
  simpa using this
 ·rw [List.getElem?_eq_none (by omega),List.getElem?_eq_none (by omega)]
theorem Pt.ext' {p q:Pt} (h:p.l=q.l):p=q:=by cases p;cases q;simp at h;subst h;rfl
theorem Pt.eq_iff {p q:Pt}:p=q↔∀ i,i < 32→p.g i=q.g i:=by
 constructor
 ·rintro rfl _ _;rfl
 ·intro h
  exact Pt.ext' (E2N (by rw [p.h,q.h]) fun i hi=>h i (by rw [p.h] at hi;exact hi))
@[simp] theorem B63 (p q:Pt):A2f 32 p.g q.g=decide (p=q):=by
 rw [Bool.eq_iff_iff,D7u,decide_eq_true_eq,Pt.eq_iff]
def Pt.of (f:Nat→BitVec 8):Pt:=⟨(List.range 32).map f,by simp⟩
@[simp] theorem Pt.of_g (f:Nat→BitVec 8) {i:Nat} (h:i < 32):(Pt.of f).g i=f i:=by
 simp [Pt.of,Pt.g,Bs.g,List.getD_eq_getElem?_getD,h]
theorem C0b (f:Nat→BitVec 8):arr 32 f=pt (Pt.of f):=A0G fun i hi=>(Pt.of_g f hi).symm
@[simp] theorem G7z (p:Pt) (k:Nat):A4 (pt p) (.arr k (.int .u8))=decide (32=k):=F4l _ _ _
@[simp] theorem G9N (p q:Pt):mEq (.arr 32 (.int .u8)) .eql (pt p) (pt q)=some (.bool (decide (p=q))):=by
 unfold pt;rw [F7v,B63]
@[simp] theorem G9O (p q:Pt):mEq (.arr 32 (.int .u8)) .neq (pt p) (pt q)=some (.bool (!decide (p=q))):=by
 unfold pt;rw [F7w,B63]
@[simp] theorem F8q (p q:Pt):eqv (pt p) (pt q)=some (decide (p=q)):=by
 unfold pt;rw [B61,B63]
def pt0:Pt:=Pt.of fun _ => 0#8
@[simp] theorem G70:arr 32 (fun _ => 0#8)=pt pt0:=C0b _
structure Ci where
 e:Pt
 f:Pt
 deriving DecidableEq
structure Seat where
 who:Ci
 role:BitVec 8
 joined:BitVec 32
 deriving DecidableEq
structure Inv where
 who:Ci
 role:BitVec 8
 by_:Ci
 deriving DecidableEq
structure Ask where
 who:Ci
 at_:BitVec 32
 deriving DecidableEq
structure Ban where
 who:Ci
 by_:Ci
 deriving DecidableEq
structure Acc where
 title:BitVec 8
 members:BitVec 8
 link:BitVec 8
 deriving DecidableEq
structure Stt where
 version:BitVec 32
 key:Ci
 title:Bs
 acc:Acc
 pass:Bs
 seats:List Seat
 invites:List Inv
 asks:List Ask
 bans:List Ban
 deriving DecidableEq
structure Actn where
 version:BitVec 32
 kind:BitVec 8
 who:Ci
 e:Pt
 role:BitVec 8
 title:Bs
 acc:Acc
 pass:Bs
 deriving DecidableEq
def ci0:Ci:=⟨pt0,pt0⟩
def D4:Acc:=⟨0#8,0#8,0#8⟩
def eCi (c:Ci):AV:=.node [pt c.e,pt c.f]
def B0 (s:Seat):AV:=.node [eCi s.who,u8 s.role,u32 s.joined]
def B7 (s:Inv):AV:=.node [eCi s.who,u8 s.role,eCi s.by_]
def B9 (s:Ask):AV:=.node [eCi s.who,u32 s.at_]
def B2 (s:Ban):AV:=.node [eCi s.who,eCi s.by_]
def J8 (a:Acc):AV:=.node [u8 a.title,u8 a.members,u8 a.link]
section
variable (c d:Ci) (s s':Seat) (i i':Inv) (q q':Ask) (b b':Ban) (a a':Acc) (p p' r r':Pt)
@[simp] theorem G6p:A4 (eCi c) C3=true:=by simp [eCi,C0]
@[simp] theorem G5w:A4 (B0 s) A7=true:=by simp [B0,C0]
@[simp] theorem G6E:A4 (B7 i) B1=true:=by simp [B7,C0]
@[simp] theorem G6F:A4 (B9 q) B5=true:=by simp [B9,C0]
@[simp] theorem G6G:A4 (B2 b) B4=true:=by simp [B2,C0]
@[simp] theorem G6H:A4 (J8 a) F7=true:=by simp [J8,C0]
@[simp] theorem G6I:A4 (eCi c) N6=true:=by simp [eCi,C0]
theorem A19 {A B:Prop} [Decidable A] [Decidable B]:(decide A&&decide B)=decide (A∧B):=by simp
theorem Z5 {A B:Prop} [Decidable A] [Decidable B] (h:A↔B):decide A=decide B:=by simp [h]
@[simp] theorem A5X:eqv (eCi c) (eCi d)=some (decide (c=d)):=by
 simp only [eCi,eqv,R3,F8q,Bool.and_true,A19]
 congr 1
 apply Z5
 cases c;cases d;simp
@[simp] theorem G6q:eqv (B0 s) (B0 s')=some (decide (s=s')):=by
 simp only [B0,eqv,R3,A5X,C0a,D9Z,Bool.and_true,A19]
 congr 1;apply Z5
 cases s;cases s';simp
@[simp] theorem G71:eqv (B7 i) (B7 i')=some (decide (i=i')):=by
 simp only [B7,eqv,R3,A5X,C0a,Bool.and_true,A19]
 congr 1;apply Z5
 cases i;cases i';simp
@[simp] theorem G72:eqv (B9 q) (B9 q')=some (decide (q=q')):=by
 simp only [B9,eqv,R3,A5X,D9Z,Bool.and_true,A19]
 congr 1;apply Z5
 cases q;cases q';simp
@[simp] theorem G73:eqv (B2 b) (B2 b')=some (decide (b=b')):=by
 simp only [B2,eqv,R3,A5X,Bool.and_true,A19]
 congr 1;apply Z5
 cases b;cases b';simp
@[simp] theorem G74:eqv (J8 a) (J8 a')=some (decide (a=a')):=by
 simp only [J8,eqv,R3,C0a,Bool.and_true,A19]
 congr 1;apply Z5
 cases a;cases a';simp
end
def BytL (h:A3) (x:AV) (l:Bs):Prop:=Byt h x l.length (Bs.g l)∧l.length≤140737488355328
theorem F4P (l:Bs) (m:Bs):z7 l.length (Bs.g l)=z7 m.length (Bs.g m)↔l=m:=by
 constructor
 ·intro h
  obtain ⟨h1,h2⟩:=F4u h
  exact E2N h1 h2
 ·rintro rfl;rfl
def J9 (l:Bs):ByteArray:=z7 l.length (Bs.g l)
theorem D8m {l m:Bs}:J9 l=J9 m↔l=m:=F4P l m
theorem BytL.str {h:A3} {x:AV} {l:Bs} (hb:BytL h x l):A1Y x h=some (.str (J9 l)):=Byt.str hb.1
theorem BytL.len {h:A3} {x:AV} {l:Bs} (hb:BytL h x l):L9 x=some (nat l.length):=Byt.len hb.1
theorem BytL.app {h:A3} {x:AV} {l:Bs} (hb:BytL h x l) (t:A3):BytL (h++t) x l:=⟨Byt.app hb.1 t,hb.2⟩
theorem BytL.bound {h:A3} {x:AV} {l:Bs} (hb:BytL h x l):l.length≤140737488355328:=hb.2
theorem BytL.nil (h:A3):BytL h .nilslice []:=⟨Byt.nil h _,by simp⟩
theorem BytL.of {h:A3} {x:AV} {n:Nat} {g:Nat→BitVec 8} (hb:Byt h x n g) (hn:n≤140737488355328):BytL h x ((List.range n).map g):=by
 unfold BytL
 rw [List.length_map,List.length_range]
 exact ⟨hb.congr fun i hi=>by simp [Bs.g,List.getD_eq_getElem?_getD,hi],hn⟩
@[simp] theorem G6r (l m:Bs):A0N .eql (.str (J9 l)) (.str (J9 m))=some (.bool (decide (l=m))):=by
 simp only [A0N];congr 2;exact Z5 D8m
@[simp] theorem G6s (l m:Bs):A0N .neq (.str (J9 l)) (.str (J9 m))=some (.bool (!decide (l=m))):=by
 simp only [A0N];congr 3;exact Z5 D8m
theorem BytL.cell {h:A3} {x:AV} {l:Bs} (hb:BytL h x l):A4 x .cell=true:=by
 have h2:=hb.1.2
 unfold A01 at h2
 split at h2
 ·rfl
 ·rfl
 ·rfl
 ·cases h2
def A1V (t:Ty):AV→Nat→Prop
 | .nilslice,n=>n=0
 | .slice _ _ _ t' _ len (some c),n=>len=n∧len≤c∧t'=t
 | _,_ => False
def Row (t:Ty) (h:A3) (x:AV) (vs:List AV):Prop:=C7 t x h=some (.node vs)∧A1V t x vs.length∧vs.length≤140737488355328
section
variable {t:Ty} {h:A3} {x:AV} {vs:List AV}
theorem Row.len (hr:Row t h x vs):L9 x=some (nat vs.length):=by
 have h2:=hr.2.1
 unfold A1V at h2
 split at h2
 ·rw [h2];rfl
 ·rw [←h2.1];rfl
 ·cases h2
theorem Row.app (hr:Row t h x vs) (l:A3):Row t (h++l) x vs:=⟨D7X hr.1 l,hr.2⟩
theorem Row.cell (hr:Row t h x vs):A4 x .cell=true:=by
 have h2:=hr.2.1
 unfold A1V at h2
 split at h2
 ·rfl
 ·rfl
 ·cases h2
theorem Row.bound (hr:Row t h x vs):vs.length≤140737488355328:=hr.2.2
theorem M6 {i ver:Nat} {path:List Nat} {off len:Nat} {cap:Option Nat}:C7 t (.slice i ver path t off len cap) h=bnd (blkAt h i ver) fun b=>bnd (b.v.get path) fun r=>r.cut off len:=by simp [C7]
theorem D8n {r:AV} {off len:Nat} (hc:r.cut off len=some (.node vs)):vs.length=len∧∀ i,i < len→r.get [off+i]=vs[i]?:=by
 cases r <;> simp only [AV.cut] at hc <;> try (cases hc;done)
 case ints k xs=>split at hc <;> cases hc
 case node us =>
  split at hc
  ·rename_i hl
   simp only [Option.some.injEq,AV.node.injEq] at hc
   subst hc
   refine ⟨by simp;omega,fun i hi=>?_⟩
   simp only [A1C,List.getElem?_take,List.getElem?_drop,if_pos hi]
   cases us[off+i]? <;> simp
  ·cases hc
theorem Row.slc (hr:Row t h x vs) (h0:vs≠[]):∃ b ver path off c,x=.slice b ver path t off vs.length (some c)∧vs.length≤c:=by
 have h2:=hr.2.1
 cases x with
 | nilslice=>exact absurd (List.eq_nil_of_length_eq_zero h2) h0
 | slice b ver path t' off len cap =>
  cases cap with
  | none=>exact h2.elim
  | some c =>
   obtain ⟨e1,e2,e3⟩:=h2
   subst e3;subst e1
   exact ⟨b,ver,path,off,c,rfl,e2⟩
 | _ => exact h2.elim
theorem Row.idx (hr:Row t h x vs) {i:Nat} (hi:i < vs.length):∃ p,Q9 t x (nat i)=some p∧∀ l,D6 t p (h++l)=vs[i]?:=by
 obtain ⟨b,ver,path,off,c,rfl,hc⟩:=hr.slc (by rintro rfl;simp at hi)
 have h1:=hr.1
 rw [M6] at h1
 obtain ⟨bb,g1,g2⟩:=bnd_eq_some.1 h1
 obtain ⟨r,g3,g4⟩:=bnd_eq_some.1 g2
 refine ⟨.ptr b ver (path++[off+i]) t,by simp [Q9,hi],fun l=>?_⟩
 rw [D7t,L6 g1,G9,A4h,g3,G9]
 exact (D8n g4).2 i hi
theorem Row.idx0 (hr:Row t h x vs) {i:Nat} (hi:i < vs.length):∃ p,Q9 t x (nat i)=some p∧D6 t p h=vs[i]?:=by
 obtain ⟨p,h1,h2⟩:=hr.idx hi
 exact ⟨p,h1,by simpa using h2 []⟩
end
def C1 (v:BitVec 32) (k:Ci) (c:Acc) (vt vp vs vi va vb:AV):AV:=.node [u32 v,eCi k,vt,J8 c,vp,vs,vi,va,vb]
abbrev eSt (s:Stt):AV→AV→AV→AV→AV→AV→AV:=C1 s.version s.key s.acc
structure StR (h:A3) (s:Stt) (vt vp vs vi va vb:AV):Prop where
 ft:BytL h vt s.title
 fp:BytL h vp s.pass
 fs:Row A7 h vs (s.seats.map B0)
 fi:Row B1 h vi (s.invites.map B7)
 fa:Row B5 h va (s.asks.map B9)
 fb:Row B4 h vb (s.bans.map B2)
theorem StR.app {h:A3} {s:Stt} {vt vp vs vi va vb:AV} (r:StR h s vt vp vs vi va vb) (l:A3):StR (h++l) s vt vp vs vi va vb :=
 ⟨r.ft.app l,r.fp.app l,r.fs.app l,r.fi.app l,r.fa.app l,r.fb.app l⟩
def E5 (v:BitVec 32) (k:BitVec 8) (w:Ci) (e:Pt) (r:BitVec 8) (c:Acc) (vt vp:AV):AV:=.node [u32 v,u8 k,eCi w,pt e,u8 r,vt,J8 c,vp]
abbrev C5 (a:Actn):AV→AV→AV:=E5 a.version a.kind a.who a.e a.role a.acc
structure ActR (h:A3) (a:Actn) (vt vp:AV):Prop where
 t:BytL h vt a.title
 p:BytL h vp a.pass
theorem ActR.app {h:A3} {a:Actn} {vt vp:AV} (r:ActR h a vt vp) (l:A3):ActR (h++l) a vt vp:=⟨r.t.app l,r.p.app l⟩
@[simp] theorem G5D:A4 .nilslice .cell=true:=rfl
@[simp] theorem G5x (i ver:Nat) (path:List Nat) (t:Ty) (off len:Nat) (cap:Option Nat):A4 (.slice i ver path t off len cap) .cell=true:=rfl
@[simp] theorem G6J (b:Bool):A4 (.bool b) .cell=true:=rfl
@[simp] theorem G6t (i ver:Nat) (path:List Nat) (t:Ty):A4 (.ptr i ver path t) .cell=true:=rfl
@[simp] theorem G5f:A4 .nilptr .cell=true:=rfl
@[simp] theorem G75 (f:Nat) (c:List AV):A4 (.fn f c) .cell=true:=rfl
@[simp] theorem G6u (v:BitVec 32) (k:Ci) (c:Acc) (vt vp vs vi va vb:AV):A4 (C1 v k c vt vp vs vi va vb) A6=(A4 vt .cell&&(A4 vp .cell&&(A4 vs .cell&&(A4 vi .cell&&(A4 va .cell&&A4 vb .cell))))):=by
 simp [C1,C0]
@[simp] theorem G6K (v:BitVec 32) (k:BitVec 8) (w:Ci) (e:Pt) (r:BitVec 8) (c:Acc) (vt vp:AV):A4 (E5 v k w e r c vt vp) D5=(A4 vt .cell&&A4 vp .cell):=by
 simp [E5,C0]
theorem StR.cells {h:A3} {s:Stt} {vt vp vs vi va vb:AV} (r:StR h s vt vp vs vi va vb):A4 vt .cell=true∧A4 vp .cell=true∧A4 vs .cell=true∧A4 vi .cell=true∧A4 va .cell=true∧A4 vb .cell=true :=
 ⟨r.ft.cell,r.fp.cell,r.fs.cell,r.fi.cell,r.fa.cell,r.fb.cell⟩
theorem ActR.cells {h:A3} {a:Actn} {vt vp:AV} (r:ActR h a vt vp):A4 vt .cell=true∧A4 vp .cell=true:=⟨r.t.cell,r.p.cell⟩
section
variable (i ver:Nat) (path:List Nat) (t:Ty) (off len:Nat) (cap:Option Nat)
@[simp] theorem G8y:A1R .eql (.ptr i ver path t) .nilptr=some (.bool false):=rfl
@[simp] theorem G8z:A1R .neq (.ptr i ver path t) .nilptr=some (.bool true):=rfl
@[simp] theorem G76:A1R .eql .nilptr .nilptr=some (.bool true):=rfl
@[simp] theorem G77:A1R .neq .nilptr .nilptr=some (.bool false):=rfl
@[simp] theorem G80:A0O .eql (.slice i ver path t off len cap) .nilslice=some (.bool false):=rfl
@[simp] theorem G81:A0O .neq (.slice i ver path t off len cap) .nilslice=some (.bool true):=rfl
@[simp] theorem G78:A0O .eql .nilslice .nilslice=some (.bool true):=rfl
@[simp] theorem G79:A0O .neq .nilslice .nilslice=some (.bool false):=rfl
@[simp] theorem G5y (f:Nat) (c:List AV):A27 (.fn f c)=some (.fn f c):=rfl
@[simp] theorem G6v (a:AV) (l:List AV):m9 (.tuple (a::l)) 0=some a:=rfl
@[simp] theorem G6w (a b:AV) (l:List AV):m9 (.tuple (a::b::l)) 1=some b:=rfl
@[simp] theorem G6x (a b c:AV) (l:List AV):m9 (.tuple (a::b::c::l)) 2=some c:=rfl
@[simp] theorem G6y (a b c d:AV) (l:List AV):m9 (.tuple (a::b::c::d::l)) 3=some d:=rfl
end
attribute [simp] C0
@[simp] theorem G82 (t:Ty) (v:AV) (h:A3):A4R t v h=if A4 v t=true then some (.ptr h.length 0 [] t,h++[⟨v,0,.own⟩]) else none:=rfl
@[simp] theorem G9P (t:Ty) (i ver:Nat) (path:List Nat) (x:AV) (h:A3):stU t (.ptr i ver path t) x h=if A4 x t=true then stR i ver path x h else none:=by
 unfold stU A2W
 simp only [Ty.beq_self,Bool.true_and]
 split
 ·unfold stR
  cases blkAt h i ver with
  | none=>rfl
  | some b =>
   simp only [G9]
   split
   ·rfl
   ·cases b.v.put path x <;> rfl
 ·rfl
section
variable (v v':BitVec 32) (k k':Ci) (c c':Acc) (vt vp vs vi va vb x:AV) (r:List Nat) (kd:BitVec 8) (w:Ci) (e:Pt) (ro:BitVec 8)
@[simp] theorem G8A:(C1 v k c vt vp vs vi va vb).get (0::r)=(u32 v).get r:=by simp [C1]
@[simp] theorem G8B:(C1 v k c vt vp vs vi va vb).get (1::r)=(eCi k).get r:=by simp [C1]
@[simp] theorem G8C:(C1 v k c vt vp vs vi va vb).get (2::r)=(vt).get r:=by simp [C1]
@[simp] theorem G8D:(C1 v k c vt vp vs vi va vb).get (3::r)=(J8 c).get r:=by simp [C1]
@[simp] theorem G8E:(C1 v k c vt vp vs vi va vb).get (4::r)=(vp).get r:=by simp [C1]
@[simp] theorem G8F:(C1 v k c vt vp vs vi va vb).get (5::r)=(vs).get r:=by simp [C1]
@[simp] theorem G8G:(C1 v k c vt vp vs vi va vb).get (6::r)=(vi).get r:=by simp [C1]
@[simp] theorem G8H:(C1 v k c vt vp vs vi va vb).get (7::r)=(va).get r:=by simp [C1]
@[simp] theorem G8I:(C1 v k c vt vp vs vi va vb).get (8::r)=(vb).get r:=by simp [C1]
@[simp] theorem G8J:(C1 v k c vt vp vs vi va vb).put [0] (u32 v')=some (C1 v' k c vt vp vs vi va vb):=by simp [C1]
@[simp] theorem G8K:(C1 v k c vt vp vs vi va vb).put [1] (eCi k')=some (C1 v k' c vt vp vs vi va vb):=by simp [C1]
@[simp] theorem G8L:(C1 v k c vt vp vs vi va vb).put [2] x=some (C1 v k c x vp vs vi va vb):=by simp [C1]
@[simp] theorem G8M:(C1 v k c vt vp vs vi va vb).put [3] (J8 c')=some (C1 v k c' vt vp vs vi va vb):=by simp [C1]
@[simp] theorem G8N:(C1 v k c vt vp vs vi va vb).put [4] x=some (C1 v k c vt x vs vi va vb):=by simp [C1]
@[simp] theorem G8O:(C1 v k c vt vp vs vi va vb).put [5] x=some (C1 v k c vt vp x vi va vb):=by simp [C1]
@[simp] theorem G8P:(C1 v k c vt vp vs vi va vb).put [6] x=some (C1 v k c vt vp vs x va vb):=by simp [C1]
@[simp] theorem G8Q:(C1 v k c vt vp vs vi va vb).put [7] x=some (C1 v k c vt vp vs vi x vb):=by simp [C1]
@[simp] theorem G8R:(C1 v k c vt vp vs vi va vb).put [8] x=some (C1 v k c vt vp vs vi va x):=by simp [C1]
@[simp] theorem G6z:(E5 v kd w e ro c vt vp).get (0::r)=(u32 v).get r:=by simp [E5]
@[simp] theorem G60:(E5 v kd w e ro c vt vp).get (1::r)=(u8 kd).get r:=by simp [E5]
@[simp] theorem G61:(E5 v kd w e ro c vt vp).get (2::r)=(eCi w).get r:=by simp [E5]
@[simp] theorem G62:(E5 v kd w e ro c vt vp).get (3::r)=(pt e).get r:=by simp [E5]
@[simp] theorem G63:(E5 v kd w e ro c vt vp).get (4::r)=(u8 ro).get r:=by simp [E5]
@[simp] theorem G64:(E5 v kd w e ro c vt vp).get (5::r)=(vt).get r:=by simp [E5]
@[simp] theorem G65:(E5 v kd w e ro c vt vp).get (6::r)=(J8 c).get r:=by simp [E5]
@[simp] theorem G66:(E5 v kd w e ro c vt vp).get (7::r)=(vp).get r:=by simp [E5]
@[simp] theorem G67:(E5 v kd w e ro c vt vp).put [0] (u32 v')=some (E5 v' kd w e ro c vt vp):=by simp [E5]
@[simp] theorem G68:(E5 v kd w e ro c vt vp).put [5] x=some (E5 v kd w e ro c x vp):=by simp [E5]
@[simp] theorem G69:(E5 v kd w e ro c vt vp).put [7] x=some (E5 v kd w e ro c vt x):=by simp [E5]
end
section
variable (r:List Nat)
variable (c:Ci) (z:Seat) (i:Inv) (q:Ask) (b:Ban) (k:Acc)
@[simp] theorem G8S:(eCi c).get (0::r)=(pt c.e).get r:=by simp [eCi]
@[simp] theorem G6L:(B0 z).get (0::r)=(eCi z.who).get r:=by simp [B0]
@[simp] theorem G6M:(B0 z).get (1::r)=(u8 z.role).get r:=by simp [B0]
@[simp] theorem G6N:(B0 z).get (2::r)=(u32 z.joined).get r:=by simp [B0]
@[simp] theorem G7A:(B7 i).get (0::r)=(eCi i.who).get r:=by simp [B7]
@[simp] theorem G7B:(B7 i).get (1::r)=(u8 i.role).get r:=by simp [B7]
@[simp] theorem G7C:(B7 i).get (2::r)=(eCi i.by_).get r:=by simp [B7]
@[simp] theorem G7D:(B9 q).get (0::r)=(eCi q.who).get r:=by simp [B9]
@[simp] theorem G7E:(B9 q).get (1::r)=(u32 q.at_).get r:=by simp [B9]
@[simp] theorem G7F:(B2 b).get (0::r)=(eCi b.who).get r:=by simp [B2]
@[simp] theorem G7G:(B2 b).get (1::r)=(eCi b.by_).get r:=by simp [B2]
@[simp] theorem G7H:(J8 k).get (0::r)=(u8 k.title).get r:=by simp [J8]
@[simp] theorem G7I:(J8 k).get (1::r)=(u8 k.members).get r:=by simp [J8]
@[simp] theorem G7J:(J8 k).get (2::r)=(u8 k.link).get r:=by simp [J8]
end
section
variable (a b:Pt) (c d:Ci) (r r2 r3:BitVec 8) (j:BitVec 32) (k:Acc) (vt vp vs vi va vb:AV)
@[simp] theorem A47:AV.node [pt a,pt b]=eCi ⟨a,b⟩:=rfl
@[simp] theorem A26:AV.node [eCi c,u8 r,u32 j]=B0 ⟨c,r,j⟩:=rfl
@[simp] theorem D7z:AV.node [eCi c,u8 r,eCi d]=B7 ⟨c,r,d⟩:=rfl
@[simp] theorem D70:AV.node [eCi c,u32 j]=B9 ⟨c,j⟩:=rfl
@[simp] theorem A4l:AV.node [eCi c,eCi d]=B2 ⟨c,d⟩:=rfl
@[simp] theorem G8T (v:BitVec 32):AV.node [u32 v,eCi c,vt,J8 k,vp,vs,vi,va,vb]=C1 v c k vt vp vs vi va vb:=rfl
@[simp] theorem A06 (v:BitVec 32) (kd:BitVec 8) (e:Pt):AV.node [u32 v,u8 kd,eCi c,pt e,u8 r,vt,J8 k,vp]=E5 v kd c e r k vt vp:=rfl
@[simp] theorem F4v:AV.node [u8 r,u8 r2,u8 r3]=J8 ⟨r,r2,r3⟩:=rfl
end
theorem K6 {h l:A3} {b c:Bool} (hb:c=b):∃ t,(C8 [.bool c],h++l)=((.bool b,h++t):AV × A3):=⟨l,by simp [C8,hb]⟩
theorem F9h {h l:A3} {v w:AV} (hb:v=w):∃ t,(C8 [v],h++l)=((w,h++t):AV × A3):=⟨l,by simp [C8,hb]⟩
end Go.Vab

namespace Go.Vas
open Go Go.Vab
def Q6 (P:Program) (t:TypeId):Option (List TypeId):=match P.underlying t with
 | some (.struct fs)=>some (fs.toList.map (·.type))
 | _ => none
variable {P:Program} {tt:Nat→Option TI}
def L4 (P:Program) (tt:Nat→Option TI) (t:TypeId) (T:Ty) {Y:Type} (enc:Y→AV):Prop:=∀ (h:A3) (n:Nat) (a:AV),A4 a T=true→Rd P tt h n t a→∃ y,a=enc y
theorem A02 {t:TypeId} {T:Ty} (hu:P.underlying t=some (.int .u8)):L4 P tt t T u8:=by
 intro h n a _ hr
 cases n with
 | zero=>exact hr.elim
 | succ n =>
  simp only [Rd,hu] at hr
  obtain ⟨x,rfl,hw⟩:=hr
  simp [Lit.wf,IntKind.min,IntKind.max,IntKind.signed,IntKind.bits] at hw
  refine ⟨BitVec.ofInt 8 x,?_⟩
  unfold u8
  rw [BitVec.toNat_ofInt]
  congr 1
  have h2:((2 ^ 8:Nat):Int)=256:=rfl
  omega
theorem B3e {t:TypeId} {T:Ty} (hu:P.underlying t=some (.int .u32)):L4 P tt t T u32:=by
 intro h n a _ hr
 cases n with
 | zero=>exact hr.elim
 | succ n =>
  simp only [Rd,hu] at hr
  obtain ⟨x,rfl,hw⟩:=hr
  simp [Lit.wf,IntKind.min,IntKind.max,IntKind.signed,IntKind.bits] at hw
  refine ⟨BitVec.ofInt 32 x,?_⟩
  unfold u32
  rw [BitVec.toNat_ofInt]
  congr 1
  have h2:((2 ^ 32:Nat):Int)=4294967296:=rfl
  omega
theorem F2S {h:A3} {n m:Nat} {e:TypeId} {v:AV} (hu:P.underlying e=some (.int .u8)) (ht:A4 v (.arr m (.int .u8))=true) (hr:∀ j,j < m→∃ x,v.get [j]=some x∧Rd P tt h n e x):∃ g:Nat→BitVec 8,v=arr m g:=by
 cases v <;> simp [A4] at ht
 rename_i k xs
 obtain ⟨rfl,hl⟩:=ht
 have he:∀ j,j < m→∃ b:BitVec 8,xs[j]?=some (b.toNat:Int):=by
  intro j hj
  obtain ⟨x,hx,hd⟩:=hr j hj
  have hx':=hx
  simp only [AV.get] at hx
  cases hxs:xs[j]? with
  | none=>rw [hxs] at hx;cases hx
  | some y =>
   rw [hxs] at hx
   obtain ⟨b,rfl⟩:=A02 (T:=.int .u8) hu h n (.int .u8 y) (by simp [A4]) (by simp only [Option.some.injEq] at hx;rw [hx];exact hd) |> fun ⟨b,hb⟩=>(⟨b,by simpa [u8] using hb⟩:∃ b:BitVec 8,y=(b.toNat:Int))
   exact ⟨b,rfl⟩
 refine ⟨fun j=>match xs[j]? with|some y=>BitVec.ofInt 8 y|none=>0#8,?_⟩
 unfold Vab.arr Vab.bytes
 congr 1
 apply List.ext_getElem?
 intro j
 rw [List.getElem?_map]
 by_cases hj:j < m
 ·obtain ⟨b,hb⟩:=he j hj
  rw [W7,if_pos hj,hb]
  simp
 ·rw [W7,if_neg hj,List.getElem?_eq_none (by omega)];rfl
theorem F9i {t e:TypeId} {m:Nat} (hu:P.underlying t=some (.array m e)) (he:P.underlying e=some (.int .u8)):L4 P tt t (.arr m (.int .u8)) fun g=>arr m g:=by
 intro h n a ht hr
 cases n with
 | zero=>exact hr.elim
 | succ n =>
  simp only [Rd,hu] at hr
  exact F2S he ht hr
theorem G0g {t e:TypeId} (hu:P.underlying t=some (.array 32 e)) (he:P.underlying e=some (.int .u8)):L4 P tt t (.arr 32 (.int .u8)) pt:=by
 intro h n a ht hr
 obtain ⟨g,rfl⟩:=F9i hu he h n a ht hr
 exact ⟨_,C0b g⟩
theorem rdS {t:TypeId} {us:List TypeId} {h:A3} {n:Nat} {a:AV} (hf:Q6 P t=some us) (hr:Rd P tt h n t a):∃ vs m,a=.node vs∧∀ (f:Nat) u,us[f]?=some u→∃ y,vs[f]?=some y∧Rd P tt h m u y:=by
 cases n with
 | zero=>exact hr.elim
 | succ n =>
  unfold Q6 at hf
  cases hu:P.underlying t with
  | none=>rw [hu] at hf;cases hf
  | some d =>
   rw [hu] at hf
   cases d <;> try (cases hf;done)
   rename_i fs
   simp only [Option.some.injEq] at hf
   subst hf
   unfold Rd at hr
   rw [hu] at hr
   obtain ⟨vs,h1,h2⟩:=hr
   refine ⟨vs,n,h1,fun f u hfu=>?_⟩
   rw [List.getElem?_map] at hfu
   cases hx:fs[f]? with
   | none=>rw [Array.getElem?_toList,hx] at hfu;cases hfu
   | some x =>
    rw [Array.getElem?_toList,hx] at hfu
    simp only [Option.map_some,Option.some.injEq] at hfu
    subst hfu
    exact h2 f x hx
theorem K0 {vs:List AV} {t:Ty} {ts:List Ty} (h:C0 vs (t::ts)=true):∃ v us,vs=v::us∧A4 v t=true∧C0 us ts=true:=by
 cases vs with
 | nil=>simp [C0] at h
 | cons v us =>
  simp only [C0,Bool.and_eq_true] at h
  exact ⟨v,us,rfl,h.1,h.2⟩
theorem A0b {vs:List AV} (h:C0 vs []=true):vs=[]:=by
 cases vs with
 | nil=>rfl
 | cons v us=>simp [C0] at h
theorem F73 {h:A3} {i ver n m c:Nat} {b:Blk} {f:Nat→BitVec 8} (hb:blkAt h i ver=some b) (hv:b.v=arr m f) (hl:n≤m) (hc:n≤c):Byt h (.slice i ver [] (.int .u8) 0 n (some c)) n f:=by
 refine ⟨?_,rfl,hc,rfl⟩
 rw [a7,hb,G9,i0,G9,hv,A5U,if_pos (by omega)]
 exact congrArg some (A0G fun i _ => by rw [Nat.zero_add])
theorem rdB {t e:TypeId} {h:A3} {n:Nat} {a:AV} (hu:P.underlying t=some (.slice e)) (he:P.underlying e=some (.int .u8)) (hb:P.bytesOf e=1) (hte:∀ el,tt e=some el→el.ty=.int .u8) (hr:Rd P tt h n t a):∃ l,BytL h a l:=by
 cases n with
 | zero=>exact hr.elim
 | succ n =>
  simp only [Rd,hu] at hr
  rcases hr with rfl|⟨i,el,row,mo,len,cap,rfl,h2,h3,h4,h5,h6,hw,h7⟩
  ·exact ⟨[],BytL.nil _⟩
  ·have e1:=hte _ h2
   rw [e1] at h4 ⊢
   obtain ⟨g,rfl⟩:=F2S he h4 h7
   rw [hb] at hw
   unfold reachBytes at hw
   exact ⟨_,BytL.of (F73 (b:=⟨Vab.arr cap g,0,mo.1⟩) (by unfold blkAt;rw [h3];simp [mo.2]) rfl h5 h5) (by omega)⟩
theorem D9a {Y:Type} {enc:Y→AV}:∀ {us:List AV},(∀ x∈us,∃ y,x=enc y)→∃ l:List Y,us=l.map enc
 | [],_ => ⟨[],rfl⟩
 | x::us,h=>by
  obtain ⟨y,rfl⟩:=h x (List.mem_cons_self ..)
  obtain ⟨l,rfl⟩:=D9a (us:=us) fun x hx=>h x (List.mem_cons_of_mem _ hx)
  exact ⟨y::l,rfl⟩
theorem rdR {t e:TypeId} {h:A3} {n:Nat} {a:AV} {T:Ty} {Y:Type} {enc:Y→AV} (hu:P.underlying t=some (.slice e)) (hb:0 < P.bytesOf e) (hte:∀ el,tt e=some el→el.ty=T) (hT:∃ ts,T=.struct ts) (hY:L4 P tt e T enc) (hr:Rd P tt h n t a):∃ l:List Y,Row T h a (l.map enc):=by
 cases n with
 | zero=>exact hr.elim
 | succ n =>
  simp only [Rd,hu] at hr
  rcases hr with rfl|⟨i,el,row,mo,len,cap,rfl,h2,h3,h4,h5,h6,hw,h7⟩
  ·obtain ⟨ts,rfl⟩:=hT
   exact ⟨[],by simp [C7],rfl,by simp⟩
  ·have e1:=hte _ h2
   rw [e1] at h4 ⊢
   obtain ⟨ts,rfl⟩:=hT
   have hrow:∃ us,row=.node us∧us.length=cap∧∀ x∈us,A4 x (.struct ts)=true:=by
    cases row <;> simp only [A4,Bool.false_eq_true] at h4
    rename_i us
    simp only [Bool.and_eq_true,decide_eq_true_eq,Q7] at h4
    exact ⟨us,rfl,h4.1,h4.2⟩
   obtain ⟨us,rfl,hl,hty⟩:=hrow
   have hall:∀ x∈us.take len,∃ y,x=enc y:=by
    intro x hx
    have hx2:=List.mem_of_mem_take hx
    obtain ⟨j,hj⟩:=List.getElem?_of_mem hx2
    have hlt:=(List.getElem?_eq_some_iff.1 hj).1
    obtain ⟨y,hy,hd⟩:=h7 j (by omega)
    simp only [A1C,hj] at hy
    simp at hy
    subst hy
    exact hY h n x (hty x hx2) hd
   obtain ⟨l,hml⟩:=D9a hall
   refine ⟨l,?_⟩
   rw [←hml]
   have hlen:(us.take len).length=len:=by rw [List.length_take];omega
   refine ⟨?_,?_,?_⟩
   ·rw [M6]
    have:blkAt h i 0=some ⟨.node us,0,mo.1⟩:=by unfold blkAt;rw [h3];simp [mo.2]
    rw [this,G9,i0,G9]
    simp only [AV.cut,Nat.zero_add]
    rw [if_pos (by omega),List.drop_zero]
   ·rw [hlen];exact ⟨rfl,h5,rfl⟩
   ·rw [hlen]
    have:len * 1≤len * P.bytesOf e:=Nat.mul_le_mul_left _ hb
    unfold reachBytes at hw
    omega
theorem F2T {t p:TypeId} (hf:Q6 P t=some [p,p]) (hp:L4 P tt p (.arr 32 (.int .u8)) pt):L4 P tt t C3 eCi:=by
 intro h n a ht hr
 obtain ⟨vs,m,rfl,hv⟩:=rdS hf hr
 obtain ⟨x0,vs,rfl,t0,ht⟩:=K0 (by simpa using ht)
 obtain ⟨x1,vs,rfl,t1,ht⟩:=K0 ht
 obtain rfl:=A0b ht
 obtain ⟨_,e0,r0⟩:=hv 0 _ rfl
 obtain ⟨_,e1,r1⟩:=hv 1 _ rfl
 cases e0;cases e1
 obtain ⟨y0,rfl⟩:=hp _ _ _ t0 r0
 obtain ⟨y1,rfl⟩:=hp _ _ _ t1 r1
 exact ⟨⟨y0,y1⟩,rfl⟩
theorem F9j {t b c:TypeId} (hf:Q6 P t=some [b,b,c]) (hb:P.underlying b=some (.int .u8)) (hc:P.underlying c=some (.int .u8)):L4 P tt t F7 J8:=by
 intro h n a ht hr
 obtain ⟨vs,m,rfl,hv⟩:=rdS hf hr
 obtain ⟨x0,vs,rfl,t0,ht⟩:=K0 (by simpa using ht)
 obtain ⟨x1,vs,rfl,t1,ht⟩:=K0 ht
 obtain ⟨x2,vs,rfl,t2,ht⟩:=K0 ht
 obtain rfl:=A0b ht
 obtain ⟨_,e0,r0⟩:=hv 0 _ rfl
 obtain ⟨_,e1,r1⟩:=hv 1 _ rfl
 obtain ⟨_,e2,r2⟩:=hv 2 _ rfl
 cases e0;cases e1;cases e2
 obtain ⟨y0,rfl⟩:=A02 hb _ _ _ t0 r0
 obtain ⟨y1,rfl⟩:=A02 hb _ _ _ t1 r1
 obtain ⟨y2,rfl⟩:=A02 hc _ _ _ t2 r2
 exact ⟨⟨y0,y1,y2⟩,rfl⟩
theorem F8r {t c r w:TypeId} (hf:Q6 P t=some [c,r,w]) (hc:L4 P tt c C3 eCi) (hr':P.underlying r=some (.int .u8)) (hw:P.underlying w=some (.int .u32)):L4 P tt t A7 B0:=by
 intro h n a ht hr
 obtain ⟨vs,m,rfl,hv⟩:=rdS hf hr
 obtain ⟨x0,vs,rfl,t0,ht⟩:=K0 (by simpa using ht)
 obtain ⟨x1,vs,rfl,t1,ht⟩:=K0 ht
 obtain ⟨x2,vs,rfl,t2,ht⟩:=K0 ht
 obtain rfl:=A0b ht
 obtain ⟨_,e0,r0⟩:=hv 0 _ rfl
 obtain ⟨_,e1,r1⟩:=hv 1 _ rfl
 obtain ⟨_,e2,r2⟩:=hv 2 _ rfl
 cases e0;cases e1;cases e2
 obtain ⟨y0,rfl⟩:=hc _ _ _ t0 r0
 obtain ⟨y1,rfl⟩:=A02 hr' _ _ _ t1 r1
 obtain ⟨y2,rfl⟩:=B3e hw _ _ _ t2 r2
 exact ⟨⟨y0,y1,y2⟩,rfl⟩
theorem F9k {t c r:TypeId} (hf:Q6 P t=some [c,r,c]) (hc:L4 P tt c C3 eCi) (hr':P.underlying r=some (.int .u8)):L4 P tt t B1 B7:=by
 intro h n a ht hr
 obtain ⟨vs,m,rfl,hv⟩:=rdS hf hr
 obtain ⟨x0,vs,rfl,t0,ht⟩:=K0 (by simpa using ht)
 obtain ⟨x1,vs,rfl,t1,ht⟩:=K0 ht
 obtain ⟨x2,vs,rfl,t2,ht⟩:=K0 ht
 obtain rfl:=A0b ht
 obtain ⟨_,e0,r0⟩:=hv 0 _ rfl
 obtain ⟨_,e1,r1⟩:=hv 1 _ rfl
 obtain ⟨_,e2,r2⟩:=hv 2 _ rfl
 cases e0;cases e1;cases e2
 obtain ⟨y0,rfl⟩:=hc _ _ _ t0 r0
 obtain ⟨y1,rfl⟩:=A02 hr' _ _ _ t1 r1
 obtain ⟨y2,rfl⟩:=hc _ _ _ t2 r2
 exact ⟨⟨y0,y1,y2⟩,rfl⟩
theorem F9l {t c w:TypeId} (hf:Q6 P t=some [c,w]) (hc:L4 P tt c C3 eCi) (hw:P.underlying w=some (.int .u32)):L4 P tt t B5 B9:=by
 intro h n a ht hr
 obtain ⟨vs,m,rfl,hv⟩:=rdS hf hr
 obtain ⟨x0,vs,rfl,t0,ht⟩:=K0 (by simpa using ht)
 obtain ⟨x1,vs,rfl,t1,ht⟩:=K0 ht
 obtain rfl:=A0b ht
 obtain ⟨_,e0,r0⟩:=hv 0 _ rfl
 obtain ⟨_,e1,r1⟩:=hv 1 _ rfl
 cases e0;cases e1
 obtain ⟨y0,rfl⟩:=hc _ _ _ t0 r0
 obtain ⟨y1,rfl⟩:=B3e hw _ _ _ t1 r1
 exact ⟨⟨y0,y1⟩,rfl⟩
theorem F9m {t c:TypeId} (hf:Q6 P t=some [c,c]) (hc:L4 P tt c C3 eCi):L4 P tt t B4 B2:=by
 intro h n a ht hr
 obtain ⟨vs,m,rfl,hv⟩:=rdS hf hr
 obtain ⟨x0,vs,rfl,t0,ht⟩:=K0 (by simpa using ht)
 obtain ⟨x1,vs,rfl,t1,ht⟩:=K0 ht
 obtain rfl:=A0b ht
 obtain ⟨_,e0,r0⟩:=hv 0 _ rfl
 obtain ⟨_,e1,r1⟩:=hv 1 _ rfl
 cases e0;cases e1
 obtain ⟨y0,rfl⟩:=hc _ _ _ t0 r0
 obtain ⟨y1,rfl⟩:=hc _ _ _ t1 r1
 exact ⟨⟨y0,y1⟩,rfl⟩
def C0c (P:Program) (tt:Nat→Option TI) (t:TypeId):Prop:=∀ (h:A3) (n:Nat) (a:AV),Rd P tt h n t a→∃ l,BytL h a l
def A0m (P:Program) (tt:Nat→Option TI) (t:TypeId) (T:Ty) {Y:Type} (enc:Y→AV):Prop:=∀ (h:A3) (n:Nat) (a:AV),Rd P tt h n t a→∃ l:List Y,Row T h a (l.map enc)
theorem F74 {t w k b c s i q d : TypeId} (hf : Q6 P t = some [w, k, b, c, b, s, i, q, d]) (hw : P.underlying w = some (.int .u32)) (hk : L4 P tt k C3 eCi) (hb : C0c P tt b) (hc : L4 P tt c F7 J8)
  (hs:A0m P tt s A7 B0) (hi:A0m P tt i B1 B7) (hq:A0m P tt q B5 B9) (hd:A0m P tt d B4 B2) {h:A3} {n:Nat} {a:AV} (ht:A4 a A6=true) (hr:Rd P tt h n t a) :
  ∃ (x:Stt) (vt vp vs vi va vb:AV),a=eSt x vt vp vs vi va vb∧StR h x vt vp vs vi va vb:=by
 obtain ⟨vs,m,rfl,hv⟩:=rdS hf hr
 obtain ⟨x0,vs,rfl,t0,ht⟩:=K0 (by simpa using ht)
 obtain ⟨x1,vs,rfl,t1,ht⟩:=K0 ht
 obtain ⟨x2,vs,rfl,t2,ht⟩:=K0 ht
 obtain ⟨x3,vs,rfl,t3,ht⟩:=K0 ht
 obtain ⟨x4,vs,rfl,t4,ht⟩:=K0 ht
 obtain ⟨x5,vs,rfl,t5,ht⟩:=K0 ht
 obtain ⟨x6,vs,rfl,t6,ht⟩:=K0 ht
 obtain ⟨x7,vs,rfl,t7,ht⟩:=K0 ht
 obtain ⟨x8,vs,rfl,t8,ht⟩:=K0 ht
 obtain rfl:=A0b ht
 obtain ⟨_,e0,r0⟩:=hv 0 _ rfl
 obtain ⟨_,e1,r1⟩:=hv 1 _ rfl
 obtain ⟨_,e2,r2⟩:=hv 2 _ rfl
 obtain ⟨_,e3,r3⟩:=hv 3 _ rfl
 obtain ⟨_,e4,r4⟩:=hv 4 _ rfl
 obtain ⟨_,e5,r5⟩:=hv 5 _ rfl
 obtain ⟨_,e6,r6⟩:=hv 6 _ rfl
 obtain ⟨_,e7,r7⟩:=hv 7 _ rfl
 obtain ⟨_,e8,r8⟩:=hv 8 _ rfl
 cases e0;cases e1;cases e2;cases e3;cases e4;cases e5;cases e6;cases e7;cases e8
 obtain ⟨y0,rfl⟩:=B3e hw _ _ _ t0 r0
 obtain ⟨y1,rfl⟩:=hk _ _ _ t1 r1
 obtain ⟨y2,h2⟩:=hb _ _ _ r2
 obtain ⟨y3,rfl⟩:=hc _ _ _ t3 r3
 obtain ⟨y4,h4⟩:=hb _ _ _ r4
 obtain ⟨y5,h5⟩:=hs _ _ _ r5
 obtain ⟨y6,h6⟩:=hi _ _ _ r6
 obtain ⟨y7,h7⟩:=hq _ _ _ r7
 obtain ⟨y8,h8⟩:=hd _ _ _ r8
 exact ⟨⟨y0,y1,y2,y3,y4,y5,y6,y7,y8⟩,x2,x4,x5,x6,x7,x8,rfl,⟨h2,h4,h5,h6,h7,h8⟩⟩
theorem F6G {t w k u p r b c : TypeId} (hf : Q6 P t = some [w, k, u, p, r, b, c, b]) (hw : P.underlying w = some (.int .u32)) (hk : P.underlying k = some (.int .u8)) (hu : L4 P tt u C3 eCi) (hp : L4 P tt p (.arr 32 (.int .u8)) pt)
  (hr':P.underlying r=some (.int .u8)) (hb:C0c P tt b) (hc:L4 P tt c F7 J8) {h:A3} {n:Nat} {a:AV} (ht:A4 a D5=true) (hr:Rd P tt h n t a) :
  ∃ (x:Actn) (vt vp:AV),a=C5 x vt vp∧ActR h x vt vp:=by
 obtain ⟨vs,m,rfl,hv⟩:=rdS hf hr
 obtain ⟨x0,vs,rfl,t0,ht⟩:=K0 (by simpa using ht)
 obtain ⟨x1,vs,rfl,t1,ht⟩:=K0 ht
 obtain ⟨x2,vs,rfl,t2,ht⟩:=K0 ht
 obtain ⟨x3,vs,rfl,t3,ht⟩:=K0 ht
 obtain ⟨x4,vs,rfl,t4,ht⟩:=K0 ht
 obtain ⟨x5,vs,rfl,t5,ht⟩:=K0 ht
 obtain ⟨x6,vs,rfl,t6,ht⟩:=K0 ht
 obtain ⟨x7,vs,rfl,t7,ht⟩:=K0 ht
 obtain rfl:=A0b ht
 obtain ⟨_,e0,r0⟩:=hv 0 _ rfl
 obtain ⟨_,e1,r1⟩:=hv 1 _ rfl
 obtain ⟨_,e2,r2⟩:=hv 2 _ rfl
 obtain ⟨_,e3,r3⟩:=hv 3 _ rfl
 obtain ⟨_,e4,r4⟩:=hv 4 _ rfl
 obtain ⟨_,e5,r5⟩:=hv 5 _ rfl
 obtain ⟨_,e6,r6⟩:=hv 6 _ rfl
 obtain ⟨_,e7,r7⟩:=hv 7 _ rfl
 cases e0;cases e1;cases e2;cases e3;cases e4;cases e5;cases e6;cases e7
 obtain ⟨y0,rfl⟩:=B3e hw _ _ _ t0 r0
 obtain ⟨y1,rfl⟩:=A02 hk _ _ _ t1 r1
 obtain ⟨y2,rfl⟩:=hu _ _ _ t2 r2
 obtain ⟨y3,rfl⟩:=hp _ _ _ t3 r3
 obtain ⟨y4,rfl⟩:=A02 hr' _ _ _ t4 r4
 obtain ⟨y5,h5⟩:=hb _ _ _ r5
 obtain ⟨y6,rfl⟩:=hc _ _ _ t6 r6
 obtain ⟨y7,h7⟩:=hb _ _ _ r7
 exact ⟨⟨y0,y1,y2,y3,y4,y5,y6,y7⟩,x5,x7,rfl,⟨h5,h7⟩⟩
end Go.Vas

namespace Go.Vab
open Go Go.Proofs
def ttl:List (Nat × TI):=[
 (3,⟨(.int .i64),8,(nat 0),none,some .i64,false,none,false⟩),
 (4,⟨.cell,1,(.bool false),none,none,false,none,true⟩),
 (5,⟨(.int .u8),1,(u8 0#8),none,some .u8,false,none,false⟩),
 (9,⟨.cell,16,(.str .empty),none,none,true,none,false⟩),
 (22,⟨(.int .u32),4,(u32 0#32),none,some .u32,false,none,false⟩),
 (24,⟨(.arr 32 (.int .u8)),32,(arr 32 fun _ => 0#8),none,none,false,none,false⟩),
 (26,⟨N6,64,(.node [(arr 32 fun _ => 0#8),(arr 32 fun _ => 0#8)]),none,none,false,none,false⟩),
 (27,⟨.cell,24,.nilslice,some 5,none,false,none,false⟩),
 (28,⟨(.int .u8),1,(u8 0#8),none,some .u8,false,none,false⟩),
 (29,⟨(.int .u8),1,(u8 0#8),none,some .u8,false,none,false⟩),
 (31,⟨F7,3,(.node [(u8 0#8),(u8 0#8),(u8 0#8)]),none,none,false,none,false⟩),
 (32,⟨.cell,24,.nilslice,some 73,none,false,none,false⟩),
 (33,⟨.cell,24,.nilslice,some 82,none,false,none,false⟩),
 (34,⟨.cell,24,.nilslice,some 84,none,false,none,false⟩),
 (35,⟨.cell,24,.nilslice,some 86,none,false,none,false⟩),
 (37,⟨A6,224,(.node [(u32 0#32),(.node [(arr 32 fun _ => 0#8),(arr 32 fun _ => 0#8)]),.nilslice,(.node [(u8 0#8),(u8 0#8),(u8 0#8)]),.nilslice,.nilslice,.nilslice,.nilslice,.nilslice]),none,none,false,none,false⟩),
 (38,⟨(.int .u8),1,(u8 0#8),none,some .u8,false,none,false⟩),
 (40,⟨C3,64,(.node [(arr 32 fun _ => 0#8),(arr 32 fun _ => 0#8)]),none,none,false,none,false⟩),
 (42,⟨D5,160,(.node [(u32 0#32),(u8 0#8),(.node [(arr 32 fun _ => 0#8),(arr 32 fun _ => 0#8)]),(arr 32 fun _ => 0#8),(u8 0#8),.nilslice,(.node [(u8 0#8),(u8 0#8),(u8 0#8)]),.nilslice]),none,none,false,none,false⟩),
 (47,⟨(.int .i64),8,(nat 0),none,some .i64,false,none,false⟩),
 (57,⟨.cell,24,.nilslice,some 61,none,false,none,false⟩),
 (61,⟨j8,192,(.node [(arr 32 fun _ => 0#8),(.node [(u32 0#32),(u8 0#8),(.node [(arr 32 fun _ => 0#8),(arr 32 fun _ => 0#8)]),(arr 32 fun _ => 0#8),(u8 0#8),.nilslice,(.node [(u8 0#8),(u8 0#8),(u8 0#8)]),.nilslice])]),none,none,false,none,false⟩),
 (63,⟨.cell,24,.nilslice,some 40,none,false,none,false⟩),
 (65,⟨(.int .u64),8,(u64 0#64),none,some .u64,false,none,false⟩),
 (69,⟨(.int .u64),8,(u64 0#64),none,some .u64,false,none,false⟩),
 (73,⟨A7,72,(.node [(.node [(arr 32 fun _ => 0#8),(arr 32 fun _ => 0#8)]),(u8 0#8),(u32 0#32)]),none,none,false,none,false⟩),
 (77,⟨.cell,8,.nilptr,none,none,false,some 37,false⟩),
 (79,⟨G6,208,(.node [.nilptr,(arr 32 fun _ => 0#8),(.node [(u32 0#32),(u8 0#8),(.node [(arr 32 fun _ => 0#8),(arr 32 fun _ => 0#8)]),(arr 32 fun _ => 0#8),(u8 0#8),.nilslice,(.node [(u8 0#8),(u8 0#8),(u8 0#8)]),.nilslice]),(u8 0#8)]),none,none,false,none,false⟩),
 (82,⟨B1,129,(.node [(.node [(arr 32 fun _ => 0#8),(arr 32 fun _ => 0#8)]),(u8 0#8),(.node [(arr 32 fun _ => 0#8),(arr 32 fun _ => 0#8)])]),none,none,false,none,false⟩),
 (84,⟨B5,68,(.node [(.node [(arr 32 fun _ => 0#8),(arr 32 fun _ => 0#8)]),(u32 0#32)]),none,none,false,none,false⟩),
 (86,⟨B4,128,(.node [(.node [(arr 32 fun _ => 0#8),(arr 32 fun _ => 0#8)]),(.node [(arr 32 fun _ => 0#8),(arr 32 fun _ => 0#8)])]),none,none,false,none,false⟩),
 (106,⟨I5,6,(.node [(.bool false),(.bool false),(.bool false),(.bool false),(.bool false),(.bool false)]),none,none,false,none,false⟩),
 (112,⟨.cell,8,.nilptr,none,none,false,some 32,false⟩),
 (113,⟨.cell,8,.nilfn,none,none,false,none,false⟩),
 (115,⟨K9,16,(.node [.nilptr,.nilfn]),none,none,false,none,false⟩),
 (117,⟨.cell,8,.nilptr,none,none,false,some 33,false⟩),
 (118,⟨.cell,8,.nilfn,none,none,false,none,false⟩),
 (120,⟨K8,16,(.node [.nilptr,.nilfn]),none,none,false,none,false⟩),
 (122,⟨.cell,8,.nilptr,none,none,false,some 34,false⟩),
 (123,⟨.cell,8,.nilfn,none,none,false,none,false⟩),
 (125,⟨L0,16,(.node [.nilptr,.nilfn]),none,none,false,none,false⟩),
 (154,⟨.cell,8,.nilptr,none,none,false,some 35,false⟩),
 (155,⟨.cell,8,.nilfn,none,none,false,none,false⟩),
 (157,⟨M7,16,(.node [.nilptr,.nilfn]),none,none,false,none,false⟩)]
def TT:Nat→Option TI:=V8 ttl
theorem Z8:TTok Tryz.prog TT:=F8o (by kernel_rfl)
theorem A1z:Tryz.prog.follows .mixedOrders=true:=by kernel_rfl
end Go.Vab

namespace Go.Vas
open Go Go.Vab Go.Proofs
theorem ownV:ownKnob Tryz.prog.godebug=none:=by kernel_rfl
theorem laidV:laidOutB Tryz.prog=true:=by kernel_rfl
def okV:List TypeId:=[5,22,24,26,27,28,29,31,32,33,34,35,37,38,40,42,73,82,84,86]
theorem plainV:A0l Tryz.prog TT okV=true:=by kernel_rfl
theorem boolV:Tryz.prog.underlying 4=some .bool:=by kernel_rfl
theorem A1a {t:Nat} {i:TI} {u:Ty} (h:(match TT t with|some j=>Ty.beq j.ty u|none=>false)=true) (hti:TT t=some i):i.ty=u:=by
 rw [hti] at h
 exact Ty.beq_eq _ _ h
theorem E2O:Tryz.prog.underlying 5=some (.int .u8):=by kernel_rfl
theorem A48:Tryz.prog.underlying 28=some (.int .u8):=by kernel_rfl
theorem F6H:Tryz.prog.underlying 29=some (.int .u8):=by kernel_rfl
theorem F6I:Tryz.prog.underlying 38=some (.int .u8):=by kernel_rfl
theorem A5Y:Tryz.prog.underlying 22=some (.int .u32):=by kernel_rfl
theorem F8s:Tryz.prog.underlying 24=some (.array 32 5):=by kernel_rfl
theorem F8t:Tryz.prog.underlying 27=some (.slice 5):=by kernel_rfl
theorem F4w:Tryz.prog.underlying 32=some (.slice 73):=by kernel_rfl
theorem F36:Tryz.prog.underlying 33=some (.slice 82):=by kernel_rfl
theorem F6J:Tryz.prog.underlying 34=some (.slice 84):=by kernel_rfl
theorem F6K:Tryz.prog.underlying 35=some (.slice 86):=by kernel_rfl
theorem F8u:Q6 Tryz.prog 26=some [24,24]:=by kernel_rfl
theorem F9n:Q6 Tryz.prog 40=some [24,24]:=by kernel_rfl
theorem F8v:Q6 Tryz.prog 31=some [28,28,29]:=by kernel_rfl
theorem F75:Q6 Tryz.prog 73=some [40,28,22]:=by kernel_rfl
theorem F8w:Q6 Tryz.prog 82=some [40,28,40]:=by kernel_rfl
theorem F8x:Q6 Tryz.prog 84=some [40,22]:=by kernel_rfl
theorem F8y:Q6 Tryz.prog 86=some [40,40]:=by kernel_rfl
theorem F9o:Q6 Tryz.prog 37=some [22,26,27,31,27,32,33,34,35]:=by kernel_rfl
theorem F8z:Q6 Tryz.prog 42=some [22,38,40,24,28,27,31,27]:=by kernel_rfl
theorem rd_pt:L4 Tryz.prog TT 24 (.arr 32 (.int .u8)) pt:=G0g F8s E2O
theorem F80:L4 Tryz.prog TT 26 C3 eCi:=F2T F8u rd_pt
theorem A4D:L4 Tryz.prog TT 40 C3 eCi:=F2T F9n rd_pt
theorem E2P:L4 Tryz.prog TT 31 F7 J8:=F9j F8v A48 F6H
theorem E9n:C0c Tryz.prog TT 27:=fun _ _ _ hr=>rdB F8t E2O (by kernel_rfl) (fun _ h=>A1a (by kernel_rfl) h) hr
theorem F76:L4 Tryz.prog TT 73 A7 B0:=F8r F75 A4D A48 A5Y
theorem F81:L4 Tryz.prog TT 82 B1 B7:=F9k F8w A4D A48
theorem F82:L4 Tryz.prog TT 84 B5 B9:=F9l F8x A4D A5Y
theorem F83:L4 Tryz.prog TT 86 B4 B2:=F9m F8y A4D
theorem F6L:A0m Tryz.prog TT 32 A7 B0:=fun _ _ _ hr=>rdR F4w (of_decide_eq_true (by kernel_rfl)) (fun _ h=>A1a (by kernel_rfl) h) ⟨_,s8⟩ F76 hr
theorem F4Q:A0m Tryz.prog TT 33 B1 B7:=fun _ _ _ hr=>rdR F36 (of_decide_eq_true (by kernel_rfl)) (fun _ h=>A1a (by kernel_rfl) h) ⟨_,a9⟩ F81 hr
theorem F77:A0m Tryz.prog TT 34 B5 B9:=fun _ _ _ hr=>rdR F6J (of_decide_eq_true (by kernel_rfl)) (fun _ h=>A1a (by kernel_rfl) h) ⟨_,i9⟩ F82 hr
theorem F78:A0m Tryz.prog TT 35 B4 B2:=fun _ _ _ hr=>rdR F6K (of_decide_eq_true (by kernel_rfl)) (fun _ h=>A1a (by kernel_rfl) h) ⟨_,j0⟩ F83 hr
theorem rd_st {h:A3} {n:Nat} {i:TI} {a:AV} (hti:TT 37=some i) (ht:A4 a i.ty=true) (hr:Rd Tryz.prog TT h n 37 a):∃ (x:Stt) (vt vp vs vi va vb:AV),a=eSt x vt vp vs vi va vb∧StR h x vt vp vs vi va vb :=
 F74 F9o A5Y F80 E9n E2P F6L F4Q F77 F78 (by rw [A1a (by kernel_rfl) hti] at ht;exact ht) hr
theorem rd_act {h:A3} {n:Nat} {i:TI} {a:AV} (hti:TT 42=some i) (ht:A4 a i.ty=true) (hr:Rd Tryz.prog TT h n 42 a):∃ (x:Actn) (vt vp:AV),a=C5 x vt vp∧ActR h x vt vp :=
 F6G F8z A5Y F6I A4D rd_pt A48 E9n E2P (by rw [A1a (by kernel_rfl) hti] at ht;exact ht) hr
end Go.Vas

namespace Go.Vab
structure Hd (X:Prop):Prop where
 get:X
end Go.Vab

namespace Go.Vab
def snB:=aI @J7 (aI @J4 (aI @I3 (aI @J3 (aI @I2 (aI @J2 (aI @J1 (aI @J5 @J6)))))))
theorem stp {G X:Prop} (f:Hd X→G:=by
 intro yX
 first
  | ((with_reducible refine I6 (a:=?_) ?_ ?_);rotate_left;(focus ((conv=>lhs;simp (disch:=omega) [ff]);done));try dsimp only)
  | ((with_reducible refine S6 ?_ ?_);(focus (simp (disch:=omega) [ff];done)))
  | ((with_reducible refine T4 ?_ ?_);(focus (simp (disch:=omega) [ff];done));try dsimp only)
  | ((with_reducible refine T5 ?_ ?_);(focus (simp (disch:=omega) [ff];done));try dsimp only)
  | ((with_reducible refine V3 ?_ ?_);(focus (simp (disch:=omega) [ff] <;> omega)))
  | ((with_reducible refine V4 ?_ ?_);(focus (simp (disch:=omega) [ff] <;> omega)))
  | ((with_reducible refine B6 ?_ ?_);(focus (simp (disch:=omega) [ff];done)))
  | (with_reducible refine W0 ?_)
  | ((with_reducible refine o9 ?_ ?_);(focus (simp (disch:=omega) [ff];done));try dsimp only)
  | ((with_reducible refine s5 ?_ ?_);(focus (simp (disch:=omega) [ff];done));try dsimp only)
  | ((with_reducible refine s6 ?_ ?_);(focus (simp (disch:=omega) [ff];done));try dsimp only)
  | ((with_reducible refine S3 (args':=?_) ?_ ?_);rotate_left;(focus ((conv=>lhs;simp (disch:=omega) [ff]);done)))
  | ((with_reducible refine v7 (args':=?_) ?_ ?_);rotate_left;(focus ((conv=>lhs;simp (disch:=omega) [ff]);done)))
  | ((with_reducible refine A0L (args':=?_) ?_ ?_);rotate_left;(focus ((conv=>lhs;simp (disch:=omega) [ff]);done)))
  | ((with_reducible refine E9m (g:=?_) (caps:=?_) ?_ ?_);rotate_left;rotate_left;(focus ((conv=>lhs;simp (disch:=omega) [ff]);done)))
  | ((with_reducible refine s7 (g:=?_) (caps:=?_) ?_ ?_);rotate_left;rotate_left;(focus ((conv=>lhs;simp (disch:=omega) [ff]);done)))
  | ((with_reducible refine A0J (g:=?_) (caps:=?_) ?_ ?_);rotate_left;rotate_left;(focus ((conv=>lhs;simp (disch:=omega) [ff]);done)))
  | ((with_reducible refine Z7 (s':=?_) (x':=?_) ?_ ?_ ?_);rotate_left;rotate_left;(focus ((conv=>lhs;simp (disch:=omega) [ff]);done));(focus ((conv=>lhs;simp (disch:=omega) [ff]);done)))
  | ((with_reducible refine A0M ?_ ?_);(focus (simp (disch:=omega) [ff];done)))
 exact yX.get) (x:X):G:=f ⟨x⟩
theorem G0h {G X:Prop} (f:Hd X→G:=by
 intro yX
 first
  | ((with_reducible refine I6 (a:=?_) ?_ ?_);rotate_left;(focus ((conv=>lhs;simp (disch:=omega));done));try dsimp only)
  | ((with_reducible refine S6 ?_ ?_);(focus (simp (disch:=omega);done)))
  | ((with_reducible refine T4 ?_ ?_);(focus (simp (disch:=omega);done));try dsimp only)
  | ((with_reducible refine T5 ?_ ?_);(focus (simp (disch:=omega);done));try dsimp only)
  | ((with_reducible refine V3 ?_ ?_);(focus (simp (disch:=omega) <;> omega)))
  | ((with_reducible refine V4 ?_ ?_);(focus (simp (disch:=omega) <;> omega)))
  | ((with_reducible refine B6 ?_ ?_);(focus (simp (disch:=omega);done)))
  | (with_reducible refine W0 ?_)
  | ((with_reducible refine o9 ?_ ?_);(focus (simp (disch:=omega);done));try dsimp only)
  | ((with_reducible refine s5 ?_ ?_);(focus (simp (disch:=omega);done));try dsimp only)
  | ((with_reducible refine s6 ?_ ?_);(focus (simp (disch:=omega);done));try dsimp only)
  | ((with_reducible refine S3 (args':=?_) ?_ ?_);rotate_left;(focus ((conv=>lhs;simp (disch:=omega));done)))
  | ((with_reducible refine v7 (args':=?_) ?_ ?_);rotate_left;(focus ((conv=>lhs;simp (disch:=omega));done)))
  | ((with_reducible refine A0L (args':=?_) ?_ ?_);rotate_left;(focus ((conv=>lhs;simp (disch:=omega));done)))
  | ((with_reducible refine E9m (g:=?_) (caps:=?_) ?_ ?_);rotate_left;rotate_left;(focus ((conv=>lhs;simp (disch:=omega));done)))
  | ((with_reducible refine s7 (g:=?_) (caps:=?_) ?_ ?_);rotate_left;rotate_left;(focus ((conv=>lhs;simp (disch:=omega));done)))
  | ((with_reducible refine A0J (g:=?_) (caps:=?_) ?_ ?_);rotate_left;rotate_left;(focus ((conv=>lhs;simp (disch:=omega));done)))
  | ((with_reducible refine Z7 (s':=?_) (x':=?_) ?_ ?_ ?_);rotate_left;rotate_left;(focus ((conv=>lhs;simp (disch:=omega));done));(focus ((conv=>lhs;simp (disch:=omega));done)))
  | ((with_reducible refine A0M ?_ ?_);(focus (simp (disch:=omega);done)))
 exact yX.get) (x:X):G:=f ⟨x⟩
end Go.Vab

namespace Go.Vab
open Go
def RowFrom (m:Nat) (u:A3) (t:Ty) (y:AV) (vs:List AV):Prop:=∀ F l:A3,F.length=m→Row t (F++(u++l)) y vs
def BytFrom (m:Nat) (u:A3) (y:AV) (b:Bs):Prop:=∀ F l:A3,F.length=m→BytL (F++(u++l)) y b
theorem RowFrom.at_ {m:Nat} {u:A3} {t:Ty} {y:AV} {vs:List AV} (h:RowFrom m u t y vs) {F:A3} (hF:F.length=m):Row t (F++u) y vs:=by simpa using h F [] hF
theorem BytFrom.at_ {m:Nat} {u:A3} {y:AV} {b:Bs} (h:BytFrom m u y b) {F:A3} (hF:F.length=m):BytL (F++u) y b:=by simpa using h F [] hF
theorem RowFrom.cell {m:Nat} {u:A3} {t:Ty} {y:AV} {vs:List AV} (h:RowFrom m u t y vs):A4 y .cell=true:=(h (List.replicate m ⟨.undef,0,.own⟩) [] (by simp)).cell
theorem BytFrom.cell {m:Nat} {u:A3} {y:AV} {b:Bs} (h:BytFrom m u y b):A4 y .cell=true:=(h (List.replicate m ⟨.undef,0,.own⟩) [] (by simp)).cell
theorem F3v {F F' u:A3} {k ver:Nat} {b:Blk} (hF:F'.length=F.length) (hk:F.length≤k) (h:blkAt (F++u) k ver=some b) (l:A3):blkAt (F'++(u++l)) k ver=some b:=by
 obtain ⟨k,rfl⟩:∃ j,k=F.length+j:=⟨k - F.length,by omega⟩
 rw [A1n] at h
 rw [←hF,A1n]
 exact L6 h l
theorem B6P {F F' u : A3} {k ver : Nat} {path : List Nat} {t t' : Ty} {off len : Nat} {cap : Option Nat} {r : AV} (hF : F'.length = F.length) (hk : F.length ≤ k) (h : C7 t (.slice k ver path t' off len cap) (F ++ u) = some r) (l : A3) :
  C7 t (.slice k ver path t' off len cap) (F'++(u++l))=some r:=by
 simp only [C7] at h ⊢
 split at h
 ·rename_i hb
  rw [if_pos hb]
  obtain ⟨b,h1,h2⟩:=bnd_eq_some.1 h
  rw [F3v hF hk h1 l,G9]
  exact h2
 ·cases h
@[simp] theorem F37 (vs:List AV):(AV.node vs).rowLen=some vs.length:=rfl
@[simp] theorem G7K (vs us:List AV):(AV.node vs).join (.node us)=some (.node (vs++us)):=rfl
@[simp] theorem A24 (vs:List AV) (off n:Nat):(AV.node vs).cut off n=if off+n≤vs.length then some (.node ((vs.drop off).take n)) else none:=rfl
@[simp] theorem G7L (k:IntKind):(AV.ints k []).cut 0 0=some (.ints k []):=rfl
theorem A4b {vs:List AV} {zero:AV} (hz:∀ m,K1 m zero=.node (List.replicate m zero)) (m:Nat):u0 (.node vs) zero m=some (.node (vs++List.replicate m zero)):=by
 unfold u0;rw [hz];rfl
theorem F4R {t : Ty} {F u : A3} {vs pad : List AV} {c : Nat} (hc : vs.length + pad.length = c) (hb : vs.length ≤ 140737488355328) :
  RowFrom F.length (u++[⟨.node (vs++pad),0,.own⟩]) t (.slice (F++u).length 0 [] t 0 vs.length (some c)) vs:=by
 intro F' l hF
 refine ⟨?_,⟨rfl,by omega,rfl⟩,hb⟩
 rw [M6]
 have:blkAt (F'++(u++[⟨.node (vs++pad),0,.own⟩]++l)) (F++u).length 0=some ⟨.node (vs++pad),0,.own⟩:=by
  rw [List.length_append,←hF,A1n,List.append_assoc,D7Y]
  simp
 rw [this]
 simp
theorem F4S {t : Ty} {bytes : Nat} {zero : AV} {H F u : A3} {x : AV} {vs : List AV} {k : Nat} {K : AV × A3 → Prop} (hH : H = F ++ u) (hz : ∀ m, K1 m zero = .node (List.replicate m zero))
  (hs:C7 t (.slice k 0 [] t 0 0 (some 0)) H=some (.node [])) (hx:Row t H x vs) (hb:vs.length * bytes≤E0) (hb3:bytes≤1000000) (hk:F.length≤k)
  (hK:∀ y e,RowFrom F.length (u++e) t y vs→K (y,F++(u++e))):R4 t bytes zero (.slice k 0 [] t 0 0 (some 0)) x H K:=by
 subst hH
 have hbd:=hx.bound
 refine ⟨.node vs,vs.length,hx.1,rfl,.node [],.node vs,hs,rfl,?_⟩
 by_cases h0:vs.length=0
 ·have hv:vs=[]:=List.eq_nil_of_length_eq_zero h0
  subst hv
  refine .inl ⟨h0,Nat.le_refl _,?_⟩
  have:=hK (.slice k 0 [] t 0 0 (some 0)) [] fun F' l hF=>⟨by simpa using B6P hF hk hs l,⟨rfl,Nat.le_refl _,rfl⟩,by simp⟩
  simpa using this
 ·refine .inr (.inr ⟨by omega,by omega,by simpa using hb,by unfold E0;omega,hb3,fun c row hc hr=>?_⟩)
  rw [A4b hz] at hr
  cases hr
  simp only [Nat.zero_add] at hc ⊢
  have:=hK _ _ (F4R (t:=t) (F:=F) (u:=u) (pad:=List.replicate (c - vs.length) zero) (c:=c) (by simp;omega) hbd)
  rw [List.append_assoc]
  exact this
theorem D71 (l:Bs) (m:Nat):(arr l.length (Bs.g l)).join (.ints .u8 (List.replicate m 0))=some (arr (l.length+m) fun i=>if i < l.length then l.g i else 0#8):=by
 have:(AV.ints .u8 (List.replicate m 0))=arr m fun _ => 0#8:=by
  simp [arr,bytes,List.map_const']
 rw [this,F6F]
theorem D7N {F u : A3} {l : Bs} {c m : Nat} (hc : l.length + m = c) (hb : l.length ≤ 140737488355328) :
  BytFrom F.length (u++[⟨arr (l.length+m) fun i=>if i < l.length then l.g i else 0#8,0,.own⟩]) (.slice (F++u).length 0 [] (.int .u8) 0 l.length (some c)) l:=by
 intro F' e hF
 refine ⟨⟨?_,⟨rfl,by omega,rfl⟩⟩,hb⟩
 rw [a7]
 have:blkAt (F'++(u++[⟨arr (l.length+m) fun i=>if i < l.length then l.g i else 0#8,0,.own⟩]++e)) (F++u).length 0=some ⟨arr (l.length+m) fun i=>if i < l.length then l.g i else 0#8,0,.own⟩:=by
  rw [List.length_append,←hF,A1n,List.append_assoc,D7Y]
  simp
 rw [this]
 simp only [G9,i0,A5U,Nat.zero_add]
 rw [if_pos (by omega)]
 congr 1
 exact A0G fun i hi=>by simp [hi]
theorem F4T {H F u : A3} {x : AV} {l : Bs} {k : Nat} {K : AV × A3 → Prop} (hH : H = F ++ u) (hs : C7 (.int .u8) (.slice k 0 [] (.int .u8) 0 0 (some 0)) H = some (.ints .u8 [])) (hx : BytL H x l) (hk : F.length ≤ k)
  (hK:∀ y e,BytFrom F.length (u++e) y l→K (y,F++(u++e))):R4 (.int .u8) 1 (u8 0#8) (.slice k 0 [] (.int .u8) 0 0 (some 0)) x H K:=by
 subst hH
 have hbd:=hx.bound
 have e0:(AV.ints .u8 []).join (arr l.length (Bs.g l))=some (arr l.length (Bs.g l)):=by simp [AV.join,arr,bytes]
 refine ⟨arr l.length (Bs.g l),l.length,hx.1.1,D7a _ _,.ints .u8 [],_,hs,e0,?_⟩
 by_cases h0:l.length=0
 ·have hv:l=[]:=List.eq_nil_of_length_eq_zero h0
  subst hv
  refine .inl ⟨h0,Nat.le_refl _,?_⟩
  have:=hK (.slice k 0 [] (.int .u8) 0 0 (some 0)) [] fun F' e hF=>⟨⟨by simpa [arr,bytes] using B6P hF hk hs e,⟨rfl,Nat.le_refl _,rfl⟩⟩,by simp⟩
  simpa using this
 ·refine .inr (.inr ⟨by omega,by omega,by unfold E0;omega,by unfold E0;omega,by omega,fun c row hc hr=>?_⟩)
  unfold u0 K1 u8 at hr
  simp only [BitVec.toNat_ofNat,Nat.zero_mod,Int.ofNat_zero,Nat.zero_add] at hr
  have hr2:(arr l.length (Bs.g l)).join (.ints .u8 (List.replicate (c - l.length) 0))=some row:=hr
  rw [D71] at hr2
  cases hr2
  simp only [Nat.zero_add] at hc ⊢
  have:=hK _ _ (D7N (F:=F) (u:=u) (l:=l) (c:=c) (m:=c - l.length) (by omega) hbd)
  rw [List.append_assoc]
  exact this
theorem A7V {t : Ty} {bytes : Nat} {zero : AV} {h u : A3} {A0 A1 A2 : Blk} {x : AV} {vs : List AV} {k : Nat} {K : AV × A3 → Prop} (hz : ∀ m, K1 m zero = .node (List.replicate m zero))
  (hs:C7 t (.slice k 0 [] t 0 0 (some 0)) (h++(A0::A1::A2::u))=some (.node [])) (hx:Row t (h++(A0::A1::A2::u)) x vs) (hb:vs.length * bytes≤E0) (hb3:bytes≤1000000) (hk:h.length+3≤k)
  (hK:∀ y e,RowFrom (h.length+3) (u++e) t y vs→K (y,h++(A0::A1::A2::(u++e)))):R4 t bytes zero (.slice k 0 [] t 0 0 (some 0)) x (h++(A0::A1::A2::u)) K :=
 F4S (F:=h++[A0,A1,A2]) (u:=u) (by simp) hz hs hx hb hb3 (by simpa using hk) fun y e hr=>by
  have:=hK y e (by simpa using hr)
  simpa using this
theorem A7W {h u : A3} {A0 A1 A2 : Blk} {x : AV} {l : Bs} {k : Nat} {K : AV × A3 → Prop}
  (hs:C7 (.int .u8) (.slice k 0 [] (.int .u8) 0 0 (some 0)) (h++(A0::A1::A2::u))=some (.ints .u8 [])) (hx:BytL (h++(A0::A1::A2::u)) x l) (hk:h.length+3≤k)
  (hK:∀ y e,BytFrom (h.length+3) (u++e) y l→K (y,h++(A0::A1::A2::(u++e)))):R4 (.int .u8) 1 (u8 0#8) (.slice k 0 [] (.int .u8) 0 0 (some 0)) x (h++(A0::A1::A2::u)) K :=
 F4T (F:=h++[A0,A1,A2]) (u:=u) (by simp) hs hx (by simpa using hk) fun y e hr=>by
  have:=hK y e (by simpa using hr)
  simpa using this
@[simp] theorem G7M (h:A3):P3 (.int .u8) (u8 0#8) 0 [] h=some (.slice h.length 0 [] (.int .u8) 0 0 (some 0),h++[⟨.ints .u8 [],0,.own⟩]):=by
 simp [P3,G4,K1,u8,A4]
section
variable (h:A3) (z x:Seat) (z2 x2:Inv) (z3 x3:Ask) (z4 x4:Ban)
@[simp] theorem G5z:P3 A7 (B0 z) 0 [] h=some (.slice h.length 0 [] A7 0 0 (some 0),h++[⟨.node [],0,.own⟩]):=rfl
@[simp] theorem G6O:P3 B1 (B7 z2) 0 [] h=some (.slice h.length 0 [] B1 0 0 (some 0),h++[⟨.node [],0,.own⟩]):=rfl
@[simp] theorem G6P:P3 B5 (B9 z3) 0 [] h=some (.slice h.length 0 [] B5 0 0 (some 0),h++[⟨.node [],0,.own⟩]):=rfl
@[simp] theorem G6Q:P3 B4 (B2 z4) 0 [] h=some (.slice h.length 0 [] B4 0 0 (some 0),h++[⟨.node [],0,.own⟩]):=rfl
end
end Go.Vab

namespace Go.Vab
open Go
def roleOk (r:BitVec 8):Bool:=decide (r=1#8)||decide (r=2#8)
def accOk (a:Acc):Bool:=roleOk a.title&&roleOk a.members&&decide (a.link≤2#8)
def hW (k:BitVec 8):Bool:=decide (k=1#8)||decide (k=5#8)||decide (k=9#8)||decide (k=10#8)
def hE (k:BitVec 8):Bool:=decide (k=3#8)||decide (k=12#8)||decide (k=2#8)||decide (k=6#8)||decide (k=13#8)||decide (k=14#8)||decide (k=15#8)
def hR (k:BitVec 8):Bool:=decide (k=1#8)||decide (k=5#8)||decide (k=3#8)||decide (k=12#8)
def hT (k:BitVec 8):Bool:=decide (k=16#8)
def hA (k:BitVec 8):Bool:=decide (k=17#8)
def hP (k:BitVec 8):Bool:=decide (k=9#8)||decide (k=10#8)||decide (k=18#8)
def J0 (w e r t a p:Bool):AV:=.node [.bool w,.bool e,.bool r,.bool t,.bool a,.bool p]
def S7 (k:BitVec 8):AV:=J0 (hW k) (hE k) (hR k) (hT k) (hA k) (hP k)
section
variable (w e r t a p x:Bool) (q:List Nat)
@[simp] theorem G6R:A4 (J0 w e r t a p) I5=true:=by simp [J0]
@[simp] theorem G7N:(J0 w e r t a p).get (0::q)=(AV.bool w).get q:=by simp [J0]
@[simp] theorem G7O:(J0 w e r t a p).get (1::q)=(AV.bool e).get q:=by simp [J0]
@[simp] theorem G7P:(J0 w e r t a p).get (2::q)=(AV.bool r).get q:=by simp [J0]
@[simp] theorem G7Q:(J0 w e r t a p).get (3::q)=(AV.bool t).get q:=by simp [J0]
@[simp] theorem G7R:(J0 w e r t a p).get (4::q)=(AV.bool a).get q:=by simp [J0]
@[simp] theorem G7S:(J0 w e r t a p).get (5::q)=(AV.bool p).get q:=by simp [J0]
@[simp] theorem G7T:(J0 w e r t a p).put [0] (.bool x)=some (J0 x e r t a p):=by simp [J0]
@[simp] theorem G7U:(J0 w e r t a p).put [1] (.bool x)=some (J0 w x r t a p):=by simp [J0]
@[simp] theorem G7V:(J0 w e r t a p).put [2] (.bool x)=some (J0 w e x t a p):=by simp [J0]
@[simp] theorem G7W:(J0 w e r t a p).put [3] (.bool x)=some (J0 w e r x a p):=by simp [J0]
@[simp] theorem G7X:(J0 w e r t a p).put [4] (.bool x)=some (J0 w e r t x p):=by simp [J0]
@[simp] theorem G7Y:(J0 w e r t a p).put [5] (.bool x)=some (J0 w e r t a x):=by simp [J0]
@[simp] theorem G7Z:AV.node [.bool w,.bool e,.bool r,.bool t,.bool a,.bool p]=J0 w e r t a p:=rfl
end
def S8 (a:Actn):Bool :=
 !(decide (a.kind < 1#8)||decide (18#8 < a.kind)||decide (200 < a.title.length)) &&
 !((!hW a.kind && !decide (a.who=ci0))||(!hE a.kind && !decide (a.e=pt0))||(!(hR a.kind == roleOk a.role))||(!hR a.kind && !decide (a.role=0#8))) &&
 !((!hT a.kind&&decide (0 < a.title.length))||(hA a.kind && !accOk a.acc)||(!hA a.kind && !decide (a.acc=D4))) &&
 ((decide (a.pass.length=0)&&(!hP a.kind||decide (a.kind=18#8)))||(decide (a.pass.length=16)&&hP a.kind))
@[simp] theorem G83 (b:Bool):mUn .not (.bool b)=some (.bool !b):=rfl
theorem E2Q {h:A3} {b c:Bool} (hb:c=b):∃ t,(C8 [.bool c],h)=((.bool b,h++t):AV × A3):=⟨[],by simp [C8,hb]⟩
@[simp] theorem G84:AV.node [pt pt0,pt pt0]=eCi ci0:=rfl
@[simp] theorem G8U:(⟨pt0,pt0⟩:Ci)=ci0:=rfl
@[simp] theorem F4x:(⟨0#8,0#8,0#8⟩:Acc)=D4:=rfl
@[simp] theorem G50 (t:Ty) (r:AV):G4 t r []=some r:=rfl
end Go.Vab

namespace Go.Vab
open Go
def rb:AV→Option Nat
 | .slice b _ _ _ _ _ _ => some b
 | _ => none
@[simp] theorem G7a (h:A3) (b:BitVec 8):P3 (.int .u8) (u8 0#8) 1 [(0,u8 b)] h=some (.slice h.length 0 [] (.int .u8) 0 1 (some 1),h++[⟨arr 1 fun _ => b,0,.own⟩]):=by
 have e:K1 1 (u8 0#8)=arr 1 fun _ => 0#8:=by simp [K1,u8,arr,bytes]
 have e2:upd (fun _ => 0#8) 0 b=upd (fun _ => 0#8) 0 b:=rfl
 simp only [P3,e,G4,A5T,Nat.lt_irrefl]
 simp [Ty.size]
 exact A0G fun i hi=>by
  have:i=0:=by omega
  subst this;simp
def wp (wc:Nat):AV:=.ptr wc 0 [0] s9
end Go.Vab

namespace Go.Vab
open Go
def E7:Bs→Bs→Int
 | [],[]=>0
 | [],_ :: _ => -1
 | _ :: _,[]=>1
 | a::xs,b::ys=>if a < b then -1 else if b < a then 1 else E7 xs ys
def by8 (l:Bs):List UInt8:=l.map fun c=>UInt8.ofNat c.toNat
theorem A1M (a b:BitVec 8):UInt8.ofNat a.toNat < UInt8.ofNat b.toNat↔a < b:=by
 rw [UInt8.lt_iff_toNat_lt,BitVec.lt_def]
 have:=a.isLt
 have:=b.isLt
 simp
theorem D9b:∀ a b:Bs,Lib.compareBytes (by8 a) (by8 b)=E7 a b
 | [],[]=>rfl
 | [],_ :: _ => rfl
 | _ :: _,[]=>rfl
 | a::xs,b::ys=>by
  simp only [by8,List.map_cons,Lib.compareBytes,E7]
  by_cases h:a < b
  ·rw [if_pos ((A1M _ _).2 h),if_pos h]
  ·rw [if_neg (fun q=>h ((A1M _ _).1 q)),if_neg h]
   by_cases h2:b < a
   ·rw [if_pos ((A1M _ _).2 h2),if_pos h2]
   ·rw [if_neg (fun q=>h2 ((A1M _ _).1 q)),if_neg h2]
    exact D9b xs ys
def bi (l:Bs):List Int:=l.map fun x=>(x.toNat:Int)
theorem E2R (l:Bs):arr l.length (Bs.g l)=.ints .u8 (bi l):=by
 unfold arr bytes bi
 congr 2
 apply List.ext_getElem?
 intro i
 rw [W7]
 split
 ·rename_i hi
  simp [Bs.g,List.getD_eq_getElem?_getD,List.getElem?_eq_getElem hi]
 ·rename_i hi
  rw [List.getElem?_eq_none (by omega)]
theorem D72 {P : Program} (w : World) : ∀ (l : Bs) (a : Addr) (acc : ByteArray), (∀ j x, (bi l)[j]? = some x → w.cell? (a.add j) = some (.int .u8 x)) →
  (Extern.Bytes.loadBytes a l.length acc).run P w=.ok ⟨acc.data++(by8 l).toArray⟩ w
 | [],a,acc,_ => by simp [Extern.Bytes.loadBytes,by8]
 | x::l,a,acc,h=>by
  have h0:w.cell? a=some (.int .u8 (x.toNat:Int)):=by
   have:=h 0 x.toNat rfl
   simpa [Addr.add] using this
  have ih:=D72 (P:=P) w l (a.add 1) (acc.push (x.toNat:Int).toNat.toUInt8) (fun j y hy=>by
   have:=h (j+1) y (by simpa [bi] using hy)
   have e:(a.add 1).add j=a.add (j+1):=by
    unfold Addr.add
    by_cases hj:j=0
    ·subst hj;simp
    ·simp [hj];omega
   rw [e];exact this)
  simp only [List.length_cons,Extern.Bytes.loadBytes,Sem.run_bind,run_load,h0,Result.andThen]
  rw [ih]
  congr 1
  apply ByteArray.ext
  simp [ByteArray.push,by8]
section
variable {P:Program} {E:Gh} {h:A3} {w:World} (R:RelHeap E h w)
include R
theorem D7O {i ver : Nat} {path : List Nat} {t t' : Ty} {off len : Nat} {cap : Option Nat} {new : AV} {y : Value} (he : C7 t (.slice i ver path t' off len cap) h = some new) (hx : VRel E (.slice i ver path t' off len cap) y) :
  ∃ a c l,y=.slice (some a) len c∧VRl E new l∧l.length=len * t.size∧∀ k x,l[k]?=some x→w.cell? (a.add k)=some x:=by
 simp only [C7] at he
 split at he
 ·rename_i hbt
  have hte:=Ty.beq_eq _ _ hbt
  subst hte
  obtain ⟨b,hb,he⟩:=bnd_eq_some.1 he
  obtain ⟨r,hg,he⟩:=bnd_eq_some.1 he
  simp only [VRel] at hx
  obtain ⟨a,c,rfl,hi,hv,hlen,hcap,hcn,hs⟩:=hx
  obtain ⟨hbi,hbv⟩:=Q8 hb
  have hver:ver=E.ver i:=by rw [←hbv];exact (R.at_ i b hbi).ver
  obtain ⟨o,n,hsub,ha,hroom⟩:=hs hver
  obtain ⟨m,l,hm,hl,hc⟩:=A4c R hver hsub hb hg
  obtain ⟨k1,k2,k3⟩:=A3I he hm hl
  have hll:=VRl.len new _ _ k1 k3
  simp only [Ty.size] at hll
  refine ⟨a,c,_,rfl,k3,hll,fun k x hk=>?_⟩
  by_cases hc0:c=0
  ·have:len=0:=by omega
   subst this
   have hk1:=(List.getElem?_eq_some_iff.1 hk).1
   simp at hk1
  ·rw [ha hc0,T3]
   have hk1:=(List.getElem?_eq_some_iff.1 hk).1
   rw [List.getElem?_take_of_lt (by omega),List.getElem?_drop] at hk
   have:=hc _ x hk
   rw [show E.base i+o+(off * t'.size+k)=E.base i+o+off * t'.size+k by omega] at this
   exact this
 ·cases he
theorem D7I {x:AV} {l:Bs} {y:Value} (hb:BytL h x l) (hx:VRel E x y):(Extern.Bytes.bytesOf y).run P w=.ok ⟨(by8 l).toArray⟩ w:=by
 have h1:=hb.1.1
 have h2:=hb.1.2
 cases x with
 | nilslice =>
  have hl:l=[]:=List.eq_nil_of_length_eq_zero h2
  subst hl
  simp only [VRel] at hx;subst hx
  rfl
 | slice i ver path t off len cap =>
  obtain ⟨a,c,m,rfl,hm,hlen,hc⟩:=D7O R h1 hx
  have hL:len=l.length:=by
   unfold A01 at h2
   split at h2 <;> simp_all
  have hm':m=(bi l).map (Value.int .u8):=by
   rw [E2R] at hm
   simpa only [VRl] using hm
  have key:=D72 (P:=P) w l a .empty fun j x hj=>hc j _ (by rw [hm',List.getElem?_map,hj];rfl)
  rw [hL]
  simp only [Extern.Bytes.bytesOf]
  rw [key]
  congr 1
  apply ByteArray.ext
  show #[] ++ _ = _
  simp
 | _ => unfold A01 at h2;split at h2 <;> first|exact h2.elim|(rename_i e;cases e)
end
theorem F6M {P : Program} {f : Nat} {fn : Func} (hf : P.funcs[f]? = some fn) (hname : (fn.name == "runtime.NumGoroutine") = false) (hb : fn.body.isNone = true) (hn : Extern.findNext fn = none) (he : Extern.find fn = some Extern.BytealgCompare.compare)
  {h:A3} {x y:AV} {a b:Bs} (hx:BytL h x a) (hy:BytL h y b):SpecQ P f [x,y] h fun r=>r=(.int .i64 (E7 a b),h):=by
 intro E w xs R hxs
 simp only [VRc] at hxs
 obtain ⟨vx,xs1,rfl,h1,vy,xs2,rfl,h2,rfl⟩:=hxs
 refine .inr ⟨.int .i64 (E7 a b),w,_,E,?_,rfl,by simp only [VRel],Moves.refl R⟩
 rw [run_callFunc_extern hf hname hb hn he]
 have q1:=D7I (P:=P) R hx h1
 have q2:=D7I (P:=P) R hy h2
 have e:∀ p q:Value,Extern.BytealgCompare.compare #[p,q]=(do pure (goInt (Extern.BytealgCompare.cmp (←Extern.Bytes.bytesOf p) (←Extern.Bytes.bytesOf q)))):=fun p q=>rfl
 rw [e]
 simp only [Sem.run_bind,q1,q2,Result.andThen_ok,Sem.run_pure]
 rw [Lib.cmp_eq]
 show Result.ok (Next.value (Value.int .i64 _)) w = _
 rw [D9b]
end Go.Vab

namespace Go.Vab
open Go
theorem F79 {P : Program} {tt : Nat → Option TI} (T : TTok P tt) {t k e b : Nat} (hl : laidOutB P = true) (h1 : P.underlying t = some (.map k e)) (h2 : P.underlying k = some (.array 32 b)) (h3 : P.underlying b = some (.int .u8))
  {el:TI} (hel:tt e=some el) (hez:el.zero=.int .i64 0) (hrow:k < P.types.size) (hkt:P.keyTypeAt 2 k=true) (hkt':P.keyType k=true) (hc:P.cellsOf k=32) (hc1:P.cellsOf b=1):A1Z P t:=by
 refine ⟨k,e,h1,Maps.Keyed.of_law (deep_law_laid hl (m:=2) (by omega) hrow hkt (by rw [h2])),fun w=>?_,fun ks hok=>?_⟩
 ·obtain ⟨z,h4,h5⟩:=A1f T hel w
  have:=h5 ⟨0,fun _ => 0,fun _ => 0,fun _ => 0,fun _ => 0,fun _ => false,fun _ => .cell⟩
  rw [hez] at this
  simp only [VRel] at this
  rw [h4,this]
 simp only [y9,Bool.and_eq_true,decide_eq_true_eq,List.all_eq_true] at hok
 obtain ⟨hlen,hin⟩:=hok
 obtain ⟨m,hm⟩:∃ m,P.types.size=m+1:=⟨P.types.size - 1,by omega⟩
 unfold keyOf
 rw [h2]
 simp only [hkt',Bool.true_and]
 have hf:(P5 ks).formed P k=true:=by
  unfold Value.formed P5
  simp only [h2,hc]
  simp [hlen]
 rw [if_pos hf]
 have hlits:∀ x∈ks,P.keyLits (m+1) b [.int .u8 x]=some [.int .u8 x]:=by
  intro x hx
  have:=hin x hx
  unfold Program.keyLits
  simp only [h3]
  have hw:(Lit.int .u8 x).wf=true:=by
   simp [Lit.wf,IntKind.min,IntKind.max,IntKind.signed,IntKind.bits];omega
  simp [hw]
 have key:P.keyLits (P.types.size+1) k (P5 ks).cells.toList=some (ks.map (Lit.int .u8)):=by
  rw [hm]
  unfold Program.keyLits
  simp only [h2]
  have hcl:(P5 ks).cells.toList=ks.map (Value.int .u8):=by simp [P5,Value.cells]
  rw [hcl,if_pos (by rw [hc];simp [hlen])]
  have:((List.range 32).mapM fun i=>P.keyLits (m+1) b (((ks.map (Value.int .u8)).drop (i * P.cellsOf b)).take (P.cellsOf b)))=some (ks.map fun x=>[Lit.int .u8 x]):=by
   rw [hc1,←hlen]
   clear hcl hf hin hlen
   have gen : ∀ (l pre : List Int), (∀ x ∈ l, P.keyLits (m + 1) b [.int .u8 x] = some [.int .u8 x]) →
     ((List.range' pre.length l.length).mapM fun i=>P.keyLits (m+1) b ((((pre++l).map (Value.int .u8)).drop (i * 1)).take 1))=some (l.map fun x=>[Lit.int .u8 x]):=by
    intro l
    induction l with
    | nil=>intro pre _;rfl
    | cons x l ih =>
     intro pre hx
     rw [List.length_cons,List.range'_succ,List.mapM_cons]
     have h0:(((pre++x::l).map (Value.int .u8)).drop (pre.length * 1)).take 1=[Value.int .u8 x]:=by simp
     rw [h0,hx x (List.mem_cons_self ..)]
     have h1:=ih (pre++[x]) fun y hy=>hx y (List.mem_cons_of_mem _ hy)
     simp only [List.length_append,List.length_singleton,List.append_assoc,List.singleton_append] at h1
     simp only [Option.bind_eq_bind,Option.bind_some]
     rw [h1]
     rfl
   have:=gen ks [] hlits
   simpa [List.range_eq_range'] using this
  rw [this]
  simp only [Option.map_some,Option.some.injEq]
  clear hcl this hf hin hlen hlits
  induction ks with
  | nil=>rfl
  | cons x l ih=>simp only [List.map_cons,List.flatten_cons,ih];rfl
 rw [key]
 exact ⟨_,rfl⟩
end Go.Vab

namespace Go.Vab
open Go
def A4E (p:Pt) (vs:List AV):Bool:=A30 (bi p.l) vs
theorem A2k (p:Pt):pt p=.ints .u8 (bi p.l):=by
 have:=E2R p.l
 rw [p.h] at this
 exact this
theorem D8o (p:Pt):y9 (bi p.l)=true:=by
 simp only [y9,bi,List.length_map,p.h,decide_true,Bool.true_and,List.all_eq_true,decide_eq_true_eq,List.mem_map]
 rintro x ⟨c,_,rfl⟩
 have:=c.isLt
 omega
theorem F84 {a b:Bs} (h:bi a=bi b):a=b:=by
 induction a generalizing b with
 | nil=>cases b with
  | nil=>rfl
  | cons y b=>simp [bi] at h
 | cons x a ih=>cases b with
  | nil=>simp [bi] at h
  | cons y b =>
   simp only [bi,List.map_cons,List.cons.injEq] at h
   rw [BitVec.eq_of_toNat_eq (show x.toNat=y.toNat by omega),ih h.2]
@[simp] theorem G7b (p:Pt) (seen:List Pt):A4E p (seen.map pt)=decide (p∈seen):=by
 unfold A4E
 have:seen.map pt=(seen.map fun q=>bi q.l).map (AV.ints .u8):=by
  rw [List.map_map];exact List.map_congr_left fun q _ => A2k q
 rw [this,B6X]
 refine Z5 ⟨fun h=>?_,fun h=>List.mem_map.2 ⟨p,h,rfl⟩⟩
 obtain ⟨q,hq,e⟩:=List.mem_map.1 h
 rw [←Pt.ext' (F84 e)];exact hq
@[simp] theorem G8V (i:Nat) (p:Pt) (h:A3):A2g (.map i) (pt p) h=bnd (A0P h i) fun vs=>some (nat (if A4E p vs=true then 1 else 0)):=by
 rw [A2k]
 unfold A2g
 simp only [D8o,if_true]
 congr 1
 funext vs
 unfold A4E nat
 split <;> rfl
@[simp] theorem G85 (i:Nat) (p:Pt) (h:A3):A2t (.map i) (pt p) (nat 1) h=bnd (A0P h i) fun vs=>some (.undef,h.set i ⟨.node (if A4E p vs=true then vs else vs++[pt p]),0,.mp⟩):=by
 rw [A2k]
 unfold A2t nat
 simp only [D8o,Int.natCast_one,and_self,if_true]
 rfl
theorem A4m {h:A3} {i:Nat} {vs:List AV} (hm:h[i]?=some ⟨.node vs,0,.mp⟩) (l:A3):A0P (h++l) i=some vs :=
 F56 (by rw [List.getElem?_append_left (List.getElem?_eq_some_iff.1 hm).1];exact hm)
theorem g8 {h:A3} {i:Nat} {b:Blk} (hm:h[i]?=some b) (l:A3) (c:Blk):(h++l).set i c=h.set i c++l:=by
 rw [List.set_append,if_pos (List.getElem?_eq_some_iff.1 hm).1]
@[simp] theorem F4U (h l:A3) (m:Nat) (b:Blk) (k ver:Nat):blkAt (h.set m b++l) (h.length+k) ver=blkAt l k ver:=by
 have:=A1n (h.set m b) l k ver
 rwa [List.length_set] at this
@[simp] theorem G51 (h l:A3) (m:Nat) (b:Blk) (ver:Nat):blkAt (h.set m b++l) h.length ver=blkAt l 0 ver:=F4U h l m b 0 ver
@[simp] theorem F6N (h l:A3) (m:Nat) (b:Blk) (k:Nat) (c:Blk):(h.set m b++l).set (h.length+k) c=h.set m b++l.set k c:=by
 have:=D9U (h.set m b) l k c
 rwa [List.length_set] at this
@[simp] theorem G7c (h l:A3) (m:Nat) (b c:Blk):(h.set m b++l).set h.length c=h.set m b++l.set 0 c:=F6N h l m b 0 c
theorem F38 {t:Ty} {x:AV} {h:A3} {m:Nat} {b c:Blk} {r:AV} (hm:h[m]?=some b) (hb:b.mode=.mp) (he:C7 t x h=some r):C7 t x (h.set m c)=some r:=by
 cases x with
 | slice i ver path t' off len cap =>
  simp only [C7] at he ⊢
  split at he
  ·rename_i ht
   rw [if_pos ht]
   obtain ⟨d,h1,h2⟩:=bnd_eq_some.1 he
   obtain ⟨h3,h4⟩:=Q8 h1
   have hne:m≠i:=by
    rintro rfl
    rw [hm] at h3;cases h3
    exact d8 h1 hb
   have:blkAt (h.set m c) i ver=some d:=by
    unfold blkAt at h1 ⊢
    rw [List.getElem?_set_ne hne];exact h1
   rw [this];exact h2
  ·cases he
 | _ => exact he
theorem Row.setm {t:Ty} {x:AV} {h:A3} {m:Nat} {b c:Blk} {vs:List AV} (r:Row t h x vs) (hm:h[m]?=some b) (hb:b.mode=.mp):Row t (h.set m c) x vs:=⟨F38 hm hb r.1,r.2⟩
theorem M0 {h:A3} {i:Nat} {path:List Nat} {p:Pt} (hb:(bnd (blkAt h i 0) fun b=>b.v.get path)=some (pt p)):BytL h (.slice i 0 path (.int .u8) 0 32 (some 32)) p.l:=by
 obtain ⟨b,h1,h2⟩:=bnd_eq_some.1 hb
 refine ⟨⟨?_,by rw [p.h];exact ⟨rfl,Nat.le_refl _,rfl⟩⟩,by rw [p.h];omega⟩
 rw [a7,h1,G9,h2,G9,p.h]
 unfold pt
 rw [A5U,if_pos (by omega)]
 exact congrArg some (A0G fun i _ => by rw [Nat.zero_add];rfl)
def M5 (seen ps:List Pt) (i:Nat):Bool:=!decide (ps.getD i pt0∈seen++ps.take i)&&(decide (i=0)||decide (E7 (ps.getD (i - 1) pt0).l (ps.getD i pt0).l < 0))
def I9 (seen ps:List Pt):Bool:=(List.range ps.length).all (M5 seen ps)
theorem A0c {seen ps:List Pt} {i:Nat} (hi:i < ps.length) (h:M5 seen ps i=false):I9 seen ps=false:=by
 unfold I9
 rw [List.all_eq_false]
 exact ⟨i,List.mem_range.2 hi,by simp [h]⟩
theorem A4n {seen ps:List Pt} (h:∀ i,i < ps.length→M5 seen ps i=true):I9 seen ps=true:=by
 unfold I9
 rw [List.all_eq_true]
 exact fun i hi=>h i (List.mem_range.1 hi)
@[simp] theorem G9Q (a:Int):C6 .geq (.int .i64 a) (nat 0)=some (.bool (decide (0≤a))):=by simp [C6,L3,nat]
theorem A3A (n:Nat):∀ l:List Pt,AV.unders n (l.map pt)=true
 | []=>rfl
 | p::l=>by simp only [List.map_cons,AV.unders,A3A n l,A2k,AV.under,Bool.and_self]
@[simp] theorem G7d (h:A3):A7T h=some (.map h.length,h++[⟨.node [],0,.mp⟩]):=rfl
theorem A5Z {h:A3} {c:Blk} {l:List Pt}:(h++[c,⟨.node (l.map pt),0,.mp⟩])[h.length+1]?=some ⟨.node (l.map pt),0,.mp⟩:=by
 rw [List.getElem?_append_right (by omega),Nat.add_sub_cancel_left];rfl
theorem A5a {h:A3} {c d e:Blk}:(h++[c,d]).set (h.length+1) e=h++[c,e]:=by simp
end Go.Vab

namespace Go.Vab
open Go
end Go.Vab

namespace Go.Vab
open Go
def sE (a:Stt):List Pt:=a.seats.map (·.who.e)
def iE (a:Stt):List Pt:=a.invites.map (·.who.e)
def aE (a:Stt):List Pt:=a.asks.map (·.who.e)
def bE (a:Stt):List Pt:=a.bans.map (·.who.e)
def A0n (a:Stt):Bool:=!(decide (200 < a.title.length)||decide (a.pass.length % 16≠0)||decide (16 < a.pass.length) || !accOk a.acc)
def E4 (a:Stt):Bool:=A0n a&&((decide (a.seats.length≤40)&&I9 [] (sE a))&&((decide (a.invites.length≤40)&&I9 (sE a) (iE a))&&((decide (a.asks.length≤40)&&I9 (sE a++iE a) (aE a)) &&
 ((decide (a.bans.length≤40)&&I9 (sE a++iE a++aE a) (bE a))&&(!(a.seats.any fun s => !roleOk s.role) && !(a.invites.any fun s => !roleOk s.role))))))
end Go.Vab

namespace Go.Vab
open Go
def ltP (p q:Pt):Bool:=decide (E7 p.l q.l < 0)
theorem B6g:∀ a:Bs,E7 a a=0
 | []=>rfl
 | a::xs=>by
  have:¬ a < a:=by simp [BitVec.lt_def]
  simp [E7,this,B6g xs]
theorem D73:∀ {a b:Bs},E7 a b=0→a=b
 | [],[],_ => rfl
 | [],_ :: _,h=>by simp [E7] at h
 | _ :: _,[],h=>by simp [E7] at h
 | a::xs,b::ys,h=>by
  simp only [E7] at h
  split at h
  ·simp at h
  ·split at h
   ·simp at h
   ·rename_i h1 h2
    rw [D73 h]
    have:a=b:=by
     apply BitVec.eq_of_toNat_eq
     rw [BitVec.lt_def] at h1 h2
     omega
    rw [this]
theorem D7d:∀ {a b c:Bs},E7 a b < 0→E7 b c < 0→E7 a c < 0
 | [],[],_,h,_ => by simp [E7] at h
 | _ :: _,[],_,h,_ => by simp [E7] at h
 | [],_ :: _,[],_,h=>by simp [E7] at h
 | [],_ :: _,_ :: _,_,_ => by simp [E7]
 | _ :: _,_ :: _,[],_,h=>by simp [E7] at h
 | a::xs,b::ys,c::zs,h1,h2=>by
  simp only [E7,BitVec.lt_def] at h1 h2 ⊢
  by_cases p1:a.toNat < b.toNat
  ·rw [if_pos p1] at h1
   by_cases p2:b.toNat < c.toNat
   ·rw [if_pos (by omega)];omega
   ·rw [if_neg p2] at h2
    by_cases p3:c.toNat < b.toNat
    ·rw [if_pos p3] at h2;omega
    ·rw [if_pos (by omega)];omega
  ·rw [if_neg p1] at h1
   by_cases p2:b.toNat < a.toNat
   ·rw [if_pos p2] at h1;omega
   ·rw [if_neg p2] at h1
    by_cases p3:b.toNat < c.toNat
    ·rw [if_pos (by omega)];omega
    ·rw [if_neg p3] at h2
     by_cases p4:c.toNat < b.toNat
     ·rw [if_pos p4] at h2;omega
     ·rw [if_neg p4] at h2
      rw [if_neg (by omega),if_neg (by omega)]
      exact D7d h1 h2
theorem D7e (p:Pt):ltP p p=false:=by simp [ltP,B6g]
theorem l0 {p q r:Pt} (h1:ltP p q=true) (h2:ltP q r=true):ltP p r=true:=by
 simp only [ltP,decide_eq_true_eq] at *
 exact D7d h1 h2
section
variable {X:Type} (f:X→Pt)
def fnd (l:List X) (e:Pt):Option X:=l.find? fun x=>decide (f x=e)
def del (l:List X) (e:Pt):List X:=l.filter fun x => !decide (f x=e)
def low (l:List X) (e:Pt):Nat:=(l.takeWhile fun y=>ltP (f y) e).length
def ins (l:List X) (x:X):List X:=l.take (low f l (f x))++x::l.drop (low f l (f x))
def A8 (l:List X) (e:Pt):Bool:=(fnd f l e).isSome
end
def fS (x:Seat):Pt:=x.who.e
def fI (x:Inv):Pt:=x.who.e
def fA (x:Ask):Pt:=x.who.e
def fB (x:Ban):Pt:=x.who.e
def D0 (s:Stt) (e:Pt):BitVec 8:=match fnd fS s.seats e with
 | some x=>x.role
 | none=>0#8
def v8 (s:Stt):Nat:=s.seats.countP fun x=>decide (x.role=2#8)
def I1 (s:Stt) (e:Pt):Ci:=match fnd fS s.seats e with
 | some x=>x.who
 | none=>ci0
def O7 (s:Stt) (b:Pt) (r:BitVec 8):Bool:=!decide (D0 s b=0#8) && !decide (D0 s b < s.acc.members)&&(decide (r=1#8)||decide (D0 s b=2#8))
def V5 (s:Stt) (a:Actn):Bool:=decide (0 < s.pass.length)&&decide (s.pass=a.pass)
def P0 (s:Stt) (e:Pt):Option Ci:=match fnd fS s.seats e with
 | some x=>some x.who
 | none=>match fnd fI s.invites e with
  | some x=>some x.who
  | none=>(fnd fA s.asks e).map (·.who)
def madeP (s:Stt) (b:Pt) (a:Actn):Except Nat Stt :=
 let mine:=D0 s b
 let w:=a.who.e
 if a.kind=1#8 then
  if O7 s b a.role=false then .error 191 else if A8 fB s.bans w then .error 193 else if A8 fS s.seats w then .error 8 else if 40≤s.seats.length then .error 9
  else .ok { s with invites:=del fI s.invites w,asks:=del fA s.asks w,seats:=ins fS s.seats ⟨a.who,a.role,a.version⟩ }
 else if a.kind=5#8 then
  if O7 s b a.role=false then .error 191 else if A8 fB s.bans w then .error 193 else if A8 fS s.seats w||A8 fI s.invites w then .error 8 else if 40≤s.invites.length then .error 9
  else .ok { s with asks:=del fA s.asks w,invites:=ins fI s.invites ⟨a.who,a.role,I1 s b⟩ }
 else if a.kind=2#8 then
  if mine≠2#8 then .error 191 else if !A8 fS s.seats a.e then .error 7 else if a.e=b then .error 195
  else .ok { s with seats:=del fS s.seats a.e }
 else if a.kind=3#8 then
  if mine≠2#8 then .error 191 else match fnd fS s.seats a.e with
   | none=>.error 7
   | some x=>if x.role=a.role then .error 8 else if x.role=2#8∧v8 s=1 then .error 192
    else .ok { s with seats:=ins fS (del fS s.seats a.e) { x with role:=a.role } }
 else if a.kind=12#8 then
  if O7 s b a.role=false then .error 191 else match fnd fA s.asks a.e with
   | none=>.error 7
   | some x=>if 40≤s.seats.length then .error 9 else .ok { s with asks:=del fA s.asks a.e,seats:=ins fS s.seats ⟨x.who,a.role,a.version⟩ }
 else if a.kind=13#8 then
  if mine≠2#8 then .error 191 else if !A8 fA s.asks a.e then .error 7 else .ok { s with asks:=del fA s.asks a.e }
 else if a.kind=14#8 then
  if mine≠2#8 then .error 191 else if a.e=b then .error 195 else if A8 fB s.bans a.e then .error 8 else match P0 s a.e with
   | none=>.error 7
   | some c=>if 40≤s.bans.length then .error 9
    else .ok { s with seats:=del fS s.seats a.e,invites:=del fI s.invites a.e,asks:=del fA s.asks a.e,bans:=ins fB s.bans ⟨c,I1 s b⟩ }
 else if a.kind=15#8 then
  if mine≠2#8 then .error 191 else if !A8 fB s.bans a.e then .error 7 else .ok { s with bans:=del fB s.bans a.e }
 else if a.kind=4#8 then
  if mine=0#8 then .error 191 else if mine=2#8∧v8 s=1∧1 < s.seats.length then .error 192
  else .ok { s with seats:=del fS s.seats b }
 else if a.kind=6#8 then
  if mine=0#8 then .error 191 else match fnd fI s.invites a.e with
   | none=>.error 7
   | some x=>if mine≠2#8∧x.by_.e≠b then .error 191 else .ok { s with invites:=del fI s.invites a.e }
 else if a.kind=7#8 then
  match fnd fI s.invites b with
   | none=>.error 7
   | some x=>if 40≤s.seats.length then .error 9 else .ok { s with invites:=del fI s.invites b,seats:=ins fS s.seats ⟨x.who,x.role,a.version⟩ }
 else if a.kind=8#8 then
  if !A8 fI s.invites b then .error 7 else .ok { s with invites:=del fI s.invites b }
 else if a.kind=9#8 then
  if w≠b then .error 195 else if A8 fB s.bans b then .error 193 else if mine≠0#8 then .error 8 else if s.acc.link≠1#8 then .error 196 else if !V5 s a then .error 194 else if 40≤s.seats.length then .error 9
  else .ok { s with invites:=del fI s.invites b,asks:=del fA s.asks b,seats:=ins fS s.seats ⟨a.who,1#8,a.version⟩ }
 else if a.kind=10#8 then
  if w≠b then .error 195 else if A8 fB s.bans b then .error 193 else if (mine≠0#8∨A8 fI s.invites b=true)∨A8 fA s.asks b=true then .error 8 else if s.acc.link≠2#8 then .error 196 else if !V5 s a then .error 194 else if 40≤s.asks.length then .error 9
  else .ok { s with asks:=ins fA s.asks ⟨a.who,a.version⟩ }
 else if a.kind=11#8 then
  if !A8 fA s.asks b then .error 7 else .ok { s with asks:=del fA s.asks b }
 else if a.kind=16#8 then
  if mine=0#8∨mine < s.acc.title then .error 191 else .ok { s with title:=a.title }
 else if mine≠2#8 then .error 191
 else if a.kind=17#8 then .ok { s with acc:=a.acc }
 else .ok { s with pass:=a.pass }
def I4 (s:Stt) (b:Pt) (a:Actn):Except Nat Stt :=
 if E4 s=false∨S8 a=false then .error 2
 else if a.version=0#32∨a.version - 1#32≠s.version then .error 190
 else if s.seats.length=0 then .error 197
 else match madeP s b a with
  | .error e=>.error e
  | .ok t=>.ok { t with version:=a.version }
def st0:Stt:=⟨0#32,ci0,[],D4,[],[],[],[],[]⟩
def Q2 (s:Stt) (e:Pt):Nat × BitVec 64 × Pt:=match fnd fS s.seats e with
 | some x=>(1,(x.role.setWidth 64 <<< 32)+x.joined.setWidth 64,pt0)
 | none=>match fnd fI s.invites e with
  | some x=>(2,x.role.setWidth 64,x.by_.e)
  | none=>match fnd fA s.asks e with
   | some x=>(3,x.at_.setWidth 64,pt0)
   | none=>match fnd fB s.bans e with
    | some x=>(4,0#64,x.by_.e)
    | none=>(0,0#64,pt0)
end Go.Vab

namespace Go.Vab
open Go
section
variable {X:Type} (f:X→Pt)
def U1 (l:List X) (e:Pt):Int:=match l.findIdx? (fun x=>decide (f x=e)) with
 | some i=>i
 | none=>-1
theorem idxI_spec (l:List X) (e:Pt):(∃ i,∃ h:i < l.length,U1 f l e=i∧fnd f l e=some l[i]∧f l[i]=e)∨(U1 f l e=-1∧fnd f l e=none):=by
 unfold U1 fnd
 cases h:l.findIdx? (fun x=>decide (f x=e)) with
 | none =>
  refine .inr ⟨rfl,?_⟩
  rw [List.findIdx?_eq_none_iff] at h
  rw [List.find?_eq_none]
  intro x hx
  simpa using h x hx
 | some i =>
  rw [List.findIdx?_eq_some_iff_getElem] at h
  obtain ⟨hi,h1,h2⟩:=h
  refine .inl ⟨i,hi,rfl,?_,by simpa using h1⟩
  rw [List.find?_eq_some_iff_getElem]
  refine ⟨h1,i,hi,rfl,fun j hj=>?_⟩
  have:=h2 j hj
  simpa using this
theorem A49 {l:List X} {e:Pt} {i:Nat} (hi:i < l.length) (h:f l[i]=e) (hb:∀ j (hj:j < l.length),j < i→f l[j]≠e):U1 f l e=i:=by
 unfold U1
 have:l.findIdx? (fun x=>decide (f x=e))=some i:=by
  rw [List.findIdx?_eq_some_iff_getElem]
  exact ⟨hi,by simpa using h,fun j hj=>by simpa using hb j (by omega) hj⟩
 rw [this]
theorem A5b {l:List X} {e:Pt} (hb:∀ j (hj:j < l.length),f l[j]≠e):U1 f l e=-1:=by
 unfold U1
 have:l.findIdx? (fun x=>decide (f x=e))=none:=by
  rw [List.findIdx?_eq_none_iff]
  intro x hx
  obtain ⟨j,hj,rfl⟩:=List.getElem_of_mem hx
  simpa using hb j hj
 rw [this]
theorem D8p {l:List X} {e:Pt}:A8 f l e=decide (0≤U1 f l e):=by
 unfold A8
 rcases idxI_spec f l e with ⟨i,hi,h1,h2,_⟩|⟨h1,h2⟩
 ·rw [h1,h2];simp
 ·rw [h1,h2];simp
end
theorem H5 (n:Nat):AV.int .i64 (n:Int)=nat n:=rfl
@[simp] theorem G9R {X:Type} (f:X→Pt) (l:List X) (e:Pt):decide (0≤U1 f l e)=A8 f l e:=(D8p f).symm
@[simp] theorem G86 (a:Int):C6 .lss (.int .i64 a) (nat 0)=some (.bool (decide (a < 0))):=by simp [C6,L3,nat]
@[simp] theorem G9S {X:Type} (f:X→Pt) (l:List X) (e:Pt):decide (U1 f l e < 0) = !A8 f l e:=by
 rw [D8p,←decide_not]
 exact Z5 (by omega)
theorem A0d (l:Bs):J9 l=⟨(by8 l).toArray⟩:=by
 unfold J9 z7 by8
 congr 2
 apply List.ext_getElem?
 intro i
 rw [W7]
 split
 ·rename_i hi
  simp [Bs.g,List.getD_eq_getElem?_getD,List.getElem?_eq_getElem hi]
 ·rename_i hi
  rw [List.getElem?_eq_none (by simpa using hi)]
theorem D8q:∀ a b:Bs,Go.Op.bytesLess (by8 a) (by8 b)=decide (E7 a b < 0)
 | [],[]=>rfl
 | [],_ :: _ => rfl
 | _ :: _,[]=>rfl
 | a::xs,b::ys=>by
  have ih:=D8q xs ys
  show (decide (UInt8.ofNat a.toNat < UInt8.ofNat b.toNat)||(UInt8.ofNat a.toNat == UInt8.ofNat b.toNat&&Go.Op.bytesLess (by8 xs) (by8 ys)))=decide ((if a < b then (-1:Int) else if b < a then 1 else E7 xs ys) < 0)
  rw [ih]
  by_cases h1:a < b
  ·simp only [(A1M a b).2 h1,decide_true,Bool.true_or,if_pos h1]
   rfl
  ·have h1':¬ UInt8.ofNat a.toNat < UInt8.ofNat b.toNat:=fun q=>h1 ((A1M _ _).1 q)
   by_cases h2:b < a
   ·have : (UInt8.ofNat a.toNat == UInt8.ofNat b.toNat) = false := by
     rw [beq_eq_false_iff_ne]
     intro e
     have:=(A1M b a).2 h2
     rw [e] at this
     exact UInt8.lt_irrefl _ this
    simp only [h1',this,decide_false,Bool.false_or,Bool.false_and,if_neg h1,if_pos h2]
    rfl
   ·have : a = b := by
     apply BitVec.eq_of_toNat_eq
     rw [BitVec.lt_def] at h1 h2
     omega
    subst this
    simp only [h1',decide_false,Bool.false_or,beq_self_eq_true,Bool.true_and,if_neg h1]
@[simp] theorem G7e (l m:Bs):A0N .lss (.str (J9 l)) (.str (J9 m))=some (.bool (decide (E7 l m < 0))):=by
 simp only [A0N,A0d,ByteArray.toList_mk,D8q]
end Go.Vab

namespace Go.Vab
open Go
def Rn (t:Ty) (H:A3) (x:AV) (es:List AV):Prop:=es.length≤1000000∧((x=.nilslice∧es=[]) ∨
 ∃ b c us,x=.slice b 0 [] t 0 es.length (some c)∧H[b]?=some ⟨.node us,0,.own⟩∧us.length=c∧es.length≤c∧us.take es.length=es)
theorem Rn.row {ts:List Ty} {H:A3} {x:AV} {es:List AV} (hr:Rn (.struct ts) H x es):Row (.struct ts) H x es:=by
 obtain ⟨hl,⟨rfl,rfl⟩|⟨b,c,us,rfl,h2,h3,h4,h5⟩⟩:=hr
 ·exact ⟨by simp [C7],rfl,by simp⟩
 ·refine ⟨?_,⟨rfl,h4,rfl⟩,by omega⟩
  rw [M6]
  have:blkAt H b 0=some ⟨.node us,0,.own⟩:=by unfold blkAt;rw [h2];rfl
  rw [this,G9,i0,G9,A24,Nat.zero_add,if_pos (by omega),List.drop_zero,h5]
theorem BytFrom.rb_ge {m:Nat} {u:A3} {y:AV} {l:Bs} (k:BytFrom m u y l):∀ i,rb y=some i→m≤i:=by
 intro i hi
 cases y with
 | slice b ver path t off len cap =>
  cases hi
  refine Nat.le_of_not_lt fun hlt=>?_
  have h1:=(k (List.replicate m ⟨.undef,0,.own⟩) [] (by simp)).1.1
  simp only [C7] at h1
  split at h1
  ·obtain ⟨bb,g1,g2⟩:=bnd_eq_some.1 h1
   obtain ⟨g3,g4⟩:=Q8 g1
   rw [List.getElem?_append_left (by simpa using hlt)] at g3
   simp only [List.getElem?_replicate,hlt,if_true,Option.some.injEq] at g3
   subst g3
   obtain ⟨r,g5,g6⟩:=bnd_eq_some.1 g2
   cases path with
   | nil=>simp at g5;subst g5;simp [AV.cut] at g6
   | cons p q=>simp [AV.get] at g5
  ·cases h1
 | _ => cases hi
theorem BytL.rb_lt' {h:A3} {y:AV} {m:Bs} (hy:BytL h y m):∀ b,rb y=some b→b < h.length:=by
 intro b hb
 cases y with
 | slice b' ver path t off len cap =>
  cases hb
  have h1:=hy.1.1
  simp only [C7] at h1
  split at h1
  ·obtain ⟨bb,g1,g2⟩:=bnd_eq_some.1 h1
   exact (List.getElem?_eq_some_iff.1 (Q8 g1).1).1
  ·cases h1
 | _ => cases hb
theorem Row.rb_lt {h:A3} {t:Ty} {y:AV} {m:List AV} (hy:Row t h y m):∀ b,rb y=some b→b < h.length:=by
 intro b hb
 cases y with
 | slice b' ver path t off len cap =>
  cases hb
  have h1:=hy.1
  simp only [C7] at h1
  split at h1
  ·obtain ⟨bb,g1,g2⟩:=bnd_eq_some.1 h1
   exact (List.getElem?_eq_some_iff.1 (Q8 g1).1).1
  ·cases h1
 | _ => cases hb
end Go.Vab

namespace Go.Vab
open Go
theorem Row.idxP {t : Ty} {h : A3} {x : AV} {vs : List AV} (hr : Row t h x vs) {i : Nat} (hi : i < vs.length) :
  ∃ b ver path bb,Q9 t x (nat i)=some (.ptr b ver path t)∧(∀ l,blkAt (h++l) b ver=some bb)∧bb.v.get path=some vs[i]∧∀ q,bb.v.get (path++q)=vs[i].get q:=by
 obtain ⟨b,ver,path,off,c,rfl,hc⟩:=hr.slc (by rintro rfl;simp at hi)
 have h1:=hr.1
 rw [M6] at h1
 obtain ⟨bb,g1,g2⟩:=bnd_eq_some.1 h1
 obtain ⟨r,g3,g4⟩:=bnd_eq_some.1 g2
 have g5:bb.v.get (path++[off+i])=some vs[i]:=by
  rw [A4h,g3,G9,(D8n g4).2 i hi,List.getElem?_eq_getElem hi]
 refine ⟨b,ver,path++[off+i],bb,by simp [Q9,hi],fun l=>L6 g1 l,g5,fun q=>?_⟩
 rw [A4h,g5,G9]
theorem Row.idxE {X : Type} {E : X → AV} {t : Ty} {h : A3} {x : AV} {l : List X} (hr : Row t h x (l.map E)) {i : Nat} (hi : i < l.length) :
  ∃ b ver path bb,Q9 t x (nat i)=some (.ptr b ver path t)∧(∀ l,blkAt (h++l) b ver=some bb)∧bb.v.get path=some (E l[i])∧∀ q,bb.v.get (path++q)=(E l[i]).get q:=by
 obtain ⟨b,ver,path,bb,h1,h2,h3,h4⟩:=hr.idxP (i:=i) (by simpa using hi)
 simp only [List.getElem_map] at h3 h4
 exact ⟨b,ver,path,bb,h1,h2,h3,h4⟩
@[simp] theorem G87 (x y:BitVec 8):C6 .geq (u8 x) (u8 y)=some (.bool (!decide (x < y))):=by
 simp only [C6,L3,u8,if_true]
 congr 2
 rw [←decide_not]
 apply decide_eq_decide.2
 rw [BitVec.lt_def]
 omega
section
variable (v v':BitVec 32) (k k':Ci) (c c':Acc) (vt vp x:AV) (r:List Nat) (kd:BitVec 8) (w:Ci) (e e':Pt) (ro ro':BitVec 8)
@[simp] theorem G7f:(E5 v kd w e ro c vt vp).put [2] (eCi k')=some (E5 v kd k' e ro c vt vp):=by simp [E5,-A06]
@[simp] theorem G7g:(E5 v kd w e ro c vt vp).put [3] (pt e')=some (E5 v kd w e' ro c vt vp):=by simp [E5,-A06]
@[simp] theorem G7h:(E5 v kd w e ro c vt vp).put [4] (u8 ro')=some (E5 v kd w e ro' c vt vp):=by simp [E5,-A06]
@[simp] theorem G7i:(E5 v kd w e ro c vt vp).put [6] (J8 c')=some (E5 v kd w e ro c' vt vp):=by simp [E5,-A06]
end
@[simp] theorem G9a:hW 16#8=false:=rfl
@[simp] theorem G9b:hW 17#8=false:=rfl
@[simp] theorem G9c:hE 16#8=false:=rfl
@[simp] theorem G9d:hE 17#8=false:=rfl
@[simp] theorem G9e:hR 16#8=false:=rfl
@[simp] theorem G9f:hR 17#8=false:=rfl
@[simp] theorem G9g:hP 16#8=false:=rfl
@[simp] theorem G9h:hP 17#8=false:=rfl
theorem F6O (v:BitVec 32) (kd:BitVec 8):G4 D5 (E5 0#32 0#8 ci0 pt0 0#8 D4 .nilslice .nilslice) [(0,u32 v),(1,u8 kd)]=some (E5 v kd ci0 pt0 0#8 D4 .nilslice .nilslice):=by
 have h1:(E5 0#32 0#8 ci0 pt0 0#8 D4 .nilslice .nilslice).put [1] (u8 kd)=some (E5 0#32 kd ci0 pt0 0#8 D4 .nilslice .nilslice):=by simp [E5,-A06]
 have h2:(E5 v 0#8 ci0 pt0 0#8 D4 .nilslice .nilslice).put [1] (u8 kd)=some (E5 v kd ci0 pt0 0#8 D4 .nilslice .nilslice):=by simp [E5,-A06]
 simp [G4,h1,h2]
end Go.Vab
