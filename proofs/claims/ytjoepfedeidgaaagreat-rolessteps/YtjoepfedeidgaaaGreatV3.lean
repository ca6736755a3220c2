/-
  Rows in a region of one's own: they grow by append.
-/
import Derived.Test.YtjoepfedeidgaaaGreatV2
import Derived.Laws.LoneSync
import Derived.Test.YtjoepfedeidgaaaGreatV1
set_option linter.all false
set_option linter.unusedSectionVars false
set_option maxHeartbeats 8000000
set_option maxRecDepth 20000
namespace Go.Vab
open Go
def RnU (t:Ty) (n:Nat) (u:A3) (x:AV) (es:List AV):Prop:=es.length≤1000000∧((x=.nilslice∧es=[]) ∨
 ∃ j c us,x=.slice (n+j) 0 [] t 0 es.length (some c)∧u[j]?=some ⟨.node us,0,.own⟩∧us.length=c∧es.length≤c∧us.take es.length=es)
theorem RnU.nil (t:Ty) (n:Nat) (u:A3):RnU t n u .nilslice []:=⟨by simp,.inl ⟨rfl,rfl⟩⟩
theorem RnU.rb_ge {t:Ty} {n:Nat} {u:A3} {x:AV} {es:List AV} (r:RnU t n u x es):∀ b,rb x=some b→n≤b∧b < n+u.length:=by
 intro b hb
 obtain ⟨_,⟨rfl,_⟩|⟨j,c,us,rfl,h,_⟩⟩:=r
 ·cases hb
 ·cases hb
  have:=(List.getElem?_eq_some_iff.1 h).1
  omega
theorem RnU.mono {t:Ty} {n:Nat} {u u':A3} {x:AV} {es:List AV} (r:RnU t n u x es) (hk:∀ j c,rb x=some (n+j)→u[j]?=some c→u'[j]?=some c):RnU t n u' x es:=by
 obtain ⟨hl,h|⟨j,c,us,rfl,h2,h3⟩⟩:=r
 ·exact ⟨hl,.inl h⟩
 ·exact ⟨hl,.inr ⟨j,c,us,rfl,hk _ _ rfl h2,h3⟩⟩
theorem RnU.cell {t:Ty} {n:Nat} {u:A3} {x:AV} {es:List AV} (r:RnU t n u x es):A4 x .cell=true:=by
 obtain ⟨hl,⟨rfl,_⟩|⟨j,c,us,rfl,_⟩⟩:=r <;> rfl
theorem RnU.rn {t:Ty} {n:Nat} {u F l:A3} {x:AV} {es:List AV} (r:RnU t n u x es) (hF:F.length=n):Rn t (F++(u++l)) x es:=by
 obtain ⟨hl,h|⟨j,c,us,rfl,h2,h3⟩⟩:=r
 ·exact ⟨hl,.inl h⟩
 ·refine ⟨hl,.inr ⟨n+j,c,us,rfl,?_,h3⟩⟩
  rw [←hF,List.getElem?_append_right (by omega),Nat.add_sub_cancel_left,List.getElem?_append_left (List.getElem?_eq_some_iff.1 h2).1];exact h2
theorem RnU.row {ts:List Ty} {t:Ty} (ht:t=.struct ts) {n:Nat} {u F l:A3} {x:AV} {es:List AV} (r:RnU t n u x es) (hF:F.length=n):Row t (F++(u++l)) x es:=by
 subst ht
 exact (r.rn hF).row
theorem A0e {t : Ty} {ts : List Ty} {bytes : Nat} {zero : AV} {F u w : A3} {n : Nat} {x y : AV} {es new : List AV} {K : AV × A3 → Prop} (ht : t = .struct ts) (hz : ∀ m, K1 m zero = .node (List.replicate m zero)) (hF : F.length = n) (hr : RnU t n u x es)
  (hy:C7 t y (F++(u++w))=some (.node new)) (hn:es.length+new.length≤1000000) (hb:bytes≤10000)
  (hK:∀ x' u',RnU t n u' x' (es++new)→(u++w).length≤u'.length→(∀ j,rb x≠some (n+j)→j < (u++w).length→u'[j]?=(u++w)[j]?)→(∀ b,rb x'=some b→rb x=some b∨n+(u++w).length≤b)→K (x',F++u')):R4 t bytes zero x y (F++(u++w)) K:=by
 subst ht
 have hmul:(es.length+new.length) * bytes≤1000000 * 10000:=Nat.mul_le_mul hn hb
 have hmul2:new.length * bytes≤1000000 * 10000:=Nat.mul_le_mul (by omega) hb
 refine ⟨_,new.length,hy,rfl,?_⟩
 obtain ⟨hl,⟨rfl,rfl⟩|⟨j,c,us,rfl,h2,h3,h4,h5⟩⟩:=hr
 ·by_cases h0:new.length=0
  ·have:new=[]:=List.eq_nil_of_length_eq_zero h0
   subst this
   exact .inl ⟨rfl,hK _ (u++w) ⟨by simp,.inl ⟨rfl,rfl⟩⟩ (Nat.le_refl _) (fun _ _ _ => rfl) fun b hb=>.inl hb⟩
  ·refine .inr ⟨by omega,by unfold E0;omega,by unfold E0;omega,by omega,fun c row hc hrow=>?_⟩
   rw [A4b hz] at hrow
   cases hrow
   have:=hK (.slice (n+(u++w).length) 0 [] (.struct ts) 0 new.length (some c)) (u++w++[⟨.node (new++List.replicate (c - new.length) zero),0,.own⟩]) ⟨by simpa using hn,.inr ⟨(u++w).length,c,_,rfl,by rw [List.getElem?_append_right (Nat.le_refl _),Nat.sub_self];rfl,by simp;omega,by simpa using hc,by simp⟩⟩ (by simp)
    (fun i _ hi=>by rw [List.getElem?_append_left hi]) (fun b hb=>by cases hb;exact .inr (Nat.le_refl _))
   simpa [hF,Nat.add_assoc] using this
 ·have hj:j < u.length:=(List.getElem?_eq_some_iff.1 h2).1
  have hg:(F++(u++w))[n+j]?=some ⟨.node us,0,.own⟩:=by
   rw [←hF,List.getElem?_append_right (by omega),Nat.add_sub_cancel_left,List.getElem?_append_left hj];exact h2
  have hbk:blkAt (F++(u++w)) (n+j) 0=some ⟨.node us,0,.own⟩:=by unfold blkAt;rw [hg];rfl
  have hold:C7 (.struct ts) (.slice (n+j) 0 [] (.struct ts) 0 es.length (some c)) (F++(u++w))=some (.node es):=by
   rw [M6,hbk,G9,i0,G9,A24,Nat.zero_add,if_pos (by omega),List.drop_zero,h5]
  refine ⟨_,_,hold,rfl,?_⟩
  by_cases h0:new.length=0
  ·have:new=[]:=List.eq_nil_of_length_eq_zero h0
   subst this
   refine .inl ⟨rfl,h4,?_⟩
   exact hK _ (u++w) ⟨by simpa using hl,.inr ⟨j,c,us,by simp,by rw [List.getElem?_append_left hj];exact h2,h3,by simpa using h4,by simpa using h5⟩⟩ (Nat.le_refl _) (fun _ _ _ => rfl) fun b hb=>.inl hb
  by_cases hroom:es.length+new.length≤c
  ·refine .inr (.inl ⟨by omega,hroom,_,_,.node (us.take es.length++(new++us.drop (es.length+new.length))),_,hbk,by simp,i0 _,?_,B7P _ _,?_⟩)
   ·simp only [AV.splice,Nat.zero_add]
    rw [if_pos (by simp;omega)]
    simp
   ·have := hK (.slice (n + j) 0 [] (.struct ts) 0 (es.length + new.length) (some c)) ((u ++ w).set j ⟨.node (us.take es.length ++ (new ++ us.drop (es.length + new.length))), 0, .own⟩)
     ⟨by simpa using hn,.inr ⟨j,c,us.take es.length++(new++us.drop (es.length+new.length)),by simp,by rw [List.getElem?_set_self (by simp;omega)],by simp;omega,by simpa using hroom,by rw [h5,List.length_append,←List.append_assoc];exact List.take_left' (by simp)⟩⟩ (by simp)
     (fun i hi _ => by rw [List.getElem?_set_ne (fun e=>hi (by rw [←e];rfl))]) (fun b' hb'=>.inl hb')
    have e:(F++(u++w)).set (n+j) ⟨.node (us.take es.length++(new++us.drop (es.length+new.length))),0,.own⟩=F++(u++w).set j ⟨.node (us.take es.length++(new++us.drop (es.length+new.length))),0,.own⟩:=by
     rw [←hF,D9U]
    simp only
    rw [e];exact this
  ·refine .inr (.inr ⟨by omega,by omega,by unfold E0;omega,by unfold E0;omega,by omega,fun c' row hc hrow=>?_⟩)
   rw [A4b hz] at hrow
   cases hrow
   have:=hK (.slice (n+(u++w).length) 0 [] (.struct ts) 0 (es.length+new.length) (some c')) (u++w++[⟨.node (es++new++List.replicate (c' - (es.length+new.length)) zero),0,.own⟩]) ⟨by simpa using hn,.inr ⟨(u++w).length,c',_,by simp,by rw [List.getElem?_append_right (Nat.le_refl _),Nat.sub_self];rfl,by simp;omega,by simpa using hc,List.take_left' (by simp)⟩⟩ (by simp)
    (fun i _ hi=>by rw [List.getElem?_append_left hi]) (fun b' hb'=>by cases hb';exact .inr (Nat.le_refl _))
   simpa [hF,Nat.add_assoc] using this
@[simp] theorem G9i (c:Ci) (H:A3):P3 C3 (eCi ci0) 1 [(0,eCi c)] H=some (.slice H.length 0 [] C3 0 1 (some 1),H++[⟨.node [eCi c],0,.own⟩]):=by
 have hz:K1 1 (eCi ci0)=.node [eCi ci0]:=rfl
 simp [P3,G4,hz,G7]
@[simp] theorem G88 (c:Seat) (H:A3):P3 A7 (B0 ⟨ci0,0#8,0#32⟩) 1 [(0,B0 c)] H=some (.slice H.length 0 [] A7 0 1 (some 1),H++[⟨.node [B0 c],0,.own⟩]):=by
 have hz:K1 1 (B0 ⟨ci0,0#8,0#32⟩)=.node [B0 ⟨ci0,0#8,0#32⟩]:=rfl
 simp [P3,G4,hz,G7]
@[simp] theorem G9T (c:Inv) (H:A3):P3 B1 (B7 ⟨ci0,0#8,ci0⟩) 1 [(0,B7 c)] H=some (.slice H.length 0 [] B1 0 1 (some 1),H++[⟨.node [B7 c],0,.own⟩]):=by
 have hz:K1 1 (B7 ⟨ci0,0#8,ci0⟩)=.node [B7 ⟨ci0,0#8,ci0⟩]:=rfl
 simp [P3,G4,hz,G7]
@[simp] theorem G9U (c:Ask) (H:A3):P3 B5 (B9 ⟨ci0,0#32⟩) 1 [(0,B9 c)] H=some (.slice H.length 0 [] B5 0 1 (some 1),H++[⟨.node [B9 c],0,.own⟩]):=by
 have hz:K1 1 (B9 ⟨ci0,0#32⟩)=.node [B9 ⟨ci0,0#32⟩]:=rfl
 simp [P3,G4,hz,G7]
@[simp] theorem G9V (c:Ban) (H:A3):P3 B4 (B2 ⟨ci0,ci0⟩) 1 [(0,B2 c)] H=some (.slice H.length 0 [] B4 0 1 (some 1),H++[⟨.node [B2 c],0,.own⟩]):=by
 have hz:K1 1 (B2 ⟨ci0,ci0⟩)=.node [B2 ⟨ci0,ci0⟩]:=rfl
 simp [P3,G4,hz,G7]
end Go.Vab

namespace Go.Vab
open Go
def pts (s:Stt):List Pt:=sE s++iE s++aE s++bE s
theorem F8A (s:Stt):(pts s).length=s.seats.length+s.invites.length+s.asks.length+s.bans.length:=by simp [pts,sE,iE,aE,bE];omega
def z8 (l:List Pt) (i:Nat):Bool:=ltP (l.getD (i - 1) pt0) (l.getD i pt0)
def S9 (l:List Pt) (from_ to:Nat):Bool:=(List.range to).all fun i=>decide (i≤from_)||z8 l i
def A2l (l:List Pt) (i:Nat):Bool:=(List.range i).all fun k => !decide (l.getD i pt0=l.getD k pt0)
def A2u (l:List Pt):Bool:=(List.range l.length).all (A2l l)
def A1N (a:Stt):Bool:=!(decide (200 < a.title.length)||(!decide (a.pass.length=0) && !decide (a.pass.length=16)) || !accOk a.acc)
def A4F (a:Stt):Bool:=!(decide (40 < a.seats.length)||decide (40 < a.invites.length)||decide (40 < a.asks.length)||decide (40 < a.bans.length))
def A03 (s:Stt):Bool:=S9 (pts s) 0 s.seats.length&&(S9 (pts s) s.seats.length (s.seats.length+s.invites.length)&&(S9 (pts s) (s.seats.length+s.invites.length) (s.seats.length+s.invites.length+s.asks.length)&&S9 (pts s) (s.seats.length+s.invites.length+s.asks.length) (s.seats.length+s.invites.length+s.asks.length+s.bans.length)))
def U2 (s:Stt):Bool:=A1N s&&(A4F s&&(A03 s&&(A2u (pts s)&&((s.seats.all fun x=>roleOk x.role)&&(s.invites.all fun x=>roleOk x.role)))))
theorem C0d {n:Nat} {f:Nat→Bool} {i:Nat} (hi:i < n) (h:f i=false):(List.range n).all f=false:=by
 rw [List.all_eq_false]
 exact ⟨i,List.mem_range.2 hi,by simp [h]⟩
theorem B7R {n:Nat} {f:Nat→Bool} (h:∀ i,i < n→f i=true):(List.range n).all f=true:=by
 rw [List.all_eq_true]
 exact fun i hi=>h i (List.mem_range.1 hi)
theorem A3S {n:Nat} {f:Nat→Bool}:(List.range n).all f=true↔∀ i,i < n→f i=true:=by
 rw [List.all_eq_true]
 exact ⟨fun h i hi=>h i (List.mem_range.2 hi),fun h i hi=>h i (List.mem_range.1 hi)⟩
def nd (seen ps:List Pt):Prop:=∀ i (hi:i < ps.length),ps[i]∉seen++ps.take i
def adj (ps:List Pt):Prop:=∀ i,0 < i→i < ps.length→z8 ps i=true
theorem B6h {seen ps:List Pt}:I9 seen ps=true↔nd seen ps∧adj ps:=by
 unfold I9
 rw [A3S]
 constructor
 ·intro h
  refine ⟨fun i hi hm=>?_,fun i h0 hi=>?_⟩
  ·have:=h i hi
   simp only [M5,Bool.and_eq_true,Bool.not_eq_true',decide_eq_false_iff_not] at this
   rw [List.getD_eq_getElem?_getD,List.getElem?_eq_getElem hi] at this
   exact this.1 hm
  ·have:=h i hi
   simp only [M5,Bool.and_eq_true,Bool.or_eq_true,decide_eq_true_eq] at this
   rcases this.2 with e|e
   ·omega
   ·simpa [z8,ltP] using e
 ·rintro ⟨h1,h2⟩ i hi
  simp only [M5,Bool.and_eq_true,Bool.not_eq_true',decide_eq_false_iff_not,Bool.or_eq_true,decide_eq_true_eq]
  refine ⟨?_,?_⟩
  ·rw [List.getD_eq_getElem?_getD,List.getElem?_eq_getElem hi]
   exact h1 i hi
  ·by_cases h0:i=0
   ·exact .inl h0
   ·have:=h2 i (by omega) hi
    simp only [z8,ltP,decide_eq_true_eq] at this
    exact .inr this
theorem F8B {seen:List Pt} {p:Pt} {ps:List Pt}:nd seen (p::ps)↔p∉seen∧nd (seen++[p]) ps:=by
 constructor
 ·intro h
  refine ⟨fun hm=>h 0 (by simp) (by simpa using hm),fun i hi=>?_⟩
  have:=h (i+1) (by simpa using hi)
  simpa using this
 ·rintro ⟨h1,h2⟩ i hi
  cases i with
  | zero=>simpa using h1
  | succ i =>
   have:=h2 i (by simpa using hi)
   simpa using this
theorem A4o {ps:List Pt}:∀ {seen:List Pt},(seen++ps).Nodup↔seen.Nodup∧nd seen ps:=by
 induction ps with
 | nil=>intro seen;simp [nd]
 | cons p ps ih =>
  intro seen
  rw [show seen++p::ps=(seen++[p])++ps by simp,ih,F8B]
  rw [List.nodup_append]
  simp only [List.nodup_cons,List.not_mem_nil,not_false_eq_true,List.nodup_nil,and_self,true_and,List.mem_singleton]
  constructor
  ·rintro ⟨⟨h1,h2⟩,h3⟩
   exact ⟨h1,fun hm=>h2 p hm p rfl rfl,h3⟩
  ·rintro ⟨h1,h2,h3⟩
   exact ⟨⟨h1,fun a ha b hb e=>h2 (by rw [←hb,←e];exact ha)⟩,h3⟩
theorem D8r {l:List Pt}:A2u l=true↔l.Nodup:=by
 unfold A2u
 rw [A3S]
 unfold List.Nodup
 rw [List.pairwise_iff_getElem]
 constructor
 ·intro h i j hi hj hij e
  have:=h j hj
  unfold A2l at this
  rw [A3S] at this
  have:=this i hij
  simp only [Bool.not_eq_true',decide_eq_false_iff_not] at this
  exact this (by rw [List.getD_eq_getElem?_getD,List.getD_eq_getElem?_getD,List.getElem?_eq_getElem hi,List.getElem?_eq_getElem hj,e])
 ·intro h i hi
  unfold A2l
  rw [A3S]
  intro k hk
  simp only [Bool.not_eq_true',decide_eq_false_iff_not]
  intro e
  refine h k i (by omega) hi hk ?_
  rw [List.getD_eq_getElem?_getD,List.getD_eq_getElem?_getD,List.getElem?_eq_getElem hi,List.getElem?_eq_getElem (by omega)] at e
  simpa using e.symm
theorem A5A {A B C:List Pt}:S9 (A++B++C) A.length (A.length+B.length)=true↔adj B:=by
 unfold S9 adj
 rw [A3S]
 have hg:∀ j,j < B.length→(A++B++C).getD (A.length+j) pt0=B.getD j pt0:=by
  intro j hj
  rw [List.getD_eq_getElem?_getD,List.getD_eq_getElem?_getD,List.append_assoc,List.getElem?_append_right (by omega),Nat.add_sub_cancel_left,List.getElem?_append_left hj]
 constructor
 ·intro h i h0 hi
  have:=h (A.length+i) (by omega)
  simp only [Bool.or_eq_true,decide_eq_true_eq] at this
  rcases this with e|e
  ·omega
  ·unfold z8 at e ⊢
   rw [show A.length+i - 1=A.length+(i - 1) by omega,hg _ (by omega),hg _ hi] at e
   exact e
 ·intro h i hi
  simp only [Bool.or_eq_true,decide_eq_true_eq]
  by_cases hle:i≤A.length
  ·exact .inl hle
  ·right
   obtain ⟨j,rfl⟩:∃ j,i=A.length+j:=⟨i - A.length,by omega⟩
   have:=h j (by omega) (by omega)
   unfold z8 at this ⊢
   rw [show A.length+j - 1=A.length+(j - 1) by omega,hg _ (by omega),hg _ (by omega)]
   exact this
theorem B7S (s:Stt):U2 s=E4 s:=by
 rw [Bool.eq_iff_iff]
 have e1:S9 (pts s) 0 s.seats.length=true↔adj (sE s):=by
  have:=A5A (A:=[]) (B:=sE s) (C:=iE s++aE s++bE s)
  simpa [pts,sE] using this
 have e2:S9 (pts s) s.seats.length (s.seats.length+s.invites.length)=true↔adj (iE s):=by
  have:=A5A (A:=sE s) (B:=iE s) (C:=aE s++bE s)
  simpa [pts,sE,iE] using this
 have e3:S9 (pts s) (s.seats.length+s.invites.length) (s.seats.length+s.invites.length+s.asks.length)=true↔adj (aE s):=by
  have:=A5A (A:=sE s++iE s) (B:=aE s) (C:=bE s)
  simpa [pts,sE,iE,aE] using this
 have e4:S9 (pts s) (s.seats.length+s.invites.length+s.asks.length) (s.seats.length+s.invites.length+s.asks.length+s.bans.length)=true↔adj (bE s):=by
  have:=A5A (A:=sE s++iE s++aE s) (B:=bE s) (C:=[])
  simpa [pts,sE,iE,aE,bE,Nat.add_assoc] using this
 have e5:A2u (pts s)=true↔nd [] (sE s)∧nd (sE s) (iE s)∧nd (sE s++iE s) (aE s)∧nd (sE s++iE s++aE s) (bE s):=by
  rw [D8r]
  unfold pts
  rw [A4o,A4o,A4o]
  have:(sE s).Nodup↔nd [] (sE s):=by
   have:=A4o (seen:=[]) (ps:=sE s)
   simpa using this
  rw [this]
  simp only [and_assoc]
 have e6:A1N s=A0n s∨True:=.inr trivial
 have hsh:A1N s=A0n s:=by
  unfold A1N A0n
  congr 1
  have:(!decide (s.pass.length=0) && !decide (s.pass.length=16))=(decide (s.pass.length % 16≠0)||decide (16 < s.pass.length)):=by
   rw [Bool.eq_iff_iff]
   simp only [Bool.and_eq_true,Bool.not_eq_true',decide_eq_false_iff_not,Bool.or_eq_true,decide_eq_true_eq]
   omega
  rw [this,←Bool.or_assoc]
 have hr1:(s.seats.all fun x=>roleOk x.role) = !(s.seats.any fun x => !roleOk x.role):=by rw [List.not_any_eq_all_not];simp only [Bool.not_not]
 have hr2:(s.invites.all fun x=>roleOk x.role) = !(s.invites.any fun x => !roleOk x.role):=by rw [List.not_any_eq_all_not];simp only [Bool.not_not]
 unfold U2 E4
 rw [hsh,hr1,hr2]
 unfold A4F A03
 simp only [Bool.and_eq_true,B6h,e1,e2,e3,e4,e5,Bool.not_eq_true',Bool.or_eq_false_iff,decide_eq_false_iff_not,decide_eq_true_eq,Nat.not_lt]
 constructor
 ·rintro ⟨h1,⟨⟨⟨h2,h3⟩,h4⟩,h5⟩,⟨h6,h7,h8,h9⟩,⟨h10,h11,h12,h13⟩,h14,h15⟩
  exact ⟨h1,⟨h2,h10,h6⟩,⟨h3,h11,h7⟩,⟨h4,h12,h8⟩,⟨h5,h13,h9⟩,h14,h15⟩
 ·rintro ⟨h1,⟨h2,h10,h6⟩,⟨h3,h11,h7⟩,⟨h4,h12,h8⟩,⟨h5,h13,h9⟩,h14,h15⟩
  exact ⟨h1,⟨⟨⟨h2,h3⟩,h4⟩,h5⟩,⟨h6,h7,h8,h9⟩,⟨h10,h11,h12,h13⟩,h14,h15⟩
end Go.Vab

namespace Go.Vab
open Go
theorem Row.pre {t:Ty} {h:A3} {x:AV} {vs:List AV} (hr:Row t h x vs) {n:Nat} (hn:n≤vs.length):∃ y,C9 t x none (some (nat n)) none=some y∧Row t h y (vs.take n)∧(∀ b,rb y=some b→rb x=some b):=by
 obtain ⟨h1,h2,h3⟩:=hr
 cases x with
 | nilslice =>
  have hl:vs=[]:=List.eq_nil_of_length_eq_zero h2
  subst hl
  have:n=0:=by simpa using hn
  subst this
  refine ⟨.nilslice,by simp [C9,D3,Q1,Q3,nat],⟨h1,rfl,by simp⟩,fun b hb=>hb⟩
 | slice i ver path t' off len cap =>
  cases cap with
  | none=>exact h2.elim
  | some c =>
   obtain ⟨e1,e2,e3⟩:=h2
   subst e3;subst e1
   refine ⟨.slice i ver path t' off n (some c),?_,⟨?_,?_,?_⟩,fun b hb=>hb⟩
   ·have:n≤c:=by omega
    simp [C9,D3,Q1,Q3,nat,this]
   ·rw [M6] at h1 ⊢
    obtain ⟨bb,g1,g2⟩:=bnd_eq_some.1 h1
    obtain ⟨r,g3,g4⟩:=bnd_eq_some.1 g2
    rw [g1,G9,g3,G9]
    cases r <;> simp only [AV.cut] at g4 <;> try (cases g4;done)
    case ints k xs=>split at g4 <;> cases g4
    case node us =>
     split at g4
     ·rename_i hle
      have e:=Option.some.inj g4
      injection e with e
      rw [A24,if_pos (by omega)]
      congr 2
      have:vs.take n=(List.take vs.length (List.drop off us)).take n:=by rw [e]
      rw [this,List.take_take,Nat.min_eq_left hn]
     ·cases g4
   ·rw [List.length_take,Nat.min_eq_left hn];exact ⟨rfl,by omega,rfl⟩
   ·rw [List.length_take];omega
 | _ => exact h2.elim
theorem Row.suf {t:Ty} {h:A3} {x:AV} {vs:List AV} (hr:Row t h x vs) {n:Nat} (hn:n≤vs.length):∃ y,C9 t x (some (nat n)) none none=some y∧Row t h y (vs.drop n)∧(∀ b,rb y=some b→rb x=some b):=by
 obtain ⟨h1,h2,h3⟩:=hr
 cases x with
 | nilslice =>
  have hl:vs=[]:=List.eq_nil_of_length_eq_zero h2
  subst hl
  have:n=0:=by simpa using hn
  subst this
  refine ⟨.nilslice,by simp [C9,D3,Q1,Q3,nat],⟨h1,rfl,by simp⟩,fun b hb=>hb⟩
 | slice i ver path t' off len cap =>
  cases cap with
  | none=>exact h2.elim
  | some c =>
   obtain ⟨e1,e2,e3⟩:=h2
   subst e3;subst e1
   refine ⟨.slice i ver path t' (off+n) (vs.length - n) (some (c - n)),?_,⟨?_,?_,?_⟩,fun b hb=>hb⟩
   ·have:n≤vs.length:=hn
    simp [C9,D3,Q1,Q3,nat,this]
   ·rw [M6] at h1 ⊢
    obtain ⟨bb,g1,g2⟩:=bnd_eq_some.1 h1
    obtain ⟨r,g3,g4⟩:=bnd_eq_some.1 g2
    rw [g1,G9,g3,G9]
    cases r <;> simp only [AV.cut] at g4 <;> try (cases g4;done)
    case ints k xs=>split at g4 <;> cases g4
    case node us =>
     split at g4
     ·rename_i hle
      have e:=Option.some.inj g4
      injection e with e
      rw [A24,if_pos (by omega)]
      congr 2
      rw [←e,List.drop_take,List.drop_drop]
      congr 1
      rw [e]
     ·cases g4
   ·rw [List.length_drop];exact ⟨rfl,by omega,rfl⟩
   ·rw [List.length_drop];omega
 | _ => exact h2.elim
theorem A0o {X:Type} (f:X→Pt) (l:List X) (e:Pt):low f l e≤l.length:=by
 unfold low
 exact (List.takeWhile_sublist _).length_le
theorem X8 {X:Type} (f:X→Pt) {l:List X} {e:Pt} {i:Nat} (hi:i≤l.length) (h1:∀ j (hj:j < l.length),j < i→ltP (f l[j]) e=true) (h2:∀ hi:i < l.length,ltP (f l[i]) e=false):low f l e=i:=by
 unfold low
 induction l generalizing i with
 | nil=>simp at hi;subst hi;rfl
 | cons x l ih =>
  cases i with
  | zero =>
   have:=h2 (by simp)
   simp only [List.getElem_cons_zero] at this
   rw [List.takeWhile_cons,this];rfl
  | succ i =>
   have h0:=h1 0 (by simp) (by omega)
   simp only [List.getElem_cons_zero] at h0
   rw [List.takeWhile_cons,h0]
   simp only [if_true,List.length_cons]
   rw [ih (by simpa using hi) (fun j hj hji=>h1 (j+1) (by simpa using hj) (by omega)) (fun hi=>h2 (by simpa using hi))]
theorem Y2 {t : Ty} {ts : List Ty} {bytes : Nat} {zero : AV} {h : A3} (cs u w : A3) {H : A3} {n : Nat} {x y : AV} {es new : List AV} {K : AV × A3 → Prop} (hH : H = h ++ (cs ++ (u ++ w))) (hn : n = h.length + cs.length) (ht : t = .struct ts) (hz : ∀ m, K1 m zero = .node (List.replicate m zero))
  (hr:RnU t n u x es) (hy:C7 t y H=some (.node new)) (hl:es.length+new.length≤1000000) (hb:bytes≤10000)
  (hK:∀ x' u',RnU t n u' x' (es++new)→(u++w).length≤u'.length→(∀ j,rb x≠some (n+j)→j < (u++w).length→u'[j]?=(u++w)[j]?)→(∀ b,rb x'=some b→rb x=some b∨n+(u++w).length≤b)→K (x',h++(cs++u'))):R4 t bytes zero x y H K:=by
 have e:h++(cs++(u++w))=(h++cs)++(u++w):=by rw [List.append_assoc]
 rw [hH,e]
 refine A0e (es:=es) (new:=new) ht hz (by rw [List.length_append,hn]) hr (by rw [←e,←hH];exact hy) hl hb fun x' u' g1 g2 g3 g4=>?_
 rw [List.append_assoc]
 exact hK x' u' g1 g2 g3 g4
theorem RnU.one {t:Ty} {n:Nat} {us:List AV} {l:A3}:RnU t n (⟨.node us,0,.own⟩::l) (.slice n 0 [] t 0 0 (some us.length)) []:=⟨by simp,.inr ⟨0,us.length,us,rfl,rfl,rfl,by simp,rfl⟩⟩
theorem Y9 {P:Program} {C:Ctx} {c:Code} {Q:Ex × St→Prop} (Q':Ex × St→Prop) {s:St} (h:A2i (wC P C c) Q' s) (hq:∀ r,Q' r→Q r):A2i (wC P C c) Q s:=by
 obtain ⟨I,n,h0,step⟩:=h
 exact ⟨I,n,h0,fun m s hs=>A0k c (fun r hr=>hr.imp id fun ⟨a,b⟩=>⟨a,hq _ b⟩) (step m s hs)⟩
end Go.Vab

namespace Go.Vab
open Go
def Fld (t:Ty) (n:Nat) (h u:A3) (x:AV) (es:List AV):Prop:=Row t h x es∨RnU t n u x es
theorem Fld.row {t:Ty} {ts:List Ty} (ht:t=.struct ts) {n:Nat} {h cs u:A3} {x:AV} {es:List AV} (f:Fld t n h u x es) (hn:n=h.length+cs.length):Row t (h++(cs++u)) x es:=by
 rcases f with f|f
 ·exact f.app _
 ·have:=f.row (F:=h++cs) (l:=[]) ht (by rw [List.length_append,hn])
  simpa using this
theorem Fld.cell {t:Ty} {n:Nat} {h u:A3} {x:AV} {es:List AV} (f:Fld t n h u x es):A4 x .cell=true:=by
 rcases f with f|f
 ·exact f.cell
 ·exact f.cell
theorem Fld.keep {t:Ty} {n:Nat} {h u u':A3} {x:AV} {es:List AV} (f:Fld t n h u x es) (hk:∀ j,j < u.length→u'[j]?=u[j]?):Fld t n h u' x es:=by
 rcases f with f|f
 ·exact .inl f
 ·refine .inr (f.mono fun j c _ hj=>?_)
  rw [hk j (List.getElem?_eq_some_iff.1 hj).1];exact hj
@[simp] theorem G9W (l:Bs):B3a (.str (J9 l))=some (nat l.length):=by
 simp only [B3a,A0d]
 simp [by8,nat,ByteArray.size]
theorem F85 {l:Bs} {i:Nat} (hi:i < l.length):A5R (.str (J9 l)) (nat i)=some (u8 l[i]):=by
 have hn:Q3 (nat i)=some i:=by simp [Q3,nat]
 simp only [A5R,hn,G9,A0d]
 have:(by8 l)[i]?=some (UInt8.ofNat l[i].toNat):=by simp [by8,List.getElem?_eq_getElem hi]
 rw [this]
 simp [u8]
def Lo (n:Nat) (v x:AV):Prop:=∀ b,rb x=some b→rb v=some b∨n≤b
theorem Lo.self (n:Nat) (v:AV):Lo n v v:=fun _ h=>.inl h
theorem Row.other {t:Ty} {H H':A3} {x:AV} {es:List AV} (r:Row t H x es) (hk:∀ b,rb x=some b→H'[b]?=H[b]?):Row t H' x es:=by
 refine ⟨?_,r.2⟩
 have h1:=r.1
 cases x with
 | slice i ver path t' off len cap =>
  simp only [C7] at h1 ⊢
  unfold blkAt at h1 ⊢
  rw [hk i rfl];exact h1
 | _ => exact h1
theorem BytL.other {H H':A3} {x:AV} {l:Bs} (r:BytL H x l) (hk:∀ b,rb x=some b→H'[b]?=H[b]?):BytL H' x l:=by
 refine ⟨⟨?_,r.1.2⟩,r.2⟩
 have h1:=r.1.1
 cases x with
 | slice i ver path t' off len cap =>
  simp only [C7] at h1 ⊢
  unfold blkAt at h1 ⊢
  rw [hk i rfl];exact h1
 | _ => exact h1
theorem StR.other {H H':A3} {s:Stt} {vt vp vs vi va vb:AV} (r:StR H s vt vp vs vi va vb) (hk:∀ y∈[vt,vp,vs,vi,va,vb],∀ b,rb y=some b→H'[b]?=H[b]?):StR H' s vt vp vs vi va vb :=
 ⟨r.ft.other (hk _ (by simp)),r.fp.other (hk _ (by simp)),r.fs.other (hk _ (by simp)),r.fi.other (hk _ (by simp)),r.fa.other (hk _ (by simp)),r.fb.other (hk _ (by simp))⟩
theorem A2A {h A B:A3} {c c':Blk} {b:Nat} (hb:b≠h.length+A.length):(h++(A++c'::B))[b]?=(h++(A++c::B))[b]?:=by
 by_cases h1:b < h.length
 ·rw [List.getElem?_append_left h1,List.getElem?_append_left h1]
 ·have h1:=Nat.le_of_not_lt h1
  rw [List.getElem?_append_right (l₁:=h) h1,List.getElem?_append_right (l₁:=h) h1]
  by_cases h2:b - h.length < A.length
  ·rw [List.getElem?_append_left h2,List.getElem?_append_left h2]
  ·have h2:=Nat.le_of_not_lt h2
   rw [List.getElem?_append_right (l₁:=A) h2,List.getElem?_append_right (l₁:=A) h2]
   obtain ⟨k,hk⟩:∃ k,b - h.length - A.length=k+1:=⟨b - h.length - A.length - 1,by omega⟩
   rw [hk];rfl
theorem StR.rb_lt {h:A3} {s:Stt} {vt vp vs vi va vb:AV} (r:StR h s vt vp vs vi va vb):∀ y∈[vt,vp,vs,vi,va,vb],∀ b,rb y=some b→b < h.length:=by
 intro y hy
 simp only [List.mem_cons,List.not_mem_nil,or_false] at hy
 rcases hy with rfl|rfl|rfl|rfl|rfl|rfl
 ·exact r.ft.rb_lt'
 ·exact r.fp.rb_lt'
 ·exact r.fs.rb_lt
 ·exact r.fi.rb_lt
 ·exact r.fa.rb_lt
 ·exact r.fb.rb_lt
def R5 (s0:Stt) (e:Pt) (t:Stt) (c:BitVec 8):Stt :=
 if c=115#8 then { t with seats:=del fS s0.seats e } else if c=105#8 then { t with invites:=del fI s0.invites e } else if c=97#8 then { t with asks:=del fA s0.asks e } else if c=98#8 then { t with bans:=del fB s0.bans e } else t
def W5 (s:Stt) (e:Pt) (ls:Bs):Stt:=ls.foldl (R5 s e) s
theorem A5B {X:Type} (f:X→Pt) (l:List X) (e:Pt) {i:Nat} (hi:i < l.length):del f (l.take (i+1)) e=del f (l.take i) e++(if f l[i]=e then [] else [l[i]]):=by
 unfold del
 rw [List.take_add_one,List.getElem?_eq_getElem hi,List.filter_append]
 congr 1
 by_cases h:f l[i]=e <;> simp [h]
theorem F4y {s:Stt} {e:Pt} {ls:Bs} {k:Nat} (hk:k < ls.length):W5 s e (ls.take (k+1))=R5 s e (W5 s e (ls.take k)) ls[k]:=by
 unfold W5
 rw [List.take_add_one,List.getElem?_eq_getElem hk,List.foldl_append]
 rfl
theorem F4z (s0:Stt) (e:Pt) (t:Stt) (c:BitVec 8):(R5 s0 e t c).version=t.version∧(R5 s0 e t c).key=t.key∧(R5 s0 e t c).acc=t.acc∧(R5 s0 e t c).title=t.title∧(R5 s0 e t c).pass=t.pass:=by
 unfold R5
 split
 ·exact ⟨rfl,rfl,rfl,rfl,rfl⟩
 split
 ·exact ⟨rfl,rfl,rfl,rfl,rfl⟩
 split
 ·exact ⟨rfl,rfl,rfl,rfl,rfl⟩
 split <;> exact ⟨rfl,rfl,rfl,rfl,rfl⟩
theorem F40 (s:Stt) (e:Pt) (ls:Bs):(W5 s e ls).version=s.version∧(W5 s e ls).key=s.key∧(W5 s e ls).acc=s.acc∧(W5 s e ls).title=s.title∧(W5 s e ls).pass=s.pass:=by
 unfold W5
 have gen:∀ (ls:Bs) (t:Stt),(t.version=s.version∧t.key=s.key∧t.acc=s.acc∧t.title=s.title∧t.pass=s.pass)→((ls.foldl (R5 s e) t).version=s.version∧(ls.foldl (R5 s e) t).key=s.key∧(ls.foldl (R5 s e) t).acc=s.acc∧(ls.foldl (R5 s e) t).title=s.title∧(ls.foldl (R5 s e) t).pass=s.pass):=by
  intro ls
  induction ls with
  | nil=>intro t h;exact h
  | cons c ls ih =>
   intro t h
   obtain ⟨a,b,c',d,e'⟩:=F4z s e t c
   exact ih _ ⟨a.trans h.1,b.trans h.2.1,c'.trans h.2.2.1,d.trans h.2.2.2.1,e'.trans h.2.2.2.2⟩
 exact gen ls s ⟨rfl,rfl,rfl,rfl,rfl⟩
section
variable (c d:Ci) (r:BitVec 8) (j:BitVec 32)
@[simp] theorem G8W:G4 A7 (B0 ⟨ci0,0#8,0#32⟩) [(0,eCi c),(1,u8 r),(2,u32 j)]=some (B0 ⟨c,r,j⟩):=by simp [G4,B0,-A26]
@[simp] theorem G7j:G4 A7 (B0 ⟨ci0,0#8,0#32⟩) [(0,eCi c),(1,u8 r)]=some (B0 ⟨c,r,0#32⟩):=by simp [G4,B0,-A26]
@[simp] theorem G89:G4 B1 (B7 ⟨ci0,0#8,ci0⟩) [(0,eCi c),(1,u8 r),(2,eCi d)]=some (B7 ⟨c,r,d⟩):=by simp [G4,B7,-D7z]
@[simp] theorem G9A:G4 B5 (B9 ⟨ci0,0#32⟩) [(0,eCi c),(1,u32 j)]=some (B9 ⟨c,j⟩):=by simp [G4,B9,-D70]
@[simp] theorem G9B:G4 B4 (B2 ⟨ci0,ci0⟩) [(0,eCi c),(1,eCi d)]=some (B2 ⟨c,d⟩):=by simp [G4,B2,-A4l]
@[simp] theorem G6S (z:Seat):(B0 z).put [1] (u8 r)=some (B0 { z with role:=r }):=by simp [B0,-A26]
@[simp] theorem G8X:G4 B4 (B2 ⟨ci0,ci0⟩) [(1,eCi d)]=some (B2 ⟨ci0,d⟩):=by simp [G4,B2,-A4l]
end
end Go.Vab

namespace Go.Vab
open Go
section
variable {X:Type} (f:X→Pt)
def srt (l:List X):Prop:=∀ i j (hi:i < l.length) (hj:j < l.length),i < j→ltP (f l[i]) (f l[j])=true
theorem A7X {l:List X} (h:adj (l.map f)):srt f l:=by
 intro i j hi hj hij
 induction j with
 | zero=>omega
 | succ j ih =>
  have h1:=h (j+1) (by omega) (by simpa using hj)
  unfold z8 at h1
  rw [List.getD_eq_getElem?_getD,List.getD_eq_getElem?_getD,Nat.add_sub_cancel,List.getElem?_map,List.getElem?_map,List.getElem?_eq_getElem hj,List.getElem?_eq_getElem (show j < l.length by omega)] at h1
  simp only [Option.map_some,Option.getD_some] at h1
  by_cases hq:i=j
  ·subst hq;exact h1
  ·exact l0 (ih (by omega) (by omega)) h1
variable {f}
theorem C0e {l:List X} {e:Pt} {j:Nat} (hj:j < l.length) (h:j < low f l e):ltP (f l[j]) e=true:=by
 unfold low at h
 induction l generalizing j with
 | nil=>simp at hj
 | cons x l ih =>
  rw [List.takeWhile_cons] at h
  split at h
  ·rename_i hx
   cases j with
   | zero=>exact hx
   | succ j=>exact ih (by simpa using hj) (by simpa using h)
  ·simp at h
theorem D9c {l:List X} {e:Pt} (h:low f l e < l.length):ltP (f l[low f l e]) e=false:=by
 have gen:∀ (l:List X) (n:Nat) (hn:n < l.length),(l.takeWhile fun y=>ltP (f y) e).length=n→ltP (f l[n]) e=false:=by
  intro l
  induction l with
  | nil=>intro n hn;simp at hn
  | cons x l ih =>
   intro n hn he
   rw [List.takeWhile_cons] at he
   split at he
   ·subst he
    exact ih _ (by simpa using hn) rfl
   ·rename_i hx
    subst he
    simpa using hx
 exact gen l _ h rfl
theorem F86 {l:List X} {e:Pt} (hs:srt f l) {j:Nat} (hj:j < l.length) (h:low f l e≤j):ltP (f l[j]) e=false:=by
 have h0:=D9c (f:=f) (e:=e) (l:=l) (by omega)
 by_cases hq:low f l e=j
 ·subst hq;exact h0
 ·have h1:=hs _ _ (by omega) hj (show low f l e < j by omega)
  cases hx:ltP (f l[j]) e
  ·rfl
  ·rw [l0 h1 hx] at h0;cases h0
theorem A7Y {l:List X} {e:Pt} (hs:srt f l) {j:Nat} (hj:j < l.length) (h:f l[j]=e):j=low f l e:=by
 have h1:¬ j < low f l e:=fun q=>by
  have:=C0e (f:=f) (e:=e) hj q
  rw [h,D7e] at this;cases this
 have h2:¬ low f l e < j:=fun q=>by
  have h3:=hs _ _ (by omega) hj q
  have h4:=D9c (f:=f) (e:=e) (l:=l) (by omega)
  rw [h] at h3;rw [h3] at h4;cases h4
 omega
theorem B7T {l:List X} {e:Pt} (hs:srt f l):fnd f l e=if h:low f l e < l.length then (if f l[low f l e]=e then some l[low f l e] else none) else none:=by
 have no:(∀ j (hj:j < l.length),f l[j]≠e)→fnd f l e=none:=fun h=>by
  unfold fnd;rw [List.find?_eq_none]
  intro x hx
  obtain ⟨j,hj,rfl⟩:=List.mem_iff_getElem.1 hx
  simp [h j hj]
 split
 ·rename_i hlt
  split
  ·rename_i he
   unfold fnd
   rw [List.find?_eq_some_iff_getElem]
   refine ⟨by simp [he],_,hlt,rfl,fun j hj=>?_⟩
   have:=C0e (f:=f) (e:=e) (show j < l.length by omega) hj
   simp only [Bool.not_eq_true',decide_eq_false_iff_not]
   intro q
   rw [q,D7e] at this;cases this
  ·rename_i he
   refine no fun j hj q=>?_
   have:=A7Y hs hj q
   subst this
   exact he q
 ·rename_i hlt
  exact no fun j hj q=>hlt (A7Y hs hj q ▸ hj)
theorem A3J {l:List X} {e:Pt} (hs:srt f l) (h:low f l e < l.length):A8 f l e=decide (f l[low f l e]=e):=by
 unfold A8;rw [B7T hs,dif_pos h]
 by_cases he:f l[low f l e]=e <;> simp [he]
theorem A3K {l:List X} {e:Pt} (hs:srt f l) (h:¬ low f l e < l.length):A8 f l e=false:=by
 unfold A8;rw [B7T hs,dif_neg h];rfl
theorem U4 {l:List X} {e:Pt} (hs:srt f l) (h:A8 f l e=true):∃ hl:low f l e < l.length,f l[low f l e]=e∧fnd f l e=some l[low f l e]:=by
 by_cases hl:low f l e < l.length
 ·have:=A3J hs hl
  rw [h] at this
  have he:f l[low f l e]=e:=by simpa using this.symm
  exact ⟨hl,he,by rw [B7T hs,dif_pos hl,if_pos he]⟩
 ·rw [A3K hs hl] at h;cases h
theorem S0 {l:List X} {e:Pt} (h:A8 f l e=false):fnd f l e=none:=by
 cases q:fnd f l e with
 | none=>rfl
 | some x=>rw [A8,q] at h;cases h
theorem D9d {l:List X} {e:Pt} (h:A8 f l e=false):∀ x∈l,f x≠e:=by
 have:=S0 h
 unfold fnd at this
 rw [List.find?_eq_none] at this
 intro x hx
 simpa using this x hx
theorem A1O {l:List X} {e:Pt} (h:A8 f l e=false):del f l e=l:=by
 unfold del
 rw [List.filter_eq_self]
 intro x hx
 simp [D9d h x hx]
theorem A3T {l:List X} {e:Pt} (hs:srt f l) (h:A8 f l e=true):del f l e=l.take (low f l e)++l.drop (low f l e+1):=by
 obtain ⟨hl,he,_⟩:=U4 hs h
 have e1:l=l.take (low f l e)++(l[low f l e]::l.drop (low f l e+1)):=by
  rw [←List.drop_eq_getElem_cons hl,List.take_append_drop]
 have a1:(l.take (low f l e)).filter (fun x => !decide (f x=e))=l.take (low f l e):=by
  rw [List.filter_eq_self]
  intro x hx
  obtain ⟨j,hj,rfl⟩:=List.mem_iff_getElem.1 hx
  rw [List.getElem_take]
  simp only [Bool.not_eq_true',decide_eq_false_iff_not]
  intro q
  have h1:=A7Y hs (by simp at hj;omega) q
  simp at hj;omega
 have a2:(l.drop (low f l e+1)).filter (fun x => !decide (f x=e))=l.drop (low f l e+1):=by
  rw [List.filter_eq_self]
  intro x hx
  obtain ⟨j,hj,rfl⟩:=List.mem_iff_getElem.1 hx
  rw [List.getElem_drop]
  simp only [Bool.not_eq_true',decide_eq_false_iff_not]
  intro q
  have h1:=A7Y hs (by simp at hj;omega) q
  omega
 unfold del
 conv=>lhs;arg 2;rw [e1]
 rw [List.filter_append,List.filter_cons,if_neg (by simp [he]),a1,a2]
theorem F8C {l m:List X} (hs:srt f l) (h:m.Sublist l):srt f m:=by
 have e:∀ l:List X,srt f l↔l.Pairwise fun x y=>ltP (f x) (f y)=true:=by
  intro l
  rw [List.pairwise_iff_getElem]
  exact ⟨fun h i j hi hj hij=>h i j hi hj hij,fun h i j hi hj hij=>h i j hi hj hij⟩
 rw [e] at hs ⊢
 exact hs.sublist h
theorem B7U {l:List X} {e:Pt} (hs:srt f l):srt f (del f l e):=F8C hs List.filter_sublist
end
structure Srt (w:Stt):Prop where
 s:srt fS w.seats
 i:srt fI w.invites
 a:srt fA w.asks
 b:srt fB w.bans
theorem F8D {s:Stt} (h:E4 s=true):Srt s:=by
 unfold E4 at h
 simp only [Bool.and_eq_true,B6h] at h
 obtain ⟨_,⟨_,_,h1⟩,⟨_,_,h2⟩,⟨_,_,h3⟩,⟨_,_,h4⟩,_⟩:=h
 exact ⟨A7X _ h1,A7X _ h2,A7X _ h3,A7X _ h4⟩
theorem A0f {s:Stt} (h:E4 s=true):s.seats.length≤40∧s.invites.length≤40∧s.asks.length≤40∧s.bans.length≤40:=by
 unfold E4 at h
 simp only [Bool.and_eq_true,decide_eq_true_eq] at h
 exact ⟨h.2.1.1,h.2.2.1.1,h.2.2.2.1.1,h.2.2.2.2.1.1⟩
theorem t9 {X:Type} (f:X→Pt) (l:List X) (e:Pt):(del f l e).length≤l.length:=List.length_filter_le _ _
end Go.Vab

namespace Go.Vab
open Go
def KRow {X:Type} (κ:Nat→Nat) (k:Nat) (t:Ty) (E:X→AV) (H:A3) (x:AV) (l:List X):Prop :=
 l.length≤1000∧((l=[]∧Row t H x []∧A0B x=some (nat 0)∧∀ b,rb x=some b→κ b=8) ∨
  ∃ (b c:Nat) (xs:List X),κ b=k∧x=.slice b 0 [] t 0 l.length (some c)∧H[b]?=some ⟨.node (xs.map E),0,.own⟩∧xs.length=c∧0 < c∧xs.take l.length=l)
structure Chg (κ:Nat→Nat) (k:Nat) (H:A3) (κ':Nat→Nat) (H':A3):Prop where
 len:H.length≤H'.length
 old:∀ i,i < H.length→κ' i=κ i
 keep:∀ i,i < H.length→κ i≠k→H'[i]?=H[i]?
 top:(∀ i,H.length≤i→κ i=0)→∀ i,H'.length≤i→κ' i=0
section
variable {X:Type} {κ:Nat→Nat} {k:Nat} {t:Ty} {E:X→AV} {H:A3} {x:AV} {l:List X}
theorem A9 {H:A3} {b:Nat} {v:AV} (hb:H[b]?=some ⟨v,0,.own⟩):blkAt H b 0=some ⟨v,0,.own⟩:=by unfold blkAt;rw [hb];rfl
theorem M3 {b off n:Nat} {c:Option Nat} {xs:List X} (hb:H[b]?=some ⟨.node (xs.map E),0,.own⟩) (hn:off+n≤xs.length):C7 t (.slice b 0 [] t off n c) H=some (.node (((xs.drop off).take n).map E)):=by
 rw [M6,A9 hb,G9,i0,G9,A24,if_pos (by simpa using hn),List.map_take,List.map_drop]
theorem KRow.row {ts:List Ty} (r:KRow κ k (.struct ts) E H x l):Row (.struct ts) H x (l.map E):=by
 obtain ⟨hl,⟨rfl,h1,_⟩|⟨b,c,xs,hk,rfl,hb,hc,h0,ht⟩⟩:=r
 ·exact h1
 ·have hle : l.length ≤ xs.length := by
   have:=congrArg List.length ht
   rw [List.length_take] at this;omega
  refine ⟨?_,⟨by simp,by omega,rfl⟩,by simp;omega⟩
  rw [M3 hb (by omega),List.drop_zero,ht]
theorem KRow.le (r:KRow κ k t E H x l):l.length≤1000:=r.1
theorem KRow.cell (r:KRow κ k t E H x l):A4 x .cell=true:=by
 obtain ⟨hl,⟨rfl,h1,_⟩|⟨b,c,xs,hk,rfl,_⟩⟩:=r
 ·exact h1.cell
 ·rfl
theorem KRow.len (r:KRow κ k t E H x l):L9 x=some (nat l.length):=by
 obtain ⟨hl,⟨rfl,h1,_⟩|⟨b,c,xs,hk,rfl,_⟩⟩:=r
 ·exact h1.len
 ·rfl
theorem KRow.lt (r:KRow κ k t E H x l):∀ b,rb x=some b→b < H.length:=by
 obtain ⟨hl,⟨rfl,h1,_⟩|⟨b,c,xs,hk,rfl,hb,_⟩⟩:=r
 ·exact h1.rb_lt
 ·intro b' h;cases h;exact (List.getElem?_eq_some_iff.1 hb).1
theorem KRow.kind (r:KRow κ k t E H x l):∀ b,rb x=some b→κ b=8∨κ b=k:=by
 obtain ⟨hl,⟨rfl,h1,_,h2⟩|⟨b,c,xs,hk,rfl,hb,_⟩⟩:=r
 ·exact fun b h=>.inl (h2 b h)
 ·intro b' h;cases h;exact .inr hk
theorem KRow.other {κ':Nat→Nat} {H':A3} (r:KRow κ k t E H x l) (hk:∀ i,i < H.length→κ i=8∨κ i=k→κ' i=κ i∧H'[i]?=H[i]?):KRow κ' k t E H' x l:=by
 have hlt:=r.lt
 have hkd:=r.kind
 obtain ⟨hl,⟨rfl,h1,h2,h3⟩|⟨b,c,xs,hk',rfl,hb,h4⟩⟩:=r
 ·exact ⟨hl,.inl ⟨rfl,h1.other fun b hb=>(hk b (hlt b hb) (hkd b hb)).2,h2,fun b hb=>by rw [(hk b (hlt b hb) (hkd b hb)).1];exact h3 b hb⟩⟩
 ·obtain ⟨g1,g2⟩:=hk b (hlt b rfl) (hkd b rfl)
  exact ⟨hl,.inr ⟨b,c,xs,by rw [g1];exact hk',rfl,by rw [g2];exact hb,h4⟩⟩
theorem KRow.chg {κ':Nat→Nat} {H':A3} {j:Nat} (r:KRow κ k t E H x l) (h:Chg κ j H κ' H') (h1:j≠8) (h2:k≠j):KRow κ' k t E H' x l :=
 r.other fun i hi hk=>⟨h.old i hi,h.keep i hi (by rcases hk with e|e <;> omega)⟩
theorem A7Z {b off len i j m c:Nat} (h1:i≤j) (h2:j≤m) (h3:m≤c):C9 t (.slice b 0 [] t off len (some c)) (some (nat i)) (some (nat j)) (some (nat m))=some (.slice b 0 [] t (off+i) (j - i) (some (m - i))):=by
 simp [C9,D3,Q1,Q3,nat,h1,h2,h3]
theorem T6 {b off len j c:Nat} (h2:j≤c):C9 t (.slice b 0 [] t off len (some c)) none (some (nat j)) none=some (.slice b 0 [] t off j (some c)):=by
 simp [C9,D3,Q1,Q3,nat,h2]
theorem K2 {b off len i c:Nat} (h1:i≤len):C9 t (.slice b 0 [] t off len (some c)) (some (nat i)) none none=some (.slice b 0 [] t (off+i) (len - i) (some (c - i))):=by
 simp [C9,D3,Q1,Q3,nat,h1]
theorem A7a {b off len i j c:Nat} (h1:i≤j) (h2:j≤c):C9 t (.slice b 0 [] t off len (some c)) (some (nat i)) (some (nat j)) none=some (.slice b 0 [] t (off+i) (j - i) (some (c - i))):=by
 simp [C9,D3,Q1,Q3,nat,h1,h2]
theorem B64 {xs ms:List X} {off n:Nat} (h1:off+n≤xs.length) (h2:n≤ms.length):(AV.node (xs.map E)).splice off n (.node (ms.map E))=some (.node ((xs.take off++ms.take n++xs.drop (off+n)).map E)):=by
 simp only [AV.splice]
 rw [if_pos (by simp;omega)]
 simp
theorem A0K {H:A3} {b:Nat} {v:Blk} (hb:H[b]?=some v):H.set b v=H:=by
 apply List.ext_getElem?
 intro i
 rw [List.getElem?_set]
 split
 ·rename_i e;subst e;rw [if_pos (List.getElem?_eq_some_iff.1 hb).1,hb]
 ·rfl
theorem A31 {bytes : Nat} {zero y : AV} {b i c : Nat} {xs ms : List X} {K : AV × A3 → Prop} (hb : H[b]? = some ⟨.node (xs.map E), 0, .own⟩) (hy : C7 t y H = some (.node (ms.map E))) (hc : xs.length = c) (him : i + ms.length ≤ c)
  (hK:K (.slice b 0 [] t 0 (i+ms.length) (some c),H.set b ⟨.node ((xs.take i++ms++xs.drop (i+ms.length)).map E),0,.own⟩)):R4 t bytes zero (.slice b 0 [] t 0 i (some c)) y H K:=by
 refine ⟨_,ms.length,hy,by simp,_,_,M3 hb (by omega),rfl,?_⟩
 by_cases h0:ms.length=0
 ·have:ms=[]:=List.eq_nil_of_length_eq_zero h0
  subst this
  refine .inl ⟨rfl,by omega,?_⟩
  simp only [List.length_nil,Nat.add_zero,List.append_nil,List.take_append_drop,A0K hb] at hK
  exact hK
 ·refine .inr (.inl ⟨by omega,him,_,_,_,_,A9 hb,by simp,i0 _,?_,B7P _ _,hK⟩)
  rw [Nat.zero_add,B64 (by omega) (Nat.le_refl _),List.take_length]
theorem A5c {b off n : Nat} {cp : Option Nat} {xs : List X} {z : X} (hz : ∀ m, K1 m (E z) = .node (List.replicate m (E z))) (hb : H[b]? = some ⟨.node (xs.map E), 0, .own⟩) (hn : off + n ≤ xs.length) (h0 : n ≠ 0) :
  Z6 t (E z) (.slice b 0 [] t off n cp) H=some (.tuple [],H.set b ⟨.node ((xs.take off++List.replicate n z++xs.drop (off+n)).map E),0,.own⟩):=by
 have h2:List.replicate n (E z)=(List.replicate n z).map E:=by simp
 simp only [Z6,h0,if_false,Ty.beq_self,if_true,A9 hb,G9,i0,hz]
 rw [h2,B64 hn (by simp)]
 simp
theorem P6 {y : AV} {b off n : Nat} {cp : Option Nat} {xs ms : List X} (hb : H[b]? = some ⟨.node (xs.map E), 0, .own⟩) (hy : C7 t y H = some (.node (ms.map E))) (hn : off + min ms.length n ≤ xs.length) :
  M8 t (.slice b 0 [] t off n cp) y H=some (nat (min ms.length n),H.set b ⟨.node ((xs.take off++ms.take (min ms.length n)++xs.drop (off+min ms.length n)).map E),0,.own⟩):=by
 simp only [M8,hy,G9,F37,List.length_map,Ty.beq_self,if_true,A9 hb,i0]
 rw [B64 hn (by omega)]
 simp [nat]
theorem B3f {zero:AV} (hz:∀ m,K1 m zero=.node (List.replicate m zero)) {es:List AV} {m:Nat}:u0 (.node es) zero m=some (.node (es++List.replicate m zero)):=A4b hz _
theorem A1E {κ : Nat → Nat} {H : A3} {l xs : List X} {c : Nat} (hl : l.length ≤ 1000) (hc : xs.length = c) (h0 : 0 < c) (ht : xs.take l.length = l) :
  KRow (fun i=>if i=H.length then k else κ i) k t E (H++[⟨.node (xs.map E),0,.own⟩]) (.slice H.length 0 [] t 0 l.length (some c)) l∧Chg κ k H (fun i=>if i=H.length then k else κ i) (H++[⟨.node (xs.map E),0,.own⟩]):=by
 refine ⟨⟨hl,.inr ⟨_,_,xs,by simp,rfl,by simp,hc,h0,ht⟩⟩,by simp,fun i hi=>if_neg (by omega),fun i hi _ => by rw [List.getElem?_append_left hi],fun h i hi=>?_⟩
 simp only [List.length_append,List.length_singleton] at hi
 exact (if_neg (by omega)).trans (h i (by omega))
theorem g9 {κ : Nat → Nat} {H : A3} {b : Nat} {l xs xs' : List X} {c : Nat} (hk : κ b = k) (hb : H[b]? = some ⟨.node (xs.map E), 0, .own⟩) (hl : l.length ≤ 1000) (hc : xs'.length = c) (h0 : 0 < c) (ht : xs'.take l.length = l) :
  KRow κ k t E (H.set b ⟨.node (xs'.map E),0,.own⟩) (.slice b 0 [] t 0 l.length (some c)) l∧Chg κ k H κ (H.set b ⟨.node (xs'.map E),0,.own⟩):=by
 have hlt:=(List.getElem?_eq_some_iff.1 hb).1
 refine ⟨⟨hl,.inr ⟨b,_,xs',hk,rfl,by rw [List.getElem?_set_self hlt],hc,h0,ht⟩⟩,by simp,fun _ _ => rfl,fun i hi hne=>?_,fun h i hi=>h i (by simpa using hi)⟩
 rw [List.getElem?_set_ne (fun e=>hne (by rw [←e];exact hk))]
theorem A7b {bytes : Nat} {y : AV} {z e : X} {K : AV × A3 → Prop} {ts : List Ty} (hT : t = .struct ts) (hz : ∀ m, K1 m (E z) = .node (List.replicate m (E z))) (r : KRow κ k t E H x l) (hy : C7 t y H = some (.node [E e])) (hn : l.length < 1000) (hb : bytes ≤ 10000)
  (hK:∀ x' H' κ',KRow κ' k t E H' x' (l++[e])→Chg κ k H κ' H'→K (x',H')):R4 t bytes (E z) x y H K:=by
 have hrb:E0=E0:=rfl
 have hmul:(l.length+1) * bytes≤1000 * 10000:=Nat.mul_le_mul (by omega) hb
 have hrep:∀ m,List.replicate m (E z)=(List.replicate m z).map E:=fun m=>by simp
 obtain ⟨hl,⟨rfl,h1,h2,h3⟩|⟨b,c,xs,hk,rfl,hbk,hc,h0,ht⟩⟩:=r
 ·have new : ∀ c row, 1 ≤ c → u0 (.node [E e]) (E z) (c - 1) = some row → K (.slice H.length 0 [] t 0 1 (some c), H ++ [⟨row, 0, .own⟩]) := by
   intro c row hc hrow
   rw [B3f hz] at hrow
   cases hrow
   have e1:[E e]++List.replicate (c - 1) (E z)=(e::List.replicate (c - 1) z).map E:=by simp
   rw [e1]
   obtain ⟨g1,g2⟩:=A1E (k:=k) (t:=t) (E:=E) (κ:=κ) (H:=H) (l:=[e]) (xs:=e::List.replicate (c - 1) z) (c:=c) (by simp) (by simp;omega) (by omega) (by simp)
   exact hK _ _ _ g1 g2
  cases x with
  | nilslice =>
   refine ⟨_,1,hy,rfl,.inr ⟨by omega,?_,?_,by omega,new⟩⟩ <;> unfold E0 <;> omega
  | slice i ver path t' off len cap =>
   cases cap with
   | none=>cases h2
   | some c =>
    have hc0:c=0:=by
     simp only [A0B,nat,Option.some.injEq,AV.int.injEq,true_and] at h2
     omega
    obtain ⟨h11,h12,h13⟩:=h1
    obtain ⟨e1,e2,e3⟩:=h12
    simp only [List.length_nil] at e1
    subst e1;subst hc0;subst e3
    refine ⟨_,1,hy,rfl,_,_,h11,rfl,.inr (.inr ⟨by omega,by omega,?_,?_,by omega,fun c' row hc' hrow=>?_⟩)⟩
    ·unfold E0;omega
    ·unfold E0;omega
    ·simpa using new c' row (by simpa using hc') (by simpa using hrow)
  | _ => cases h2
 ·have hle : l.length ≤ xs.length := by
   have:=congrArg List.length ht
   rw [List.length_take] at this;omega
  by_cases hroom:l.length+1≤c
  ·refine A31 (ms:=[e]) hbk hy hc hroom ?_
   obtain ⟨g1,g2⟩:=g9 (t:=t) (E:=E) (l:=l++[e]) (xs':=xs.take l.length++[e]++xs.drop (l.length+1)) (c:=c) hk hbk (by simp;omega) (by simp;omega) h0 (by
    rw [ht];exact List.take_left' rfl)
   simp only [List.length_append,List.length_singleton] at g1
   exact hK _ _ _ g1 g2
  ·refine ⟨_,1,hy,rfl,_,_,M3 hbk (by omega),rfl,.inr (.inr ⟨by omega,by omega,?_,?_,by omega,fun c' row hc' hrow=>?_⟩)⟩
   ·unfold E0;omega
   ·unfold E0;omega
   ·rw [B3f hz] at hrow
    cases hrow
    have e1:((xs.drop 0).take l.length).map E++[E e]++List.replicate (c' - (l.length+1)) (E z)=((l++[e])++List.replicate (c' - (l.length+1)) z).map E:=by
     rw [List.drop_zero,ht];simp
    rw [e1]
    obtain ⟨g1,g2⟩:=A1E (k:=k) (t:=t) (E:=E) (κ:=κ) (H:=H) (l:=l++[e]) (xs:=(l++[e])++List.replicate (c' - (l.length+1)) z) (c:=c') (by simp;omega) (by simp;omega) (by omega) (List.take_left' rfl)
    simp only [List.length_append,List.length_singleton] at g1
    exact hK _ _ _ g1 g2
theorem A7c {bytes : Nat} {z : X} {b i c n : Nat} {xs : List X} {K : AV × A3 → Prop} (hz : ∀ m, K1 m (E z) = .node (List.replicate m (E z))) (hb : H[b]? = some ⟨.node (xs.map E), 0, .own⟩) (hc : xs.length = c) (hi : i ≤ c) (hn : 0 < n) (hin : c < i + n) (hs : i + n ≤ 1001) (hby : bytes ≤ 10000)
  (hK:∀ c',i+n≤c'→K (.slice H.length 0 [] t 0 (i+n) (some c'),H++[⟨.node ((xs.take i++List.replicate (c' - i) z).map E),0,.own⟩])):B3c t bytes (E z) (.slice b 0 [] t 0 i (some c)) (nat n) H K:=by
 have hmul:(i+n) * bytes≤1001 * 10000:=Nat.mul_le_mul hs hby
 refine ⟨n,rfl,by unfold E0;omega,?_⟩
 refine ⟨_,_,M3 hb (by omega),by rw [hz];rfl,hn,hin,by unfold E0;omega,by unfold E0;omega,by omega,fun c' row hc' hrow=>?_⟩
 rw [B3f hz] at hrow
 cases hrow
 have:=hK c' hc'
 have e1:((xs.drop 0).take i).map E++List.replicate n (E z)++List.replicate (c' - (i+n)) (E z)=(xs.take i++List.replicate (c' - i) z).map E:=by
  rw [List.drop_zero,List.append_assoc,List.replicate_append_replicate,show n+(c' - (i+n))=c' - i by omega]
  simp
 rw [e1]
 exact this
end
def OwnB (H:A3) (x:AV):Prop:=∀ i,rb x=some i→∃ (n c m:Nat) (g:Nat→BitVec 8),x=.slice i 0 [] (.int .u8) 0 n (some c)∧n≤m∧H[i]?=some ⟨arr m g,0,.own⟩
theorem OwnB.other {H H':A3} {x:AV} (r:OwnB H x) (hk:∀ b,rb x=some b→H'[b]?=H[b]?):OwnB H' x:=fun i hi=>by rw [hk i hi];exact r i hi
theorem OwnB.app {H:A3} {x:AV} (r:OwnB H x) (l:A3):OwnB (H++l) x:=fun i hi=>by
 obtain ⟨n,c,m,g,h1,h2,h3⟩:=r i hi
 exact ⟨n,c,m,g,h1,h2,by rw [List.getElem?_append_left (List.getElem?_eq_some_iff.1 h3).1];exact h3⟩
structure BytO (H:A3) (x:AV) (l:Bs):Prop where
 b:BytL H x l
 o:OwnB H x
theorem BytO.other {H H':A3} {x:AV} {l:Bs} (r:BytO H x l) (hk:∀ b,rb x=some b→H'[b]?=H[b]?):BytO H' x l:=⟨r.b.other hk,r.o.other hk⟩
theorem BytO.app {H:A3} {x:AV} {l:Bs} (r:BytO H x l) (u:A3):BytO (H++u) x l:=⟨r.b.app u,r.o.app u⟩
theorem BytO.rb_lt' {H:A3} {x:AV} {l:Bs} (r:BytO H x l):∀ b,rb x=some b→b < H.length:=r.b.rb_lt'
theorem BytO.cell {H:A3} {x:AV} {l:Bs} (r:BytO H x l):A4 x .cell=true:=r.b.cell
theorem BytO.len {H:A3} {x:AV} {l:Bs} (r:BytO H x l):L9 x=some (nat l.length):=r.b.len
structure Wk (κ:Nat→Nat) (H:A3) (c:Nat) (s:Stt) (vt vp vs vi va vb:AV):Prop where
 cell:H[c]?=some ⟨eSt s vt vp vs vi va vb,0,.own⟩
 kc:κ c=1
 top:∀ i,H.length≤i→κ i=0
 ft:BytO H vt s.title
 fp:BytO H vp s.pass
 kt:∀ b,rb vt=some b→κ b=7
 kp:∀ b,rb vp=some b→κ b=7
 fs:KRow κ 2 A7 B0 H vs s.seats
 fi:KRow κ 3 B1 B7 H vi s.invites
 fa:KRow κ 4 B5 B9 H va s.asks
 fb:KRow κ 5 B4 B2 H vb s.bans
structure Fr (κ:Nat→Nat) (H:A3) (κ':Nat→Nat) (H':A3):Prop where
 len:H.length≤H'.length
 old:∀ i,i < H.length→κ' i=κ i
 keep:∀ i,i < H.length→κ i=0∨6≤κ i→H'[i]?=H[i]?
theorem Fr.refl (κ:Nat→Nat) (H:A3):Fr κ H κ H:=⟨Nat.le_refl _,fun _ _ => rfl,fun _ _ _ => rfl⟩
theorem Fr.trans {κ κ1 κ2:Nat→Nat} {H H1 H2:A3} (a:Fr κ H κ1 H1) (b:Fr κ1 H1 κ2 H2):Fr κ H κ2 H2 :=
 ⟨Nat.le_trans a.len b.len,fun i hi=>(b.old i (Nat.lt_of_lt_of_le hi a.len)).trans (a.old i hi),fun i hi h=>(b.keep i (Nat.lt_of_lt_of_le hi a.len) (by rw [a.old i hi];exact h)).trans (a.keep i hi h)⟩
theorem Fr.app {κ κ1:Nat→Nat} {H H1:A3} {l:A3} (a:Fr κ (H++l) κ1 H1):Fr κ H κ1 H1 :=
 ⟨by have:=a.len;simp at this;omega,fun i hi=>a.old i (by simp;omega),fun i hi h=>(a.keep i (by simp;omega) h).trans (List.getElem?_append_left hi)⟩
theorem Fr.pre {κ κ1:Nat→Nat} {H H1:A3} (a:Fr κ H κ1 H1) (h0:∀ i,i < H.length→κ i=0):∃ u,H1=H++u:=by
 refine ⟨H1.drop H.length,?_⟩
 have e:H1.take H.length=H:=by
  apply List.ext_getElem?
  intro i
  by_cases hi:i < H.length
  ·rw [List.getElem?_take_of_lt hi,a.keep i hi (.inl (h0 i hi))]
  ·rw [List.getElem?_eq_none (by simp;omega),List.getElem?_eq_none (by omega)]
 conv=>lhs;rw [←List.take_append_drop H.length H1,e]
theorem Chg.fr {κ κ':Nat→Nat} {H H':A3} {k:Nat} (c:Chg κ k H κ' H') (hk:k≠0) (h6:k < 6:=by decide):Fr κ H κ' H':=⟨c.len,c.old,fun i hi h=>c.keep i hi (by omega)⟩
section
variable {κ:Nat→Nat} {H:A3} {c:Nat} {s:Stt} {vt vp vs vi va vb:AV}
theorem Wk.lt (w:Wk κ H c s vt vp vs vi va vb):c < H.length:=(List.getElem?_eq_some_iff.1 w.cell).1
theorem Wk.app (w:Wk κ H c s vt vp vs vi va vb) (l:A3):Wk κ (H++l) c s vt vp vs vi va vb:=by
 have hg:∀ i,i < H.length→(H++l)[i]?=H[i]?:=fun i hi=>List.getElem?_append_left hi
 exact ⟨(hg _ w.lt).trans w.cell,w.kc,fun i hi=>w.top i (by simp at hi;omega),w.ft.app l,w.fp.app l,w.kt,w.kp,w.fs.other fun i hi _ => ⟨rfl,hg i hi⟩,w.fi.other fun i hi _ => ⟨rfl,hg i hi⟩,w.fa.other fun i hi _ => ⟨rfl,hg i hi⟩,w.fb.other fun i hi _ => ⟨rfl,hg i hi⟩⟩
theorem Wk.blk (w:Wk κ H c s vt vp vs vi va vb) (l:A3):blkAt (H++l) c 0=some ⟨eSt s vt vp vs vi va vb,0,.own⟩:=L6 (A9 w.cell) l
theorem Wk.cells (w:Wk κ H c s vt vp vs vi va vb):A4 vt .cell=true∧A4 vp .cell=true∧A4 vs .cell=true∧A4 vi .cell=true∧A4 va .cell=true∧A4 vb .cell=true :=
 ⟨w.ft.cell,w.fp.cell,w.fs.cell,w.fi.cell,w.fa.cell,w.fb.cell⟩
theorem Wk.ws (w:Wk κ H c s vt vp vs vi va vb):Row A7 H vs (s.seats.map B0):=w.fs.row
theorem Wk.wi (w:Wk κ H c s vt vp vs vi va vb):Row B1 H vi (s.invites.map B7):=w.fi.row
theorem Wk.wa (w:Wk κ H c s vt vp vs vi va vb):Row B5 H va (s.asks.map B9):=w.fa.row
theorem Wk.wb (w:Wk κ H c s vt vp vs vi va vb):Row B4 H vb (s.bans.map B2):=w.fb.row
theorem A32 {κ : Nat → Nat} {H : A3} {c : Nat} (hc : c < H.length) (kc : κ c = 1) (top : ∀ i, H.length ≤ i → κ i = 0) {s' : Stt} {ut up us ui ua ub : AV} (ft : BytO H ut s'.title) (fp : BytO H up s'.pass) (kt : ∀ b, rb ut = some b → κ b = 7) (kp : ∀ b, rb up = some b → κ b = 7)
  (fs:KRow κ 2 A7 B0 H us s'.seats) (fi:KRow κ 3 B1 B7 H ui s'.invites) (fa:KRow κ 4 B5 B9 H ua s'.asks) (fb:KRow κ 5 B4 B2 H ub s'.bans) :
  Wk κ (H.set c ⟨eSt s' ut up us ui ua ub,0,.own⟩) c s' ut up us ui ua ub∧Fr κ H κ (H.set c ⟨eSt s' ut up us ui ua ub,0,.own⟩):=by
 have hg:∀ i,κ i≠1→(H.set c ⟨eSt s' ut up us ui ua ub,0,.own⟩)[i]?=H[i]?:=fun i hi=>List.getElem?_set_ne fun e=>hi (by rw [←e];exact kc)
 have ho:∀ {k:Nat} i,k≠1→κ i=8∨κ i=k→κ i=κ i∧(H.set c ⟨eSt s' ut up us ui ua ub,0,.own⟩)[i]?=H[i]?:=fun i h1 h=>⟨rfl,hg i (by rcases h with h|h <;> omega)⟩
 refine ⟨⟨List.getElem?_set_self hc,kc,fun i hi=>top i (by simpa using hi),ft.other fun b hb=>hg b (by rw [kt b hb];decide),fp.other fun b hb=>hg b (by rw [kp b hb];decide),kt,kp,fs.other fun i _ => ho i (by decide),fi.other fun i _ => ho i (by decide),fa.other fun i _ => ho i (by decide),fb.other fun i _ => ho i (by decide)⟩,by simp,fun _ _ => rfl,fun i _ h=>hg i (by omega)⟩
theorem Wk.put (w : Wk κ H c s vt vp vs vi va vb) {s' : Stt} {ut up us ui ua ub : AV} (ft : BytO H ut s'.title) (fp : BytO H up s'.pass) (kt : ∀ b, Go.Vab.rb ut = some b → κ b = 7) (kp : ∀ b, Go.Vab.rb up = some b → κ b = 7)
  (fs:KRow κ 2 A7 B0 H us s'.seats) (fi:KRow κ 3 B1 B7 H ui s'.invites) (fa:KRow κ 4 B5 B9 H ua s'.asks) (fb:KRow κ 5 B4 B2 H ub s'.bans) :
  Wk κ (H.set c ⟨eSt s' ut up us ui ua ub,0,.own⟩) c s' ut up us ui ua ub∧Fr κ H κ (H.set c ⟨eSt s' ut up us ui ua ub,0,.own⟩):=A32 w.lt w.kc w.top ft fp kt kp fs fi fa fb
theorem Wk.rest {κ' : Nat → Nat} {H' : A3} {k : Nat} (w : Wk κ H c s vt vp vs vi va vb) (h : Chg κ k H κ' H') (hk : 2 ≤ k) (h6 : k < 6 := by decide) : H'[c]? = some ⟨eSt s vt vp vs vi va vb, 0, .own⟩ ∧ κ' c = 1 ∧ (∀ i, H'.length ≤ i → κ' i = 0) ∧ BytO H' vt s.title ∧ BytO H' vp s.pass ∧ (∀ b, rb vt = some b → κ' b = 7) ∧ (∀ b, rb vp = some b → κ' b = 7) ∧
  (k≠2→KRow κ' 2 A7 B0 H' vs s.seats)∧(k≠3→KRow κ' 3 B1 B7 H' vi s.invites)∧(k≠4→KRow κ' 4 B5 B9 H' va s.asks)∧(k≠5→KRow κ' 5 B4 B2 H' vb s.bans):=by
 have t1:=w.ft.rb_lt'
 have t2:=w.fp.rb_lt'
 exact ⟨(h.keep _ w.lt (by rw [w.kc];omega)).trans w.cell,(h.old _ w.lt).trans w.kc,h.top w.top,w.ft.other fun b hb=>h.keep b (t1 b hb) (by rw [w.kt b hb];omega),w.fp.other fun b hb=>h.keep b (t2 b hb) (by rw [w.kp b hb];omega),
  fun b hb=>(h.old b (t1 b hb)).trans (w.kt b hb),fun b hb=>(h.old b (t2 b hb)).trans (w.kp b hb),fun q=>w.fs.chg h (by omega) (by omega),fun q=>w.fi.chg h (by omega) (by omega),fun q=>w.fa.chg h (by omega) (by omega),fun q=>w.fb.chg h (by omega) (by omega)⟩
theorem Wk.newS {κ':Nat→Nat} {H':A3} {x:AV} {l:List Seat} (w:Wk κ H c s vt vp vs vi va vb) (h:Chg κ 2 H κ' H') (r:KRow κ' 2 A7 B0 H' x l):Wk κ' (H'.set c ⟨eSt { s with seats:=l } vt vp x vi va vb,0,.own⟩) c { s with seats:=l } vt vp x vi va vb∧Fr κ H κ' (H'.set c ⟨eSt { s with seats:=l } vt vp x vi va vb,0,.own⟩):=by
 obtain ⟨h1,h2,h3,h4,h5,h6,h7,g2,g3,g4,g5⟩:=w.rest h (by decide)
 have:=A32 (s':={ s with seats:=l }) (List.getElem?_eq_some_iff.1 h1).1 h2 h3 h4 h5 h6 h7 r (g3 (by decide)) (g4 (by decide)) (g5 (by decide))
 exact ⟨this.1,(h.fr (by decide)).trans this.2⟩
theorem Wk.newI {κ':Nat→Nat} {H':A3} {x:AV} {l:List Inv} (w:Wk κ H c s vt vp vs vi va vb) (h:Chg κ 3 H κ' H') (r:KRow κ' 3 B1 B7 H' x l):Wk κ' (H'.set c ⟨eSt { s with invites:=l } vt vp vs x va vb,0,.own⟩) c { s with invites:=l } vt vp vs x va vb∧Fr κ H κ' (H'.set c ⟨eSt { s with invites:=l } vt vp vs x va vb,0,.own⟩):=by
 obtain ⟨h1,h2,h3,h4,h5,h6,h7,g2,g3,g4,g5⟩:=w.rest h (by decide)
 have:=A32 (s':={ s with invites:=l }) (List.getElem?_eq_some_iff.1 h1).1 h2 h3 h4 h5 h6 h7 (g2 (by decide)) r (g4 (by decide)) (g5 (by decide))
 exact ⟨this.1,(h.fr (by decide)).trans this.2⟩
theorem Wk.newA {κ':Nat→Nat} {H':A3} {x:AV} {l:List Ask} (w:Wk κ H c s vt vp vs vi va vb) (h:Chg κ 4 H κ' H') (r:KRow κ' 4 B5 B9 H' x l):Wk κ' (H'.set c ⟨eSt { s with asks:=l } vt vp vs vi x vb,0,.own⟩) c { s with asks:=l } vt vp vs vi x vb∧Fr κ H κ' (H'.set c ⟨eSt { s with asks:=l } vt vp vs vi x vb,0,.own⟩):=by
 obtain ⟨h1,h2,h3,h4,h5,h6,h7,g2,g3,g4,g5⟩:=w.rest h (by decide)
 have:=A32 (s':={ s with asks:=l }) (List.getElem?_eq_some_iff.1 h1).1 h2 h3 h4 h5 h6 h7 (g2 (by decide)) (g3 (by decide)) r (g5 (by decide))
 exact ⟨this.1,(h.fr (by decide)).trans this.2⟩
theorem Wk.newB {κ':Nat→Nat} {H':A3} {x:AV} {l:List Ban} (w:Wk κ H c s vt vp vs vi va vb) (h:Chg κ 5 H κ' H') (r:KRow κ' 5 B4 B2 H' x l):Wk κ' (H'.set c ⟨eSt { s with bans:=l } vt vp vs vi va x,0,.own⟩) c { s with bans:=l } vt vp vs vi va x∧Fr κ H κ' (H'.set c ⟨eSt { s with bans:=l } vt vp vs vi va x,0,.own⟩):=by
 obtain ⟨h1,h2,h3,h4,h5,h6,h7,g2,g3,g4,g5⟩:=w.rest h (by decide)
 have:=A32 (s':={ s with bans:=l }) (List.getElem?_eq_some_iff.1 h1).1 h2 h3 h4 h5 h6 h7 (g2 (by decide)) (g3 (by decide)) (g4 (by decide)) r
 exact ⟨this.1,(h.fr (by decide)).trans this.2⟩
theorem Chg.blk {κ κ':Nat→Nat} {k:Nat} {H H':A3} (h:Chg κ k H κ' H') (hk:k≠0) {i:Nat} {b:Blk} (hb:H[i]?=some b) (h0:κ i=0):H'[i]?=some b:=by
 rw [h.keep i (List.getElem?_eq_some_iff.1 hb).1 (by omega)];exact hb
theorem Fr.blk {κ κ':Nat→Nat} {H H':A3} (h:Fr κ H κ' H') {i:Nat} {b:Blk} (hb:H[i]?=some b) (h0:κ i=0∨6≤κ i):H'[i]?=some b:=by
 rw [h.keep i (List.getElem?_eq_some_iff.1 hb).1 h0];exact hb
end
def scr (κ:Nat→Nat) (n:Nat):Nat→Nat:=fun i=>if i=n then 6 else κ i
theorem A5C (κ:Nat→Nat) (n:Nat):scr κ n n=6:=if_pos rfl
theorem A0p {κ:Nat→Nat} {n i:Nat} (h:i≠n):scr κ n i=κ i:=if_neg h
section
variable {κ:Nat→Nat} {H:A3} {c:Nat} {s:Stt} {vt vp vs vi va vb:AV}
theorem Wk.scr (w:Wk κ H c s vt vp vs vi va vb) (v:Blk):Wk (Go.Vab.scr κ H.length) (H++[v]) c s vt vp vs vi va vb:=by
 have hg:∀ i,i < H.length→Go.Vab.scr κ H.length i=κ i∧(H++[v])[i]?=H[i]?:=fun i hi=>⟨A0p (by omega),List.getElem?_append_left hi⟩
 have t1:=w.ft.rb_lt'
 have t2:=w.fp.rb_lt'
 exact ⟨(hg _ w.lt).2.trans w.cell,(hg _ w.lt).1.trans w.kc,fun i hi=>by rw [A0p (by simp at hi;omega)];exact w.top i (by simp at hi;omega),w.ft.app _,w.fp.app _,fun b hb=>by rw [(hg b (t1 b hb)).1];exact w.kt b hb,fun b hb=>by rw [(hg b (t2 b hb)).1];exact w.kp b hb,
  w.fs.other fun i hi _ => hg i hi,w.fi.other fun i hi _ => hg i hi,w.fa.other fun i hi _ => hg i hi,w.fb.other fun i hi _ => hg i hi⟩
theorem Wk.wr (w:Wk κ H c s vt vp vs vi va vb) {p:Nat} (hp:κ p=6) (v:Blk):Wk κ (H.set p v) c s vt vp vs vi va vb:=by
 have hg:∀ i,κ i≠6→(H.set p v)[i]?=H[i]?:=fun i hi=>List.getElem?_set_ne fun e=>by subst e;omega
 have ho:∀ {k:Nat} i,k < 6→κ i=8∨κ i=k→κ i=κ i∧(H.set p v)[i]?=H[i]?:=fun i h1 h=>⟨rfl,hg i (by rcases h with h|h <;> omega)⟩
 exact ⟨(hg _ (by rw [w.kc];decide)).trans w.cell,w.kc,fun i hi=>w.top i (by simpa using hi),w.ft.other fun b hb=>hg b (by rw [w.kt b hb];decide),w.fp.other fun b hb=>hg b (by rw [w.kp b hb];decide),w.kt,w.kp,
  w.fs.other fun i _ => ho i (by decide),w.fi.other fun i _ => ho i (by decide),w.fa.other fun i _ => ho i (by decide),w.fb.other fun i _ => ho i (by decide)⟩
end
theorem Fr.scr {κ κ1:Nat→Nat} {H H1 l:A3} {n:Nat} (a:Fr (Go.Vab.scr κ n) (H++l) κ1 H1) (hn:H.length≤n):Fr κ H κ1 H1 :=
 ⟨by have:=a.len;simp at this;omega,fun i hi=>by rw [a.old i (by simp;omega),A0p (by omega)],fun i hi h=>(a.keep i (by simp;omega) (by rw [A0p (by omega)];exact h)).trans (List.getElem?_append_left hi)⟩
theorem Fr.wr {κ κ1:Nat→Nat} {H H1:A3} (a:Fr κ H κ1 H1) {p:Nat} (hp:H.length≤p) (v:Blk):Fr κ H κ1 (H1.set p v) :=
 ⟨by have:=a.len;simpa using this,a.old,fun i hi h=>by rw [List.getElem?_set_ne (by omega)];exact a.keep i hi h⟩
end Go.Vab

namespace Go.Vab
open Go
section
variable {X:Type} {t:Ty} {E:X→AV}
theorem A0v {b off n i m : Nat} {c : Option Nat} (hi : i < n) (hm : off + n ≤ m) : ∃ p, Q9 t (.slice b 0 [] t off n c) (nat i) = some p ∧
  (∀ G (ys:List X),G[b]?=some ⟨.node (ys.map E),0,.own⟩→ys.length=m→∀ z,ys[off+i]?=some z→D6 t p G=some (E z)) ∧
  (∀ G (ys:List X) z,G[b]?=some ⟨.node (ys.map E),0,.own⟩→ys.length=m→A4 (E z) t=true→stU t p (E z) G=some (.undef,G.set b ⟨.node ((ys.set (off+i) z).map E),0,.own⟩)):=by
 refine ⟨.ptr b 0 [off+i] t,by simp [Q9,hi],fun G ys hG hl z hz=>?_,fun G ys z hG hl hz=>?_⟩
 ·rw [D7t,A9 hG,G9]
  simp [hz]
 ·rw [F7s _ _ _ _ _ _ hz,A9 hG,G9]
  have h1:(ys.map E)[off+i]?=some (E (ys[off+i]'(by omega))):=by rw [List.getElem?_map,List.getElem?_eq_getElem (by omega)];rfl
  simp only [D8j,h1,G9,B7P]
  simp [List.map_set]
end
def A0w {X:Type} (off n:Nat) (xs:List X):List X:=xs.take off++((xs.drop off).take n).reverse++xs.drop (off+n)
theorem A4p {X:Type} (A M B:List X):A0w A.length M.length (A++M++B)=A++M.reverse++B:=by
 unfold A0w
 have h1:(A++M++B).take A.length=A:=by rw [List.append_assoc];exact List.take_left' rfl
 have h2:((A++M++B).drop A.length).take M.length=M:=by
  rw [List.append_assoc,List.drop_left' rfl];exact List.take_left' rfl
 have h3:(A++M++B).drop (A.length+M.length)=B:=List.drop_left' (by simp)
 rw [h1,h2,h3]
def RevI {X:Type} (off n i:Nat) (xs ys:List X):Prop:=ys.length=xs.length∧∀ p,ys[p]?=if off≤p∧p < off+n∧(p < off+i∨off+n≤p+i) then xs[2 * off+n - 1 - p]? else xs[p]?
theorem RevI.zero {X:Type} (off n:Nat) (xs:List X):RevI off n 0 xs xs:=⟨rfl,fun p=>by rw [if_neg (by omega)]⟩
theorem RevI.step {X : Type} {off n i : Nat} {xs ys : List X} (h : RevI off n i xs ys) (hi : 2 * i + 1 < n) (hn : off + n ≤ xs.length) {a b : X} (ha : ys[off + i]? = some a) (hb : ys[off + (n - 1 - i)]? = some b) :
  RevI off n (i+1) xs ((ys.set (off+i) b).set (off+(n - 1 - i)) a):=by
 obtain ⟨h1,h2⟩:=h
 refine ⟨by simp [h1],fun p=>?_⟩
 have ea:=h2 (off+i)
 rw [if_neg (by omega),ha] at ea
 have eb:=h2 (off+(n - 1 - i))
 rw [if_neg (by omega),hb] at eb
 rw [List.getElem?_set,List.getElem?_set]
 by_cases p1:off+(n - 1 - i)=p
 ·subst p1
  rw [if_pos rfl,if_pos (by simp;omega),if_pos (by omega),show 2 * off+n - 1 - (off+(n - 1 - i))=off+i by omega,←ea]
 ·rw [if_neg p1]
  by_cases p2:off+i=p
  ·subst p2
   rw [if_pos rfl,if_pos (by omega),if_pos (by omega),show 2 * off+n - 1 - (off+i)=off+(n - 1 - i) by omega,←eb]
  ·rw [if_neg p2,h2 p]
   by_cases q:off≤p∧p < off+n∧(p < off+i∨off+n≤p+i)
   ·rw [if_pos q,if_pos (by omega)]
   ·rw [if_neg q,if_neg (by omega)]
theorem RevI.last {X:Type} {off n:Nat} {xs ys:List X} (h:RevI off n (n / 2) xs ys) (hn:off+n≤xs.length):ys=A0w off n xs:=by
 obtain ⟨h1,h2⟩:=h
 apply List.ext_getElem?
 intro p
 rw [h2 p]
 unfold A0w
 by_cases p1:p < off
 ·rw [if_neg (by omega),List.append_assoc,List.getElem?_append_left (by simp;omega),List.getElem?_take_of_lt p1]
 ·by_cases p2:p < off+n
  ·rw [List.getElem?_append_left (by simp;omega),List.getElem?_append_right (by simp;omega)]
   have hl:((xs.drop off).take n).length=n:=by simp;omega
   have ht:(xs.take off).length=off:=by simp;omega
   rw [ht,List.getElem?_reverse (by omega),hl,List.getElem?_take_of_lt (by omega),List.getElem?_drop]
   by_cases q:off≤p∧p < off+n∧(p < off+n / 2∨off+n≤p+n / 2)
   ·rw [if_pos q];congr 1;omega
   ·rw [if_neg q];congr 1;omega
  ·rw [if_neg (by omega),List.getElem?_append_right (by simp;omega),List.getElem?_drop]
   congr 1
   simp;omega
end Go.Vab

namespace Go.Vab
open Go
def T7 (c:Nat) (b:Pt) (a:Actn) (wt wp:AV) (m:BitVec 8):AV:=.node [.ptr c 0 [] A6,pt b,C5 a wt wp,u8 m]
section
variable (c:Nat) (b:Pt) (a:Actn) (wt wp:AV) (m:BitVec 8) (r:List Nat)
@[simp] theorem G6T:(T7 c b a wt wp m).get (0::r)=(AV.ptr c 0 [] A6).get r:=by simp [T7]
@[simp] theorem G6U:(T7 c b a wt wp m).get (1::r)=(pt b).get r:=by simp [T7]
@[simp] theorem G6V:(T7 c b a wt wp m).get (2::r)=(C5 a wt wp).get r:=by simp [T7]
@[simp] theorem G6W:(T7 c b a wt wp m).get (3::r)=(u8 m).get r:=by simp [T7]
@[simp] theorem D7f (kd:BitVec 8) (v:BitVec 32) (w:Ci) (e:Pt) (ro:BitVec 8) (ac:Acc):AV.node [.ptr c 0 [] A6,pt b,E5 v kd w e ro ac wt wp,u8 m]=T7 c b ⟨v,kd,w,e,ro,[],ac,[]⟩ wt wp m:=rfl
end
theorem F87 {c:Nat} {H:A3} (h:c < H.length) (l:A3):c < (H++l).length:=by simp;omega
structure Sx (κ:Nat→Nat) (H:A3) (c xb:Nat) (s:Stt) (b:Pt) (a:Actn) (m:BitVec 8) (vt vp vs vi va vb wt wp:AV):Prop where
 w:Wk κ H c s vt vp vs vi va vb
 st:H[xb]?=some ⟨T7 c b a wt wp m,0,.own⟩
 kx:κ xb=0
 ra:ActR H a wt wp
 kt:∀ i,rb wt=some i→κ i=7
 kp:∀ i,rb wp=some i→κ i=7
 ot:OwnB H wt
 op:OwnB H wp
section
variable {κ:Nat→Nat} {H:A3} {c xb:Nat} {s:Stt} {b:Pt} {a:Actn} {m:BitVec 8} {vt vp vs vi va vb wt wp:AV}
theorem Sx.app (x:Sx κ H c xb s b a m vt vp vs vi va vb wt wp) (l:A3):Sx κ (H++l) c xb s b a m vt vp vs vi va vb wt wp :=
 ⟨x.w.app l,by rw [List.getElem?_append_left (List.getElem?_eq_some_iff.1 x.st).1];exact x.st,x.kx,x.ra.app l,x.kt,x.kp,x.ot.app l,x.op.app l⟩
theorem Sx.blk (x:Sx κ H c xb s b a m vt vp vs vi va vb wt wp) (l:A3):blkAt (H++l) xb 0=some ⟨T7 c b a wt wp m,0,.own⟩:=L6 (A9 x.st) l
theorem Sx.lt (x:Sx κ H c xb s b a m vt vp vs vi va vb wt wp) (l:A3):c < (H++l).length:=F87 x.w.lt l
theorem Sx.next {κ':Nat→Nat} {H':A3} {s':Stt} {ut up us ui ua ub:AV} (x:Sx κ H c xb s b a m vt vp vs vi va vb wt wp) (fr:Fr κ H κ' H') (w':Wk κ' H' c s' ut up us ui ua ub):Sx κ' H' c xb s' b a m ut up us ui ua ub wt wp:=by
 have l1:=x.ra.t.rb_lt'
 have l2:=x.ra.p.rb_lt'
 have lx:=(List.getElem?_eq_some_iff.1 x.st).1
 exact ⟨w',fr.blk x.st (.inl x.kx),(fr.old _ lx).trans x.kx,⟨x.ra.t.other fun i hi=>fr.keep i (l1 i hi) (.inr (by rw [x.kt i hi];decide)),x.ra.p.other fun i hi=>fr.keep i (l2 i hi) (.inr (by rw [x.kp i hi];decide))⟩,
  fun i hi=>(fr.old i (l1 i hi)).trans (x.kt i hi),fun i hi=>(fr.old i (l2 i hi)).trans (x.kp i hi),x.ot.other fun i hi=>fr.keep i (l1 i hi) (.inr (by rw [x.kt i hi];decide)),x.op.other fun i hi=>fr.keep i (l2 i hi) (.inr (by rw [x.kp i hi];decide))⟩
end
section
variable {κ:Nat→Nat} {H:A3} {c xb:Nat} {s:Stt} {b:Pt} {a:Actn} {m:BitVec 8} {vt vp vs vi va vb wt wp:AV}
theorem Sx.scr (x:Sx κ H c xb s b a m vt vp vs vi va vb wt wp) (v:Blk):Sx (Go.Vab.scr κ H.length) (H++[v]) c xb s b a m vt vp vs vi va vb wt wp:=by
 have l1:=x.ra.t.rb_lt'
 have l2:=x.ra.p.rb_lt'
 have lx:=(List.getElem?_eq_some_iff.1 x.st).1
 exact ⟨x.w.scr v,by rw [List.getElem?_append_left lx];exact x.st,by rw [A0p (by omega)];exact x.kx,x.ra.app _,fun i hi=>by rw [A0p (by have:=l1 i hi;omega)];exact x.kt i hi,fun i hi=>by rw [A0p (by have:=l2 i hi;omega)];exact x.kp i hi,x.ot.app _,x.op.app _⟩
theorem Sx.wr (x:Sx κ H c xb s b a m vt vp vs vi va vb wt wp) {p:Nat} (hp:κ p=6) (v:Blk):Sx κ (H.set p v) c xb s b a m vt vp vs vi va vb wt wp:=by
 have hg:∀ i,κ i≠6→(H.set p v)[i]?=H[i]?:=fun i hi=>List.getElem?_set_ne fun e=>by subst e;omega
 exact ⟨x.w.wr hp v,(hg _ (by rw [x.kx];decide)).trans x.st,x.kx,⟨x.ra.t.other fun i hi=>hg i (by rw [x.kt i hi];decide),x.ra.p.other fun i hi=>hg i (by rw [x.kp i hi];decide)⟩,x.kt,x.kp,x.ot.other fun i hi=>hg i (by rw [x.kt i hi];decide),x.op.other fun i hi=>hg i (by rw [x.kp i hi];decide)⟩
end
def I7 (s:Stt) (a:Actn) (link:BitVec 8) (iv ak:Bool):Nat :=
 if A8 fB s.bans a.who.e=true then 193 else if A8 fS s.seats a.who.e=true then 8 else if (iv&&A8 fI s.invites a.who.e)=true then 8 else if (ak&&A8 fA s.asks a.who.e)=true then 8
 else if link=0#8 then 0 else if s.acc.link≠link then 196 else if V5 s a=false then 194 else 0
def C4 (m:BitVec 8) (s:Stt) (b:Pt) (a:Actn):Nat :=
 if a.kind=7#8∨a.kind=8#8∨a.kind=11#8 then 0
 else if a.kind=9#8∨a.kind=10#8 then (if a.who.e=b then 0 else 195)
 else if (a.kind=1#8∨a.kind=5#8∨a.kind=12#8)∧a.role=2#8∧m≠2#8 then 191
 else if m=0#8 then 191
 else if m < (if a.kind=1#8∨a.kind=5#8∨a.kind=12#8 then s.acc.members else if a.kind=16#8 then s.acc.title else if a.kind=4#8∨a.kind=6#8 then 1#8 else 2#8) then 191 else 0
end Go.Vab

namespace Go.Vab
open Go
theorem F8E:∀ k:BitVec 8,¬ k < 1#8→¬ 18#8 < k→k=1#8∨k=2#8∨k=3#8∨k=4#8∨k=5#8∨k=6#8∨k=7#8∨k=8#8∨k=9#8∨k=10#8∨k=11#8∨k=12#8∨k=13#8∨k=14#8∨k=15#8∨k=16#8∨k=17#8∨k=18#8:=by decide
theorem mayA_kind {a:Actn} (h:S8 a=true):a.kind=1#8∨a.kind=2#8∨a.kind=3#8∨a.kind=4#8∨a.kind=5#8∨a.kind=6#8∨a.kind=7#8∨a.kind=8#8∨a.kind=9#8∨a.kind=10#8∨a.kind=11#8∨a.kind=12#8∨a.kind=13#8∨a.kind=14#8∨a.kind=15#8∨a.kind=16#8∨a.kind=17#8∨a.kind=18#8:=by
 unfold S8 at h
 simp only [Bool.and_eq_true,Bool.not_eq_true',Bool.or_eq_false_iff,decide_eq_false_iff_not] at h
 exact F8E _ h.1.1.1.1.1 h.1.1.1.1.2
theorem F41 {a:Actn} (h:S8 a=true) (hk:hR a.kind=true):a.role=1#8∨a.role=2#8:=by
 unfold S8 at h
 simp only [Bool.and_eq_true,Bool.not_eq_true',Bool.or_eq_false_iff,decide_eq_false_iff_not] at h
 have:=h.1.1.2.1.2
 rw [hk] at this
 have h2:roleOk a.role=true:=by simpa using this
 unfold roleOk at h2
 simpa only [Bool.or_eq_true,decide_eq_true_eq] using h2
theorem F39 {s:Stt} {e:Pt} {x:Seat} (h:fnd fS s.seats e=some x):D0 s e=x.role:=by simp [D0,h]
theorem D7P {s:Stt} {e:Pt} (h:fnd fS s.seats e=none):D0 s e=0#8:=by simp [D0,h]
theorem F42 {s:Stt} (h:E4 s=true):(∀ x∈s.seats,x.role=1#8∨x.role=2#8)∧∀ x∈s.invites,x.role=1#8∨x.role=2#8:=by
 rw [←B7S] at h
 unfold U2 at h
 simp only [Bool.and_eq_true,List.all_eq_true] at h
 obtain ⟨_,_,_,_,h1,h2⟩:=h
 exact ⟨fun x hx=>by simpa only [roleOk,Bool.or_eq_true,decide_eq_true_eq] using h1 x hx,fun x hx=>by simpa only [roleOk,Bool.or_eq_true,decide_eq_true_eq] using h2 x hx⟩
theorem B7V {X:Type} {f:X→Pt} {l:List X} {e:Pt} {x:X} (h:fnd f l e=some x):x∈l∧f x=e:=⟨List.mem_of_find?_eq_some h,by simpa using List.find?_some h⟩
theorem role3 {s:Stt} (h:E4 s=true) (b:Pt):(D0 s b=0#8∧A8 fS s.seats b=false)∨((D0 s b=1#8∨D0 s b=2#8)∧A8 fS s.seats b=true):=by
 cases hx:fnd fS s.seats b with
 | none=>exact .inl ⟨D7P hx,by simp [A8,hx]⟩
 | some x =>
  right
  rw [F39 hx]
  exact ⟨(F42 h).1 x (B7V hx).1,by simp [A8,hx]⟩
theorem D8s {s:Stt} (h:E4 s=true) {b:Pt} (hr:D0 s b≠0#8):A8 fS s.seats b=true:=by
 rcases role3 h b with ⟨h1,_⟩|⟨_,h2⟩
 ·exact absurd h1 hr
 ·exact h2
structure Okd (s:Stt) (b:Pt) (a:Actn):Prop where
 add:a.kind=1#8∨a.kind=5#8∨a.kind=12#8→O7 s b a.role=true
 who:a.kind=9#8∨a.kind=10#8→a.who.e=b
 tit:a.kind=16#8→¬ (D0 s b=0#8∨D0 s b < s.acc.title)
 mem:a.kind=4#8∨a.kind=6#8→D0 s b≠0#8
 adm:a.kind=2#8∨a.kind=3#8∨a.kind=13#8∨a.kind=14#8∨a.kind=15#8∨a.kind=17#8∨a.kind=18#8→D0 s b=2#8
theorem no0 {p q:Prop} (h:¬ p):p→q:=fun a=>absurd a h
theorem adds_iff {s:Stt} {b:Pt} {r:BitVec 8}:O7 s b r=true↔D0 s b≠0#8∧¬ D0 s b < s.acc.members∧(r=1#8∨D0 s b=2#8):=by
 simp only [O7,Bool.and_eq_true,Bool.not_eq_true',decide_eq_false_iff_not,Bool.or_eq_true,decide_eq_true_eq,ne_eq,and_assoc]
section
variable {m:BitVec 8} {s:Stt} {b:Pt} {a:Actn}
theorem why_add (hk:a.kind=1#8∨a.kind=5#8∨a.kind=12#8) (hr:a.role=1#8∨a.role=2#8):(C4 m s b a=0∧m≠0#8∧¬ m < s.acc.members∧(a.role=1#8∨m=2#8))∨(C4 m s b a=191∧¬ (m≠0#8∧¬ m < s.acc.members∧(a.role=1#8∨m=2#8))):=by
 have e:C4 m s b a=if a.role=2#8∧m≠2#8 then 191 else if m=0#8 then 191 else if m < s.acc.members then 191 else 0:=by
  rcases hk with hk|hk|hk <;> simp [C4,hk]
 rw [e]
 by_cases h1:a.role=2#8∧m≠2#8
 ·rw [if_pos h1]
  exact .inr ⟨rfl,fun h=>by rcases h.2.2 with q|q;rw [h1.1] at q;revert q;decide;exact h1.2 q⟩
 rw [if_neg h1]
 by_cases h2:m=0#8
 ·rw [if_pos h2];exact .inr ⟨rfl,fun h=>h.1 h2⟩
 rw [if_neg h2]
 by_cases h3:m < s.acc.members
 ·rw [if_pos h3];exact .inr ⟨rfl,fun h=>h.2.1 h3⟩
 rw [if_neg h3]
 refine .inl ⟨rfl,h2,h3,?_⟩
 rcases hr with q|q
 ·exact .inl q
 ·exact .inr (Classical.byContradiction fun h=>h1 ⟨q,h⟩)
theorem why_adm (hk:a.kind=2#8∨a.kind=3#8∨a.kind=13#8∨a.kind=14#8∨a.kind=15#8∨a.kind=17#8∨a.kind=18#8) (hm:m=0#8∨m=1#8∨m=2#8):(C4 m s b a=0∧m=2#8)∨(C4 m s b a=191∧m≠2#8):=by
 rcases hm with rfl|rfl|rfl <;> rcases hk with hk|hk|hk|hk|hk|hk|hk <;> simp [C4,hk]
theorem why_mem (hk:a.kind=4#8∨a.kind=6#8) (hm:m=0#8∨m=1#8∨m=2#8):(C4 m s b a=0∧m≠0#8)∨(C4 m s b a=191∧m=0#8):=by
 rcases hm with rfl|rfl|rfl <;> rcases hk with hk|hk <;> simp [C4,hk]
theorem why_tit (hk:a.kind=16#8):(C4 m s b a=0∧¬ (m=0#8∨m < s.acc.title))∨(C4 m s b a=191∧(m=0#8∨m < s.acc.title)):=by
 have e:C4 m s b a=if m=0#8 then 191 else if m < s.acc.title then 191 else 0:=by simp [C4,hk]
 rw [e]
 by_cases h2:m=0#8
 ·rw [if_pos h2];exact .inr ⟨rfl,.inl h2⟩
 rw [if_neg h2]
 by_cases h3:m < s.acc.title
 ·rw [if_pos h3];exact .inr ⟨rfl,.inr h3⟩
 rw [if_neg h3]
 exact .inl ⟨rfl,fun h=>by rcases h with h|h;exact h2 h;exact h3 h⟩
theorem why_who (hk:a.kind=9#8∨a.kind=10#8):(C4 m s b a=0∧a.who.e=b)∨(C4 m s b a=195∧a.who.e≠b):=by
 have e:C4 m s b a=if a.who.e=b then 0 else 195:=by rcases hk with hk|hk <;> simp [C4,hk]
 rw [e]
 by_cases h:a.who.e=b
 ·rw [if_pos h];exact .inl ⟨rfl,h⟩
 ·rw [if_neg h];exact .inr ⟨rfl,h⟩
theorem C0f (hk:a.kind=7#8∨a.kind=8#8∨a.kind=11#8):C4 m s b a=0:=by
 rcases hk with hk|hk|hk <;> simp [C4,hk]
end
theorem may_split {s:Stt} {b:Pt} {a:Actn} (hs:E4 s=true) (ha:S8 a=true):(C4 (D0 s b) s b a=0∧Okd s b a)∨(C4 (D0 s b) s b a≠0∧madeP s b a=.error (C4 (D0 s b) s b a)):=by
 have h3:D0 s b=0#8∨D0 s b=1#8∨D0 s b=2#8:=by
  rcases role3 hs b with ⟨h,_⟩|⟨h|h,_⟩
  ·exact .inl h
  ·exact .inr (.inl h)
  ·exact .inr (.inr h)
 have mk:∀ {k:BitVec 8},a.kind=k→((k=1#8∨k=5#8∨k=12#8→O7 s b a.role=true)∧(k=9#8∨k=10#8→a.who.e=b)∧(k=16#8→¬ (D0 s b=0#8∨D0 s b < s.acc.title))∧(k=4#8∨k=6#8→D0 s b≠0#8)∧(k=2#8∨k=3#8∨k=13#8∨k=14#8∨k=15#8∨k=17#8∨k=18#8→D0 s b=2#8))→Okd s b a:=by
  rintro k rfl ⟨h1,h2,h3,h4,h5⟩;exact ⟨h1,h2,h3,h4,h5⟩
 have gA:(a.kind=1#8∨a.kind=5#8∨a.kind=12#8)→hR a.kind=true→(C4 (D0 s b) s b a=0∧O7 s b a.role=true)∨(C4 (D0 s b) s b a=191∧O7 s b a.role=false):=by
  intro hk hr
  rcases why_add (m:=D0 s b) (s:=s) (b:=b) hk (F41 ha hr) with ⟨h1,h2⟩|⟨h1,h2⟩
  ·exact .inl ⟨h1,adds_iff.2 h2⟩
  ·exact .inr ⟨h1,by rw [←Bool.not_eq_true];exact fun h=>h2 (adds_iff.1 h)⟩
 rcases mayA_kind ha with hk|hk|hk|hk|hk|hk|hk|hk|hk|hk|hk|hk|hk|hk|hk|hk|hk|hk
 ·rcases gA (.inl hk) (by rw [hk];decide) with ⟨h1,h2⟩|⟨h1,h2⟩
  ·exact .inl ⟨h1,mk hk ⟨fun _ => h2,no0 (by decide),no0 (by decide),no0 (by decide),no0 (by decide)⟩⟩
  ·exact .inr ⟨by rw [h1];decide,by rw [h1];simp [madeP,hk,h2]⟩
 ·rcases why_adm (s:=s) (b:=b) (.inl hk) h3 with ⟨h1,h2⟩|⟨h1,h2⟩
  ·exact .inl ⟨h1,mk hk ⟨no0 (by decide),no0 (by decide),no0 (by decide),no0 (by decide),fun _ => h2⟩⟩
  ·exact .inr ⟨by rw [h1];decide,by rw [h1];simp [madeP,hk,h2]⟩
 ·rcases why_adm (s:=s) (b:=b) (.inr (.inl hk)) h3 with ⟨h1,h2⟩|⟨h1,h2⟩
  ·exact .inl ⟨h1,mk hk ⟨no0 (by decide),no0 (by decide),no0 (by decide),no0 (by decide),fun _ => h2⟩⟩
  ·exact .inr ⟨by rw [h1];decide,by rw [h1];simp [madeP,hk,h2]⟩
 ·rcases why_mem (s:=s) (b:=b) (.inl hk) h3 with ⟨h1,h2⟩|⟨h1,h2⟩
  ·exact .inl ⟨h1,mk hk ⟨no0 (by decide),no0 (by decide),no0 (by decide),fun _ => h2,no0 (by decide)⟩⟩
  ·exact .inr ⟨by rw [h1];decide,by rw [h1];simp [madeP,hk,h2]⟩
 ·rcases gA (.inr (.inl hk)) (by rw [hk];decide) with ⟨h1,h2⟩|⟨h1,h2⟩
  ·exact .inl ⟨h1,mk hk ⟨fun _ => h2,no0 (by decide),no0 (by decide),no0 (by decide),no0 (by decide)⟩⟩
  ·exact .inr ⟨by rw [h1];decide,by rw [h1];simp [madeP,hk,h2]⟩
 ·rcases why_mem (s:=s) (b:=b) (.inr hk) h3 with ⟨h1,h2⟩|⟨h1,h2⟩
  ·exact .inl ⟨h1,mk hk ⟨no0 (by decide),no0 (by decide),no0 (by decide),fun _ => h2,no0 (by decide)⟩⟩
  ·exact .inr ⟨by rw [h1];decide,by rw [h1];simp [madeP,hk,h2]⟩
 ·exact .inl ⟨C0f (.inl hk),mk hk ⟨no0 (by decide),no0 (by decide),no0 (by decide),no0 (by decide),no0 (by decide)⟩⟩
 ·exact .inl ⟨C0f (.inr (.inl hk)),mk hk ⟨no0 (by decide),no0 (by decide),no0 (by decide),no0 (by decide),no0 (by decide)⟩⟩
 ·rcases why_who (m:=D0 s b) (s:=s) (b:=b) (.inl hk) with ⟨h1,h2⟩|⟨h1,h2⟩
  ·exact .inl ⟨h1,mk hk ⟨no0 (by decide),fun _ => h2,no0 (by decide),no0 (by decide),no0 (by decide)⟩⟩
  ·exact .inr ⟨by rw [h1];decide,by rw [h1];simp [madeP,hk,h2]⟩
 ·rcases why_who (m:=D0 s b) (s:=s) (b:=b) (.inr hk) with ⟨h1,h2⟩|⟨h1,h2⟩
  ·exact .inl ⟨h1,mk hk ⟨no0 (by decide),fun _ => h2,no0 (by decide),no0 (by decide),no0 (by decide)⟩⟩
  ·exact .inr ⟨by rw [h1];decide,by rw [h1];simp [madeP,hk,h2]⟩
 ·exact .inl ⟨C0f (.inr (.inr hk)),mk hk ⟨no0 (by decide),no0 (by decide),no0 (by decide),no0 (by decide),no0 (by decide)⟩⟩
 ·rcases gA (.inr (.inr hk)) (by rw [hk];decide) with ⟨h1,h2⟩|⟨h1,h2⟩
  ·exact .inl ⟨h1,mk hk ⟨fun _ => h2,no0 (by decide),no0 (by decide),no0 (by decide),no0 (by decide)⟩⟩
  ·exact .inr ⟨by rw [h1];decide,by rw [h1];simp [madeP,hk,h2]⟩
 ·rcases why_adm (s:=s) (b:=b) (.inr (.inr (.inl hk))) h3 with ⟨h1,h2⟩|⟨h1,h2⟩
  ·exact .inl ⟨h1,mk hk ⟨no0 (by decide),no0 (by decide),no0 (by decide),no0 (by decide),fun _ => h2⟩⟩
  ·exact .inr ⟨by rw [h1];decide,by rw [h1];simp [madeP,hk,h2]⟩
 ·rcases why_adm (s:=s) (b:=b) (.inr (.inr (.inr (.inl hk)))) h3 with ⟨h1,h2⟩|⟨h1,h2⟩
  ·exact .inl ⟨h1,mk hk ⟨no0 (by decide),no0 (by decide),no0 (by decide),no0 (by decide),fun _ => h2⟩⟩
  ·exact .inr ⟨by rw [h1];decide,by rw [h1];simp [madeP,hk,h2]⟩
 ·rcases why_adm (s:=s) (b:=b) (.inr (.inr (.inr (.inr (.inl hk))))) h3 with ⟨h1,h2⟩|⟨h1,h2⟩
  ·exact .inl ⟨h1,mk hk ⟨no0 (by decide),no0 (by decide),no0 (by decide),no0 (by decide),fun _ => h2⟩⟩
  ·exact .inr ⟨by rw [h1];decide,by rw [h1];simp [madeP,hk,h2]⟩
 ·rcases why_tit (m:=D0 s b) (s:=s) (b:=b) hk with ⟨h1,h2⟩|⟨h1,h2⟩
  ·exact .inl ⟨h1,mk hk ⟨no0 (by decide),no0 (by decide),fun _ => h2,no0 (by decide),no0 (by decide)⟩⟩
  ·exact .inr ⟨by rw [h1];decide,by rw [h1];simp [madeP,hk,h2]⟩
 ·rcases why_adm (s:=s) (b:=b) (.inr (.inr (.inr (.inr (.inr (.inl hk)))))) h3 with ⟨h1,h2⟩|⟨h1,h2⟩
  ·exact .inl ⟨h1,mk hk ⟨no0 (by decide),no0 (by decide),no0 (by decide),no0 (by decide),fun _ => h2⟩⟩
  ·exact .inr ⟨by rw [h1];decide,by rw [h1];simp [madeP,hk,h2]⟩
 ·rcases why_adm (s:=s) (b:=b) (.inr (.inr (.inr (.inr (.inr (.inr hk)))))) h3 with ⟨h1,h2⟩|⟨h1,h2⟩
  ·exact .inl ⟨h1,mk hk ⟨no0 (by decide),no0 (by decide),no0 (by decide),no0 (by decide),fun _ => h2⟩⟩
  ·exact .inr ⟨by rw [h1];decide,by rw [h1];simp [madeP,hk,h2]⟩
section
variable {s:Stt} {b:Pt} {a:Actn}
theorem D9e (ms:E4 s=true):D0 s b=0#8↔A8 fS s.seats b=false:=by
 rcases role3 ms b with ⟨h1,h2⟩|⟨h1,h2⟩
 ·exact ⟨fun _ => h2,fun _ => h1⟩
 ·exact ⟨fun h=>by rw [h] at h1;rcases h1 with q|q <;> exact absurd q (by decide),fun h=>by rw [h2] at h;cases h⟩
theorem G0i (ms:E4 s=true) (hk:a.kind=1#8) (hA:O7 s b a.role=true) (hn:I7 s a 0#8 false false≠0):madeP s b a=.error (I7 s a 0#8 false false):=by
 cases h1:A8 fB s.bans a.who.e <;> cases h2:A8 fS s.seats a.who.e <;> simp_all [madeP,I7]
theorem G0j (ms:E4 s=true) (hk:a.kind=1#8) (hA:O7 s b a.role=true) (hn:I7 s a 0#8 false false=0) (h3:40≤s.seats.length):madeP s b a=.error 9:=by
 cases h1:A8 fB s.bans a.who.e <;> cases h2:A8 fS s.seats a.who.e <;> simp_all [madeP,I7]
theorem G0k (ms:E4 s=true) (hk:a.kind=1#8) (hA:O7 s b a.role=true) (hn:I7 s a 0#8 false false=0) (h3:¬ 40≤s.seats.length):madeP s b a=.ok { s with invites:=del fI s.invites a.who.e,asks:=del fA s.asks a.who.e,seats:=ins fS s.seats ⟨a.who,a.role,a.version⟩ }:=by
 cases h1:A8 fB s.bans a.who.e <;> cases h2:A8 fS s.seats a.who.e <;> simp_all [madeP,I7]
theorem D0N (ms:E4 s=true) (hk:a.kind=9#8) (hw:a.who.e=b):madeP s b a=if I7 s a 1#8 false false≠0 then .error (I7 s a 1#8 false false) else if 40≤s.seats.length then .error 9 else .ok { s with invites:=del fI s.invites a.who.e,asks:=del fA s.asks a.who.e,seats:=ins fS s.seats ⟨a.who,1#8,a.version⟩ }:=by
 have hr:=D9e (b:=b) ms
 subst hw
 cases h1:A8 fB s.bans a.who.e <;> cases h2:A8 fS s.seats a.who.e <;> cases h5:V5 s a <;> by_cases h4:s.acc.link=1#8 <;> simp_all [madeP,I7]
theorem G0l (ms:E4 s=true) (hk:a.kind=9#8) (hw:a.who.e=b) (hn:I7 s a 1#8 false false≠0):madeP s b a=.error (I7 s a 1#8 false false):=by rw [D0N ms hk hw,if_pos hn]
theorem G0m (ms:E4 s=true) (hk:a.kind=9#8) (hw:a.who.e=b) (hn:I7 s a 1#8 false false=0) (h3:40≤s.seats.length):madeP s b a=.error 9:=by rw [D0N ms hk hw,if_neg (by simp [hn]),if_pos h3]
theorem G0n (ms:E4 s=true) (hk:a.kind=9#8) (hw:a.who.e=b) (hn:I7 s a 1#8 false false=0) (h3:¬ 40≤s.seats.length):madeP s b a=.ok { s with invites:=del fI s.invites a.who.e,asks:=del fA s.asks a.who.e,seats:=ins fS s.seats ⟨a.who,1#8,a.version⟩ }:=by rw [D0N ms hk hw,if_neg (by simp [hn]),if_neg h3]
theorem F9p (ms:E4 s=true) (hk:a.kind=5#8) (hA:O7 s b a.role=true):madeP s b a=if I7 s a 0#8 true false≠0 then .error (I7 s a 0#8 true false) else if 40≤s.invites.length then .error 9 else .ok { s with asks:=del fA s.asks a.who.e,invites:=ins fI s.invites ⟨a.who,a.role,I1 s b⟩ }:=by
 cases h1:A8 fB s.bans a.who.e <;> cases h2:A8 fS s.seats a.who.e <;> cases h3:A8 fI s.invites a.who.e <;> simp_all [madeP,I7]
theorem F88 (ms:E4 s=true) (hk:a.kind=10#8) (hw:a.who.e=b):madeP s b a=if I7 s a 2#8 true true≠0 then .error (I7 s a 2#8 true true) else if 40≤s.asks.length then .error 9 else .ok { s with asks:=ins fA s.asks ⟨a.who,a.version⟩ }:=by
 have hr:=D9e (b:=b) ms
 subst hw
 cases h1:A8 fB s.bans a.who.e <;> cases h2:A8 fS s.seats a.who.e <;> cases h3:A8 fI s.invites a.who.e <;> cases h6:A8 fA s.asks a.who.e <;> cases h5:V5 s a <;> by_cases h4:s.acc.link=2#8 <;> simp_all [madeP,I7]
end
theorem F4A {X:Type} {f:X→Pt} {l:List X} {e:Pt} {x:X} (hs:srt f l) (hp:A8 f l e=true) (hx:f x=e):ins f (del f l e) x=l.set (low f l e) x:=by
 obtain ⟨hl,he,_⟩:=U4 hs hp
 have hd:=A3T hs hp
 have hlow:low f (del f l e) (f x)=low f l e:=by
  rw [hx,hd]
  refine X8 f (by simp;omega) (fun j hj hji=>?_) (fun hj=>?_)
  ·rw [List.getElem_append_left (by simp;omega),List.getElem_take]
   exact C0e _ hji
  ·rw [List.getElem_append_right (by simp;omega),List.getElem_drop]
   exact F86 hs _ (by omega)
 unfold ins
 rw [hlow,hd]
 have h1:(l.take (low f l e)).length=low f l e:=by simp;omega
 rw [List.take_left' h1,List.drop_left' h1,List.set_eq_take_append_cons_drop,if_pos hl]
theorem F6P {X:Type} {f:X→Pt} {l:List X} {e:Pt}:A8 f l e=true↔e∈l.map f:=by
 constructor
 ·intro h
  obtain ⟨x,hx⟩:=Option.isSome_iff_exists.1 h
  obtain ⟨h1,h2⟩:=B7V hx
  exact List.mem_map.2 ⟨x,h1,h2⟩
 ·intro h
  obtain ⟨x,h1,h2⟩:=List.mem_map.1 h
  cases q:A8 f l e
  ·exact absurd h2 (D9d q x h1)
  ·rfl
theorem A2X {seen ps:List Pt} (h:nd seen ps) {e:Pt} (he:e∈ps):e∉seen:=by
 obtain ⟨i,hi,rfl⟩:=List.mem_iff_getElem.1 he
 exact fun q=>h i hi (List.mem_append_left _ q)
theorem apart {s:Stt} (ms:E4 s=true) (e:Pt):(A8 fS s.seats e=true→A8 fI s.invites e=false∧A8 fA s.asks e=false∧A8 fB s.bans e=false)∧(A8 fI s.invites e=true→A8 fA s.asks e=false∧A8 fB s.bans e=false)∧(A8 fA s.asks e=true→A8 fB s.bans e=false):=by
 unfold E4 at ms
 simp only [Bool.and_eq_true,B6h] at ms
 obtain ⟨_,⟨_,h1,_⟩,⟨_,h2,_⟩,⟨_,h3,_⟩,⟨_,h4,_⟩,_⟩:=ms
 have t:∀ {X:Type} {f:X→Pt} {l:List X},(A8 f l e=true→False)→A8 f l e=false:=fun h=>by
  rename_i X f l
  cases q:A8 f l e
  ·rfl
  ·exact (h q).elim
 refine ⟨fun q=>⟨t fun p=>?_,t fun p=>?_,t fun p=>?_⟩,fun q=>⟨t fun p=>?_,t fun p=>?_⟩,fun q=>t fun p=>?_⟩ <;> rw [F6P] at p q
 ·exact A2X h2 p q
 ·exact A2X h3 p (List.mem_append_left _ q)
 ·exact A2X h4 p (List.mem_append_left _ (List.mem_append_left _ q))
 ·exact A2X h3 p (List.mem_append_right _ q)
 ·exact A2X h4 p (List.mem_append_left _ (List.mem_append_right _ q))
 ·exact A2X h4 p (List.mem_append_right _ q)
@[simp] theorem G7k (z:Ban) (c:Ci):(B2 z).put [0] (eCi c)=some (B2 { z with who:=c }):=by simp [B2,-A4l]
end Go.Vab

namespace Go.Vab
open Go
theorem Chg.app {κ κ':Nat→Nat} {k:Nat} {H H' l:A3} (c:Chg κ k (H++l) κ' H') (top:∀ i,H.length≤i→κ i=0):Chg κ k H κ' H' :=
 ⟨by have:=c.len;simp at this;omega,fun i hi=>c.old i (by simp;omega),fun i hi h=>(c.keep i (by simp;omega) h).trans (List.getElem?_append_left hi),fun _ => c.top fun i hi=>top i (by simp at hi;omega)⟩
theorem A5d {X : Type} {κ : Nat → Nat} {k : Nat} {t : Ty} {E : X → AV} {H : A3} {x : AV} {l : List X} {bytes : Nat} {z : X} {K : AV × A3 → Prop} (hz : ∀ m, K1 m (E z) = .node (List.replicate m (E z))) (top : ∀ i, H.length ≤ i → κ i = 0)
  (hx:C7 t x (H++[⟨.node [],0,.own⟩])=some (.node (l.map E))) (hl:l.length≤1000) (hb:bytes≤10000) (hK:∀ x' H' κ',KRow κ' k t E H' x' l→Chg κ k H κ' H'→K (x',H')) :
  R4 t bytes (E z) (.slice H.length 0 [] t 0 0 (some 0)) x (H++[⟨.node [],0,.own⟩]) K:=by
 have hmul:l.length * bytes≤1000 * 10000:=Nat.mul_le_mul hl hb
 have he:C7 t (.slice H.length 0 [] t 0 0 (some 0)) (H++[⟨.node [],0,.own⟩])=some (.node []):=by
  have:=M3 (t:=t) (E:=E) (b:=H.length) (off:=0) (n:=0) (c:=some 0) (xs:=[]) (H:=H++[⟨.node [],0,.own⟩]) (by simp) (by simp)
  simpa using this
 refine ⟨_,l.length,hx,by simp,_,_,he,rfl,?_⟩
 by_cases h0:l.length=0
 ·have hn:l=[]:=List.eq_nil_of_length_eq_zero h0
  subst hn
  refine .inl ⟨rfl,Nat.le_refl _,hK _ _ (fun i=>if i=H.length then 8 else κ i) ⟨by simp,.inl ⟨rfl,⟨he,⟨rfl,by simp,rfl⟩,by simp⟩,rfl,fun b hb=>?_⟩⟩ ⟨by simp,fun i hi=>if_neg (by omega),fun i hi _ => List.getElem?_append_left hi,fun h i hi=>?_⟩⟩
  ·cases hb;exact if_pos rfl
  ·simp only [List.length_append,List.length_singleton] at hi
   exact (if_neg (by omega)).trans (h i (by omega))
 ·refine .inr (.inr ⟨by omega,by omega,by rw [Nat.zero_add];unfold E0;omega,by unfold E0;omega,by omega,fun c' row hc' hrow=>?_⟩)
  rw [B3f hz] at hrow
  cases hrow
  have e1:[]++l.map E++List.replicate (c' - (0+l.length)) (E z)=(l++List.replicate (c' - l.length) z).map E:=by simp
  rw [e1]
  obtain ⟨g1,g2⟩:=A1E (k:=k) (t:=t) (E:=E) (κ:=κ) (H:=H++[⟨.node [],0,.own⟩]) (l:=l) (xs:=l++List.replicate (c' - l.length) z) (c:=c') hl (by simp;omega) (by omega) (List.take_left' rfl)
  have:=hK _ _ _ g1 (g2.app top)
  simpa using this
theorem Row.fr {κ κ':Nat→Nat} {H H':A3} {t:Ty} {x:AV} {vs:List AV} (r:Row t H x vs) (f:Fr κ H κ' H') (h:∀ b,rb x=some b→κ b=0∨6≤κ b):Row t H' x vs:=r.other fun b hb=>f.keep b (r.rb_lt b hb) (h b hb)
theorem BytL.fr {κ κ':Nat→Nat} {H H':A3} {x:AV} {l:Bs} (r:BytL H x l) (f:Fr κ H κ' H') (h:∀ b,rb x=some b→κ b=0∨6≤κ b):BytL H' x l:=r.other fun b hb=>f.keep b (r.rb_lt' b hb) (h b hb)
theorem BytO.fr {κ κ':Nat→Nat} {H H':A3} {x:AV} {l:Bs} (r:BytO H x l) (f:Fr κ H κ' H') (h:∀ b,rb x=some b→κ b=0∨6≤κ b):BytO H' x l:=r.other fun b hb=>f.keep b (r.rb_lt' b hb) (h b hb)
theorem F9q {h u : A3} {x : AV} {l : Bs} {k : Nat} {K : AV × A3 → Prop} (h0 : (h ++ u)[k]? = some ⟨.ints .u8 [], 0, .own⟩)
  (hs:C7 (.int .u8) (.slice k 0 [] (.int .u8) 0 0 (some 0)) (h++u)=some (.ints .u8 [])) (hx:BytL (h++u) x l) (hk:h.length≤k)
  (hK:∀ y e,BytFrom h.length (u++e) y l→OwnB (h++(u++e)) y→K (y,h++(u++e))):R4 (.int .u8) 1 (u8 0#8) (.slice k 0 [] (.int .u8) 0 0 (some 0)) x (h++u) K:=by
 have hbd:=hx.bound
 have e0:(AV.ints .u8 []).join (arr l.length (Bs.g l))=some (arr l.length (Bs.g l)):=by simp [AV.join,arr,bytes]
 refine ⟨arr l.length (Bs.g l),l.length,hx.1.1,D7a _ _,.ints .u8 [],_,hs,e0,?_⟩
 by_cases hl:l.length=0
 ·have hv:l=[]:=List.eq_nil_of_length_eq_zero hl
  subst hv
  refine .inl ⟨hl,Nat.le_refl _,?_⟩
  have:=hK (.slice k 0 [] (.int .u8) 0 0 (some 0)) [] (fun F' e hF=>⟨⟨by simpa [arr,bytes] using B6P hF hk hs e,⟨rfl,Nat.le_refl _,rfl⟩⟩,by simp⟩) fun i hi=>by cases hi;exact ⟨0,0,0,fun _ => 0#8,rfl,Nat.le_refl _,by simpa [arr,bytes] using h0⟩
  simpa using this
 ·refine .inr (.inr ⟨by omega,by omega,by unfold E0;omega,by unfold E0;omega,by omega,fun c row hc hr=>?_⟩)
  unfold u0 K1 u8 at hr
  simp only [BitVec.toNat_ofNat,Nat.zero_mod,Int.ofNat_zero,Nat.zero_add] at hr
  have hr2:(arr l.length (Bs.g l)).join (.ints .u8 (List.replicate (c - l.length) 0))=some row:=hr
  rw [D71] at hr2
  cases hr2
  simp only [Nat.zero_add] at hc ⊢
  have:=hK _ _ (D7N (F:=h) (u:=u) (l:=l) (c:=c) (m:=c - l.length) (by omega) hbd) fun i hi=>by
   cases hi
   exact ⟨_,_,l.length+(c - l.length),_,rfl,by omega,by rw [←List.append_assoc,List.getElem?_append_right (Nat.le_refl _),Nat.sub_self];rfl⟩
  rw [List.append_assoc]
  exact this
structure Wp (κ:Nat→Nat) (H:A3) (s:Stt) (vt vp vs vi va vb:AV):Prop where
 top:∀ i,H.length≤i→κ i=0
 ft:BytO H vt s.title
 fp:BytO H vp s.pass
 kt:∀ b,rb vt=some b→κ b=7
 kp:∀ b,rb vp=some b→κ b=7
 fs:KRow κ 2 A7 B0 H vs s.seats
 fi:KRow κ 3 B1 B7 H vi s.invites
 fa:KRow κ 4 B5 B9 H va s.asks
 fb:KRow κ 5 B4 B2 H vb s.bans
section
variable {κ:Nat→Nat} {H:A3} {c:Nat} {s:Stt} {vt vp vs vi va vb:AV}
theorem Wk.wp (w:Wk κ H c s vt vp vs vi va vb):Wp κ H s vt vp vs vi va vb:=⟨w.top,w.ft,w.fp,w.kt,w.kp,w.fs,w.fi,w.fa,w.fb⟩
theorem Wp.str (w:Wp κ H s vt vp vs vi va vb):StR H s vt vp vs vi va vb:=⟨w.ft.b,w.fp.b,w.fs.row,w.fi.row,w.fa.row,w.fb.row⟩
theorem Wp.own {n:Nat} (w:Wp κ H s vt vp vs vi va vb) (h0:∀ i,i < n→κ i=0):∀ y∈[vt,vp,vs,vi,va,vb],∀ b,rb y=some b→n≤b:=by
 have key:∀ {b m:Nat},κ b=m→m≠0→n≤b:=fun {b m} h1 h2=>Nat.le_of_not_lt fun hlt=>h2 (by rw [←h1];exact h0 b hlt)
 have row:∀ {X:Type} {k:Nat} {t:Ty} {E:X→AV} {x:AV} {l:List X} (r:KRow κ k t E H x l),k≠0→∀ b,rb x=some b→n≤b:=fun r hk b hb=>by
  rcases r.kind b hb with h|h
  ·exact key h (by decide)
  ·exact key h hk
 intro y hy b hb
 simp only [List.mem_cons,List.not_mem_nil,or_false] at hy
 rcases hy with rfl|rfl|rfl|rfl|rfl|rfl
 ·exact key (w.kt b hb) (by decide)
 ·exact key (w.kp b hb) (by decide)
 ·exact row w.fs (by decide) b hb
 ·exact row w.fi (by decide) b hb
 ·exact row w.fa (by decide) b hb
 ·exact row w.fb (by decide) b hb
theorem Wk.str (w:Wk κ H c s vt vp vs vi va vb):StR H s vt vp vs vi va vb:=w.wp.str
theorem Wp.wr (w:Wp κ H s vt vp vs vi va vb) {p:Nat} (hp:κ p=6∨κ p=1) (v:Blk):Wp κ (H.set p v) s vt vp vs vi va vb:=by
 have hg:∀ i,κ i≠6∧κ i≠1→(H.set p v)[i]?=H[i]?:=fun i hi=>List.getElem?_set_ne fun e=>by subst e;omega
 have ho:∀ {k:Nat} i,k < 6∧k≠1→κ i=8∨κ i=k→κ i=κ i∧(H.set p v)[i]?=H[i]?:=fun i h1 h=>⟨rfl,hg i (by rcases h with h|h <;> omega)⟩
 exact ⟨fun i hi=>w.top i (by simpa using hi),w.ft.other fun b hb=>hg b (by rw [w.kt b hb];decide),w.fp.other fun b hb=>hg b (by rw [w.kp b hb];decide),w.kt,w.kp,
  w.fs.other fun i _ => ho i (by decide),w.fi.other fun i _ => ho i (by decide),w.fa.other fun i _ => ho i (by decide),w.fb.other fun i _ => ho i (by decide)⟩
theorem Wp.wk (w:Wp κ H s vt vp vs vi va vb) (hc:c < H.length) (kc:κ c=6):Wk (fun i=>if i=c then 1 else κ i) (H.set c ⟨eSt s vt vp vs vi va vb,0,.own⟩) c s vt vp vs vi va vb:=by
 have hg:∀ i,κ i≠6→(if i=c then 1 else κ i)=κ i∧(H.set c ⟨eSt s vt vp vs vi va vb,0,.own⟩)[i]?=H[i]?:=fun i hi=>by
  have hne:i≠c:=fun e=>by subst e;exact hi kc
  exact ⟨if_neg hne,List.getElem?_set_ne (fun e=>hne e.symm)⟩
 have ho:∀ {k:Nat} i,k < 6→κ i=8∨κ i=k→(if i=c then 1 else κ i)=κ i∧(H.set c ⟨eSt s vt vp vs vi va vb,0,.own⟩)[i]?=H[i]?:=fun i h1 h=>hg i (by rcases h with h|h <;> omega)
 exact ⟨List.getElem?_set_self hc,if_pos rfl,fun i hi=>by simp only [List.length_set] at hi;rw [if_neg (by omega)];exact w.top i hi,w.ft.other fun b hb=>(hg b (by rw [w.kt b hb];decide)).2,w.fp.other fun b hb=>(hg b (by rw [w.kp b hb];decide)).2,
  fun b hb=>by rw [(hg b (by rw [w.kt b hb];decide)).1];exact w.kt b hb,fun b hb=>by rw [(hg b (by rw [w.kp b hb];decide)).1];exact w.kp b hb,
  w.fs.other fun i _ => ho i (by decide),w.fi.other fun i _ => ho i (by decide),w.fa.other fun i _ => ho i (by decide),w.fb.other fun i _ => ho i (by decide)⟩
def byt (κ:Nat→Nat) (n m:Nat):Nat→Nat:=fun i=>if n≤i∧i < m then 7 else κ i
theorem A5e {κ:Nat→Nat} {n m i:Nat} (h:i < n):byt κ n m i=κ i:=if_neg (by omega)
theorem E2S {κ:Nat→Nat} {n m i:Nat} (h:n≤i) (h2:i < m):byt κ n m i=7:=if_pos ⟨h,h2⟩
theorem F8F {κ:Nat→Nat} {n m i:Nat} (h:m≤i):byt κ n m i=κ i:=if_neg (by omega)
theorem Wk.byt (w:Wk κ H c s vt vp vs vi va vb) (l:A3):Wk (Go.Vab.byt κ H.length (H++l).length) (H++l) c s vt vp vs vi va vb:=by
 have hg:∀ i,i < H.length→Go.Vab.byt κ H.length (H++l).length i=κ i∧(H++l)[i]?=H[i]?:=fun i hi=>⟨A5e hi,List.getElem?_append_left hi⟩
 have t1:=w.ft.rb_lt'
 have t2:=w.fp.rb_lt'
 exact ⟨(hg _ w.lt).2.trans w.cell,(hg _ w.lt).1.trans w.kc,fun i hi=>by rw [F8F hi];exact w.top i (by simp at hi;omega),w.ft.app _,w.fp.app _,fun b hb=>by rw [(hg b (t1 b hb)).1];exact w.kt b hb,fun b hb=>by rw [(hg b (t2 b hb)).1];exact w.kp b hb,
  w.fs.other fun i hi _ => hg i hi,w.fi.other fun i hi _ => hg i hi,w.fa.other fun i hi _ => hg i hi,w.fb.other fun i hi _ => hg i hi⟩
end
theorem Fr.byt {κ:Nat→Nat} {H:A3} (l:A3):Fr κ H (Go.Vab.byt κ H.length (H++l).length) (H++l):=⟨by simp,fun i hi=>A5e hi,fun i hi _ => List.getElem?_append_left hi⟩
theorem Fr.kap {κ κ1 κ2:Nat→Nat} {H H1:A3} (a:Fr κ H κ1 H1) (h:∀ i,i < H.length→κ2 i=κ1 i):Fr κ H κ2 H1:=⟨a.len,fun i hi=>(h i hi).trans (a.old i hi),a.keep⟩
theorem U9 {H:A3} {i:Nat} {b:Blk} (h:H[i]?=some b) (l:A3):(H++l)[i]?=some b:=by rw [List.getElem?_append_left (List.getElem?_eq_some_iff.1 h).1];exact h
theorem A1P {H:A3} {i j:Nat} {b:Blk} (h:H[i]?=some b) (hij:j≠i) (v:Blk):(H.set j v)[i]?=some b:=by rw [List.getElem?_set_ne hij];exact h
theorem A0q {H:A3} {i:Nat} {b:Blk} (h:H[i]?=some b) (v:Blk):(H.set i v)[i]?=some v:=List.getElem?_set_self (List.getElem?_eq_some_iff.1 h).1
theorem D9f (v w:BitVec 32):(v.setWidth 64=w.setWidth 64+1#64)↔¬ (v=0#32∨v - 1#32≠w):=by
 have h1:=v.isLt
 have h2:=w.isLt
 have e:v=0#32↔v.toNat=0:=⟨fun h=>by rw [h];rfl,fun h=>BitVec.eq_of_toNat_eq h⟩
 have e2:v - 1#32=w↔(4294967296 - 1+v.toNat) % 4294967296=w.toNat:=⟨fun h=>by rw [←h,BitVec.toNat_sub];rfl,fun h=>BitVec.eq_of_toNat_eq (by rw [BitVec.toNat_sub];exact h)⟩
 have e3:v.setWidth 64=w.setWidth 64+1#64↔v.toNat=w.toNat+1:=by
  constructor
  ·intro h
   have:=congrArg BitVec.toNat h
   rw [BitVec.toNat_add,BitVec.toNat_setWidth,BitVec.toNat_setWidth] at this
   simp only [BitVec.toNat_ofNat] at this
   omega
  ·intro h
   apply BitVec.eq_of_toNat_eq
   rw [BitVec.toNat_add,BitVec.toNat_setWidth,BitVec.toNat_setWidth]
   simp only [BitVec.toNat_ofNat]
   omega
 rw [e3,e,ne_eq,e2]
 omega
end Go.Vab

namespace Go.Vab
open Go
abbrev A0r (k:Ci) (t:Bs) (ac:Acc) (p:Bs) (c:Ci):Stt:=⟨0#32,k,t,ac,p,[⟨c,2#8,0#32⟩],[],[],[]⟩
def A2Y (k:Ci) (t:Bs) (ac:Acc) (p:Bs) (c:Ci):Except Nat Stt:=if E4 (A0r k t ac p c)=true then .ok (A0r k t ac p c) else .error 2
@[simp] theorem G7l {k:Ci} {ac:Acc} {vt vp x:AV}:G4 A6 (C1 0#32 ci0 D4 .nilslice .nilslice .nilslice .nilslice .nilslice .nilslice) [(1,eCi k),(2,vt),(3,J8 ac),(4,vp),(5,x)]=if (A4 vt .cell&&(A4 vp .cell&&A4 x .cell))=true then some (C1 0#32 k ac vt vp x .nilslice .nilslice .nilslice) else none:=by
 cases h1:A4 vt .cell <;> cases h2:A4 vp .cell <;> cases h3:A4 x .cell <;> simp [G4,h1,h2,h3]
def A0S (p:Pt) (c:BitVec 8):Pt:=Pt.of (upd p.g 0 c)
def i5 (c:BitVec 8):Ci:=⟨A0S pt0 c,A0S pt0 (c+100#8)⟩
def gS:Stt:=A0r ci0 [116#8] ⟨2#8,2#8,0#8⟩ [] (i5 97#8)
def kA (v:BitVec 32) (c:BitVec 8):Actn:=⟨v,1#8,i5 c,pt0,1#8,[],D4,[]⟩
def gT:Stt:=⟨1#32,ci0,[116#8],⟨2#8,2#8,0#8⟩,[],[⟨i5 97#8,2#8,0#32⟩,⟨i5 98#8,1#8,1#32⟩],[],[],[]⟩
def A2Z (s:Stt) (a:Actn):Bool:=decide (400 < s.seats.length+s.invites.length+s.asks.length+s.bans.length)||decide (20000 < s.title.length+s.pass.length+a.title.length+a.pass.length)
theorem F8G:A2Y ci0 [116#8] ⟨2#8,2#8,0#8⟩ [] (i5 97#8)=.ok gS:=by rfl
theorem E2T:I4 gS (i5 97#8).e (kA 1#32 98#8)=.ok gT:=by rfl
theorem E2U:I4 gT (i5 98#8).e (kA 2#32 99#8)=.error 191:=by rfl
@[simp] theorem G8Y (p:Pt) (c:BitVec 8):(pt p).put [0] (u8 c)=some (pt (A0S p c)):=by
 unfold A0S
 rw [←C0b]
 unfold pt
 rw [A5T,if_pos (by decide)]
end Go.Vab

namespace Go.Vab
open Go
@[simp] theorem G9C (z:Ci) (c:BitVec 8):(eCi z).put [0,0] (u8 c)=some (eCi ⟨A0S z.e c,z.f⟩):=by simp [eCi,-A47]
section
variable {X:Type} {κ:Nat→Nat} {k:Nat} {ts:List Ty} {E:X→AV} {H:A3} {x:AV} {l:List X}
theorem KRow.wr1 (r : KRow κ k (.struct ts) E H x l) {i : Nat} (hi : i < l.length) : ∃ b v, κ b = k ∧ Q9 (.struct ts) x (nat i) = some (.ptr b 0 [i] (.struct ts)) ∧ H[b]? = some ⟨v, 0, .own⟩ ∧ (∀ q, v.get (i :: q) = (E l[i]).get q) ∧
  ∀ q w y,(E l[i]).put q w=some (E y)→∃ v',v.put (i::q) w=some v'∧KRow κ k (.struct ts) E (H.set b ⟨v',0,.own⟩) x (l.set i y)∧Chg κ k H κ (H.set b ⟨v',0,.own⟩):=by
 obtain ⟨hl,⟨rfl,_⟩|⟨b,c,xs,hk,rfl,hb,hc,h0,ht⟩⟩:=r
 ·exact absurd hi (by simp)
 ·have hle : l.length ≤ xs.length := by
   have:=congrArg List.length ht
   rw [List.length_take] at this;omega
  have hx:xs[i]'(by omega)=l[i]:=by
   have:(xs.take l.length)[i]?=l[i]?:=by rw [ht]
   rw [List.getElem?_take_of_lt hi,List.getElem?_eq_getElem hi,List.getElem?_eq_getElem (show i < xs.length by omega)] at this
   simpa using this
  have hg:(xs.map E)[i]?=some (E l[i]):=by rw [List.getElem?_map,List.getElem?_eq_getElem (show i < xs.length by omega),hx];rfl
  refine ⟨b,_,hk,by simp [Q9,hi],hb,fun q=>by rw [A1C,hg];rfl,fun q w y hp=>⟨.node ((xs.set i y).map E),by rw [D8j,hg,G9,hp,G9,List.map_set],?_⟩⟩
  have:=g9 (k:=k) (t:=.struct ts) (E:=E) (l:=l.set i y) (xs:=xs) (xs':=xs.set i y) (c:=c) hk hb (by simpa using hl) (by simpa using hc) h0 (by rw [List.length_set,List.take_set,ht])
  rw [List.length_set] at this
  exact this
end
structure Ls (z z':Stt):Prop where
 t:z'.title.length=z.title.length
 p:z'.pass.length=z.pass.length
 s:z'.seats.length=z.seats.length
 i:z'.invites.length=z.invites.length
 a:z'.asks.length=z.asks.length
 b:z'.bans.length=z.bans.length
structure Sp (κ:Nat→Nat) (H0 H:A3) (z:Stt) (vt vp vs vi va vb:AV):Prop where
 w:∃ z',Wp κ H z' vt vp vs vi va vb∧Ls z z'
 len:H.length=H0.length
 keep:∀ i,κ i=0→H[i]?=H0[i]?
section
variable {κ:Nat→Nat} {H0 H:A3} {z:Stt} {vt vp vs vi va vb:AV}
theorem Sp.refl (w:Wp κ H z vt vp vs vi va vb):Sp κ H H z vt vp vs vi va vb:=⟨⟨z,w,rfl,rfl,rfl,rfl,rfl,rfl⟩,rfl,fun _ _ => rfl⟩
theorem Sp.next {b k:Nat} {v:Blk} (sp:Sp κ H0 H z vt vp vs vi va vb) (hk:κ b=k) (h0:k≠0) (h:∃ z',Wp κ (H.set b v) z' vt vp vs vi va vb∧Ls z z'):Sp κ H0 (H.set b v) z vt vp vs vi va vb :=
 ⟨h,by rw [List.length_set];exact sp.len,fun i hi=>by rw [List.getElem?_set_ne fun e=>by rw [←e] at hi;omega];exact sp.keep i hi⟩
theorem Sp.out {b:Nat} {v:AV} (sp:Sp κ H0 H z vt vp vs vi va vb) (hb:H[b]?=some ⟨v,0,.own⟩) (c:Blk):(∀ l,blkAt (H++l) b 0=some ⟨v,0,.own⟩)∧∀ w l,(H++l).set b w=H.set b w++l:=⟨fun l=>L6 (A9 hb) l,fun w l=>g8 hb l w⟩
def Wr1 (κ:Nat→Nat) (H0 H:A3) (z:Stt) (vt vp vs vi va vb x:AV) (T:Ty) (i:Nat) (q:List Nat) (mk:Nat→AV):Prop :=
 ∃ b v n,Q9 T x (nat i)=some (.ptr b 0 [i] T)∧(∀ l,blkAt (H++l) b 0=some ⟨v,0,.own⟩)∧(∀ w l,(H++l).set b w=H.set b w++l)∧v.get (i::q)=some (mk n) ∧
  ∀ m,∃ v',v.put (i::q) (mk m)=some v'∧Sp κ H0 (H.set b ⟨v',0,.own⟩) z vt vp vs vi va vb
def m8 (n:Nat):AV:=u8 (BitVec.ofNat 8 n)
def m32 (n:Nat):AV:=u32 (BitVec.ofNat 32 n)
theorem B3g (x:BitVec 8):u8 x=m8 x.toNat:=by simp [m8]
theorem E2V (x:BitVec 32):u32 x=m32 x.toNat:=by simp [m32]
theorem A7d (n:Nat):C6 .add (m8 n) (u8 1#8)=some (m8 (n+1)):=by simp [m8,BitVec.ofNat_add]
theorem D9g (n:Nat):C6 .add (m32 n) (u32 1#32)=some (m32 (n+1)):=by simp [m32,BitVec.ofNat_add]
@[simp] theorem G9j (n:Nat):A4 (m8 n) (.int .u8)=true:=rfl
@[simp] theorem G9X (n:Nat):A4 (m32 n) (.int .u32)=true:=rfl
theorem Wp.rest {κ' : Nat → Nat} {H' : A3} {k : Nat} {s : Stt} (w : Wp κ H s vt vp vs vi va vb) (h : Chg κ k H κ' H') (hk : 2 ≤ k) (h6 : k < 6 := by decide) : (∀ i, H'.length ≤ i → κ' i = 0) ∧ BytO H' vt s.title ∧ BytO H' vp s.pass ∧ (∀ b, rb vt = some b → κ' b = 7) ∧ (∀ b, rb vp = some b → κ' b = 7) ∧
  (k≠2→KRow κ' 2 A7 B0 H' vs s.seats)∧(k≠3→KRow κ' 3 B1 B7 H' vi s.invites)∧(k≠4→KRow κ' 4 B5 B9 H' va s.asks)∧(k≠5→KRow κ' 5 B4 B2 H' vb s.bans):=by
 have t1:=w.ft.rb_lt'
 have t2:=w.fp.rb_lt'
 exact ⟨h.top w.top,w.ft.other fun b hb=>h.keep b (t1 b hb) (by rw [w.kt b hb];omega),w.fp.other fun b hb=>h.keep b (t2 b hb) (by rw [w.kp b hb];omega),
  fun b hb=>(h.old b (t1 b hb)).trans (w.kt b hb),fun b hb=>(h.old b (t2 b hb)).trans (w.kp b hb),fun q=>w.fs.chg h (by omega) (by omega),fun q=>w.fi.chg h (by omega) (by omega),fun q=>w.fa.chg h (by omega) (by omega),fun q=>w.fb.chg h (by omega) (by omega)⟩
theorem Sp.inv (sp:Sp κ H0 H z vt vp vs vi va vb) {i:Nat} (hi:i < z.invites.length):Wr1 κ H0 H z vt vp vs vi va vb vi B1 i [2,0,0] m8:=by
 obtain ⟨z',w,ls⟩:=sp.w
 have hi':i < z'.invites.length:=by rw [ls.i];exact hi
 obtain ⟨b,v,hk,h1,hb,hg,hp⟩:=w.fi.wr1 hi'
 obtain ⟨o1,o2⟩:=sp.out hb ⟨v,0,.own⟩
 refine ⟨b,v,_,h1,o1,o2,by rw [hg,←B3g];simp;rfl,fun m=>?_⟩
 obtain ⟨y,hy⟩:∃ y:Inv,y={ z'.invites[i] with by_ := ⟨A0S z'.invites[i].by_.e (BitVec.ofNat 8 m),z'.invites[i].by_.f⟩ }:=⟨_,rfl⟩
 obtain ⟨v',p1,p2,p3⟩:=hp [2,0,0] (m8 m) y (by rw [hy];simp [m8,B7,-D7z])
 obtain ⟨h3,h4,h5,h6,h7,g2,g3,g4,g5⟩:=w.rest p3 (by decide)
 exact ⟨v',p1,sp.next hk (by decide) ⟨{ z' with invites:=z'.invites.set i y },⟨h3,h4,h5,h6,h7,g2 (by decide),p2,g4 (by decide),g5 (by decide)⟩,ls.t,ls.p,ls.s,by simpa using ls.i,ls.a,ls.b⟩⟩
theorem Sp.bn (sp:Sp κ H0 H z vt vp vs vi va vb) {i:Nat} (hi:i < z.bans.length):Wr1 κ H0 H z vt vp vs vi va vb vb B4 i [1,0,0] m8:=by
 obtain ⟨z',w,ls⟩:=sp.w
 have hi':i < z'.bans.length:=by rw [ls.b];exact hi
 obtain ⟨b,v,hk,h1,hb,hg,hp⟩:=w.fb.wr1 hi'
 obtain ⟨o1,o2⟩:=sp.out hb ⟨v,0,.own⟩
 refine ⟨b,v,_,h1,o1,o2,by rw [hg,←B3g];simp;rfl,fun m=>?_⟩
 obtain ⟨y,hy⟩:∃ y:Ban,y={ z'.bans[i] with by_ := ⟨A0S z'.bans[i].by_.e (BitVec.ofNat 8 m),z'.bans[i].by_.f⟩ }:=⟨_,rfl⟩
 obtain ⟨v',p1,p2,p3⟩:=hp [1,0,0] (m8 m) y (by rw [hy];simp [m8,B2,-A4l])
 obtain ⟨h3,h4,h5,h6,h7,g2,g3,g4,g5⟩:=w.rest p3 (by decide)
 exact ⟨v',p1,sp.next hk (by decide) ⟨{ z' with bans:=z'.bans.set i y },⟨h3,h4,h5,h6,h7,g2 (by decide),g3 (by decide),g4 (by decide),p2⟩,ls.t,ls.p,ls.s,ls.i,ls.a,by simpa using ls.b⟩⟩
theorem Sp.st (sp:Sp κ H0 H z vt vp vs vi va vb) {i:Nat} (hi:i < z.seats.length):Wr1 κ H0 H z vt vp vs vi va vb vs A7 i [2] m32:=by
 obtain ⟨z',w,ls⟩:=sp.w
 have hi':i < z'.seats.length:=by rw [ls.s];exact hi
 obtain ⟨b,v,hk,h1,hb,hg,hp⟩:=w.fs.wr1 hi'
 obtain ⟨o1,o2⟩:=sp.out hb ⟨v,0,.own⟩
 refine ⟨b,v,_,h1,o1,o2,by rw [hg,←E2V];simp;rfl,fun m=>?_⟩
 obtain ⟨y,hy⟩:∃ y:Seat,y={ z'.seats[i] with joined:=BitVec.ofNat 32 m }:=⟨_,rfl⟩
 obtain ⟨v',p1,p2,p3⟩:=hp [2] (m32 m) y (by rw [hy];simp [m32,B0,-A26])
 obtain ⟨h3,h4,h5,h6,h7,g2,g3,g4,g5⟩:=w.rest p3 (by decide)
 exact ⟨v',p1,sp.next hk (by decide) ⟨{ z' with seats:=z'.seats.set i y },⟨h3,h4,h5,h6,h7,p2,g3 (by decide),g4 (by decide),g5 (by decide)⟩,ls.t,ls.p,by simpa using ls.s,ls.i,ls.a,ls.b⟩⟩
theorem Sp.ak (sp:Sp κ H0 H z vt vp vs vi va vb) {i:Nat} (hi:i < z.asks.length):Wr1 κ H0 H z vt vp vs vi va vb va B5 i [1] m32:=by
 obtain ⟨z',w,ls⟩:=sp.w
 have hi':i < z'.asks.length:=by rw [ls.a];exact hi
 obtain ⟨b,v,hk,h1,hb,hg,hp⟩:=w.fa.wr1 hi'
 obtain ⟨o1,o2⟩:=sp.out hb ⟨v,0,.own⟩
 refine ⟨b,v,_,h1,o1,o2,by rw [hg,←E2V];simp;rfl,fun m=>?_⟩
 obtain ⟨y,hy⟩:∃ y:Ask,y={ z'.asks[i] with at_ := BitVec.ofNat 32 m }:=⟨_,rfl⟩
 obtain ⟨v',p1,p2,p3⟩:=hp [1] (m32 m) y (by rw [hy];simp [m32,B9,-D70])
 obtain ⟨h3,h4,h5,h6,h7,g2,g3,g4,g5⟩:=w.rest p3 (by decide)
 exact ⟨v',p1,sp.next hk (by decide) ⟨{ z' with asks:=z'.asks.set i y },⟨h3,h4,h5,h6,h7,g2 (by decide),g3 (by decide),p2,g5 (by decide)⟩,ls.t,ls.p,ls.s,ls.i,by simpa using ls.a,ls.b⟩⟩
theorem D8t {h:A3} {i n m c:Nat} {f:Nat→BitVec 8} (hb:blkAt h i 0=some ⟨arr m f,0,.own⟩) (hl:n≤m) (hc:n≤c):Byt h (.slice i 0 [] (.int .u8) 0 n (some c)) n f:=by
 refine ⟨?_,rfl,hc,rfl⟩
 rw [a7,hb,G9,i0,G9,A5U,if_pos (by omega)]
 exact congrArg some (A0G fun i _ => by rw [Nat.zero_add])
theorem BytO.wr1 {x:AV} {l:Bs} (r:BytO H x l) {i:Nat} (hi:i < l.length):∃ b m g,rb x=some b∧Q9 (.int .u8) x (nat i)=some (.ptr b 0 [i] (.int .u8))∧H[b]?=some ⟨arr m g,0,.own⟩∧i < m∧∀ g',∃ l',l'.length=l.length∧BytO (H.set b ⟨arr m g',0,.own⟩) x l':=by
 obtain ⟨hb,ho⟩:=r
 have h2:=hb.1.2
 have hbd:=hb.2
 cases x with
 | nilslice=>exact absurd hi (by rw [show l.length=0 from h2];omega)
 | slice j ver path t off len cap =>
  obtain ⟨n,c,m,g,e,hn,hj⟩:=ho j rfl
  cases e
  obtain ⟨e1,e2,-⟩:=h2
  subst e1
  have hlt:=(List.getElem?_eq_some_iff.1 hj).1
  refine ⟨j,m,g,rfl,by simp [Q9,hi],hj,by omega,fun g'=>⟨(List.range l.length).map g',by simp,?_,fun k hk=>?_⟩⟩
  ·exact BytL.of (D8t (A9 (List.getElem?_set_self hlt)) hn e2) hbd
  ·cases hk
   exact ⟨_,_,m,g',rfl,hn,List.getElem?_set_self hlt⟩
 | _ => unfold A01 at h2;simp at h2
theorem Wp.bytes {s:Stt} {b:Nat} {v:Blk} (w:Wp κ H s vt vp vs vi va vb) (hk:κ b=7):(∀ i,(H.set b v).length≤i→κ i=0)∧KRow κ 2 A7 B0 (H.set b v) vs s.seats∧KRow κ 3 B1 B7 (H.set b v) vi s.invites∧KRow κ 4 B5 B9 (H.set b v) va s.asks∧KRow κ 5 B4 B2 (H.set b v) vb s.bans:=by
 have ho:∀ {k:Nat} i,k < 6→κ i=8∨κ i=k→κ i=κ i∧(H.set b v)[i]?=H[i]?:=fun i h1 h=>⟨rfl,List.getElem?_set_ne fun e=>by subst e;omega⟩
 exact ⟨fun i hi=>w.top i (by simpa using hi),w.fs.other fun i _ => ho i (by decide),w.fi.other fun i _ => ho i (by decide),w.fa.other fun i _ => ho i (by decide),w.fb.other fun i _ => ho i (by decide)⟩
theorem BytO.beside {x:AV} {l:Bs} (r:BytO H x l) {b m:Nat} {g g':Nat→BitVec 8} (hb:H[b]?=some ⟨arr m g,0,.own⟩):∃ l',l'.length=l.length∧BytO (H.set b ⟨arr m g',0,.own⟩) x l':=by
 by_cases h:rb x=some b
 ·obtain ⟨hb2,ho⟩:=r
  have h2:=hb2.1.2
  obtain ⟨n,c,m',g2,e,hn,hj⟩:=ho b h
  subst e
  obtain ⟨e1,e2,-⟩:=h2
  subst e1
  rw [hb] at hj
  have hm:m=m':=by
   have:=congrArg (fun o:Option Blk=>o.map fun c=>match c.v with | .ints _ xs=>xs.length | _ => 0) hj
   simpa [arr,bytes] using this
  subst hm
  have hlt:=(List.getElem?_eq_some_iff.1 hb).1
  refine ⟨(List.range l.length).map g',by simp,BytL.of (D8t (A9 (List.getElem?_set_self hlt)) hn e2) hb2.2,fun k hk=>?_⟩
  cases hk
  exact ⟨_,_,m,g',rfl,hn,List.getElem?_set_self hlt⟩
 ·exact ⟨l,rfl,r.other fun i hi=>List.getElem?_set_ne fun e=>by subst e;exact h hi⟩
theorem Sp.ttl (sp:Sp κ H0 H z vt vp vs vi va vb) {i:Nat} (hi:i < z.title.length):Wr1 κ H0 H z vt vp vs vi va vb vt (.int .u8) i [] m8:=by
 obtain ⟨z',w,ls⟩:=sp.w
 obtain ⟨b,m,g,hr,h1,hb,hm,hp⟩:=w.ft.wr1 (i:=i) (by rw [ls.t];exact hi)
 obtain ⟨o1,o2⟩:=sp.out hb ⟨.nilptr,0,.own⟩
 have hk:=w.kt b hr
 refine ⟨b,_,_,h1,o1,o2,by rw [D9V,if_pos hm,B3g],fun n=>⟨_,by unfold m8;rw [A5T,if_pos hm],sp.next hk (by decide) ?_⟩⟩
 obtain ⟨l',q1,q2⟩:=hp (upd g i (BitVec.ofNat 8 n))
 obtain ⟨l2,q3,q4⟩:=w.fp.beside (g':=upd g i (BitVec.ofNat 8 n)) hb
 obtain ⟨t1,g2,g3,g4,g5⟩:=w.bytes (v:=⟨arr m (upd g i (BitVec.ofNat 8 n)),0,.own⟩) hk
 exact ⟨{ z' with title:=l',pass:=l2 },⟨t1,q2,q4,w.kt,w.kp,g2,g3,g4,g5⟩,q1.trans ls.t,q3.trans ls.p,ls.s,ls.i,ls.a,ls.b⟩
theorem Sp.psw (sp:Sp κ H0 H z vt vp vs vi va vb) {i:Nat} (hi:i < z.pass.length):Wr1 κ H0 H z vt vp vs vi va vb vp (.int .u8) i [] m8:=by
 obtain ⟨z',w,ls⟩:=sp.w
 obtain ⟨b,m,g,hr,h1,hb,hm,hp⟩:=w.fp.wr1 (i:=i) (by rw [ls.p];exact hi)
 obtain ⟨o1,o2⟩:=sp.out hb ⟨.nilptr,0,.own⟩
 have hk:=w.kp b hr
 refine ⟨b,_,_,h1,o1,o2,by rw [D9V,if_pos hm,B3g],fun n=>⟨_,by unfold m8;rw [A5T,if_pos hm],sp.next hk (by decide) ?_⟩⟩
 obtain ⟨l',q1,q2⟩:=hp (upd g i (BitVec.ofNat 8 n))
 obtain ⟨l2,q3,q4⟩:=w.ft.beside (g':=upd g i (BitVec.ofNat 8 n)) hb
 obtain ⟨t1,g2,g3,g4,g5⟩:=w.bytes (v:=⟨arr m (upd g i (BitVec.ofNat 8 n)),0,.own⟩) hk
 exact ⟨{ z' with title:=l2,pass:=l' },⟨t1,q4,q2,w.kt,w.kp,g2,g3,g4,g5⟩,q3.trans ls.t,q1.trans ls.p,ls.s,ls.i,ls.a,ls.b⟩
end
end Go.Vab

namespace Go.Vab
open Go
def A2v (x:Except Nat Stt):Prop:=∀ k,x=.error k→k≠0
theorem B6i {s:Stt} {b:Pt} {a:Actn} {k:Nat} (h:madeP s b a=.error k):k≠0:=by
 have nz_ite:∀ {c:Prop} [Decidable c] {x y:Except Nat Stt},A2v x→A2v y→A2v (if c then x else y):=fun h1 h2=>by split <;> assumption
 have nz_ok:∀ t,A2v (.ok t):=fun t k h=>by cases h
 have nz_err:∀ {n:Nat},n≠0→A2v (.error n):=fun h k e=>by cases e;exact h
 have q:A2v (madeP s b a):=by
  unfold madeP
  dsimp only
  repeat' (first|exact nz_ok _ | exact nz_err (by decide)|refine nz_ite ?_ ?_ | split)
 exact q k h
end Go.Vab

namespace Go.Vab
open Go
theorem F43 {P:Program} (w:World) (a b:Addr) (tA tB:TypeId) (kA kB:Nat) (hsa:w.shape? a.block=some (tA,kA)) (hsb:w.shape? b.block=some (tB,kB)):∃ m,(mayBeOne a b).run P w=.ok m w:=by
 have hs:∀ (x:Addr) (t:TypeId) (k:Nat),w.shape? x.block=some (t,k)→∃ m,(stringish x).run P w=.ok m w:=by
  intro x t k h
  cases h1:w.frozen? x
  ·exact ⟨_,by simp [stringish,frozen,shape,Sem.run,h1,h];rfl⟩
  ·exact ⟨_,by simp [stringish,frozen,shape,Sem.run,h1,h];rfl⟩
 obtain ⟨sa,ha⟩:=hs a tA kA hsa
 obtain ⟨sb,hb⟩:=hs b tB kB hsb
 unfold mayBeOne
 simp only [Sem.run_bind,ha,hb,Result.andThen_ok]
 exact ⟨_,by simp [shape,Sem.run,hsa,hsb];rfl⟩
theorem F3k {P : Program} (w : World) (tS tR e : TypeId) (ht : P.underlying tS = some (.slice e)) (size : Nat) (hz : ∀ w, (Go.sizeOf e).run P w = .ok size w)
  (a b:Addr) (la ca lb cb:Nat) (hne:a.block≠b.block) (tA tB:TypeId) (kA kB:Nat) (hsa:w.shape? a.block=some (tA,kA)) (hsb:w.shape? b.block=some (tB,kB)) (hfa:w.frozen? a=false) :
  ∃ v w',(Extern.SlicesOverlaps.overlaps #[tS,tS] #[tR] #[.slice (some a) la ca,.slice (some b) lb cb]).run P w=.ok (.bool v) w'∧w'.heap=w.heap∧Io w w':=by
 have hnb:(a.block != b.block)=true:=by simpa using hne
 have hnb':(a.block == b.block)=false:=by simpa using hne
 obtain ⟨m,hm⟩:=F43 (P:=P) w a b tA tB kA kB hsa hsb
 change ∃ v w',Sem.run P (α:=Value) (do
  let some t := (#[tS, tS] : Array TypeId)[0]? | stuck "slices.overlaps: no parameter types"
  let .slice elem ← underlying t | stuck "slices.overlaps: slice type expected"
  let size ←sizeOf elem
  match (some a:Option Addr),(some b:Option Addr) with
  | some a,some b =>
   if la=0∨lb=0∨size=0 then pure (Value.bool false)
   else if a.block != b.block&&(←frozen a)&&(←frozen b) then unsupported .addressObserved
   else do
    if a.block != b.block then do
     noView a;noView b
     if ← mayBeOne a b then return Value.bool ((← choose (.extern "sameAddr.stringBytes" 2)) == 1)
    pure (Value.bool (a.block == b.block&&a.off < b.off+lb * size&&b.off < a.off+la * size))
  | _,_ => pure (Value.bool false)) w = _ ∧ _
 by_cases h0:la=0∨lb=0∨size=0
 ·exact ⟨false,w,by simp [run_underlying ht,hz,h0],rfl,Io.refl w⟩
 ·cases m
  ·refine ⟨false,w,?_,rfl,Io.refl w⟩
   simp [run_underlying ht,hz,h0,hnb,hnb',frozen,noView,viewAt,hm,shape,Sem.run,hsa,hsb,hfa]
  ·refine ⟨(Question.extern "sameAddr.stringBytes" 2).cut (w.tape w.drawn (.extern "sameAddr.stringBytes" 2)) == 1, { w with drawn := w.drawn + 1 }, ?_, rfl, rfl, rfl, rfl⟩
   have hq : (Question.extern "sameAddr.stringBytes" 2).forced = false := rfl
   simp [run_underlying ht,hz,h0,hnb,hnb',frozen,noView,viewAt,hm,shape,Sem.run,hsa,hsb,hfa,hq]
theorem RelHeap.heap {E:Gh} {h:A3} {w w':World} (R:RelHeap E h w) (e:w'.heap=w.heap):RelHeap E h w' :=
 ⟨R.n,fun i b hi=>⟨(R.at_ i b hi).ver,(R.at_ i b hi).fits,fun hm=>((R.at_ i b hi).mp hm).same (by rw [e]),fun hm=>by rw [e];exact (R.at_ i b hi).body hm,(R.at_ i b hi).grow⟩,R.inj⟩
theorem Moves.heap {E:Gh} {h:A3} {w w':World} (R:RelHeap E h w) (e:w'.heap=w.heap) (hio:Io w w'):Moves E h w E h w' :=
 ⟨Ext.refl E,R.heap e,by rw [e];exact Nat.le_refl _,fun _ _ _ => by rw [e],fun _ hx=>.inl hx,hio⟩
theorem D7g {P : Program} {E : Gh} {h : A3} {w : World} (R : RelHeap E h w) {b off n c : Nat} {t : Ty} {v r : AV} {y : Value} (hb : h[b]? = some ⟨v, 0, .own⟩) (he : C7 t (.slice b 0 [] t off n (some c)) h = some r) (hx : VRel E (.slice b 0 [] t off n (some c)) y) (hn : n ≠ 0) (ht : t.size ≠ 0) :
  ∃ a m te k,y=.slice (some a) n m∧a.block=E.blk b∧w.shape? a.block=some (te,k)∧w.frozen? a=false:=by
 obtain ⟨a,m,l,e1,hl,hll,hc⟩:=D7O R he hx
 have hver:(0:Nat)=E.ver b:=(R.at_ b _ hb).ver
 simp only [VRel] at hx
 obtain ⟨a',m',e2,hi,hv,hlen,hcap,hcn,hs⟩:=hx
 rw [e1] at e2
 injection e2 with q1 q2 q3
 injection q1 with q1
 subst q1;subst q3
 obtain ⟨o,k,hsub,ha,hroom⟩:=hs hver
 have hbk:a.block=E.blk b:=by rw [ha (by omega)]
 have hl0:0 < l.length:=by rw [hll];exact Nat.mul_pos (by omega) (by omega)
 have hcell:w.cell? a=some l[0]:=by
  have:=hc 0 l[0] (List.getElem?_eq_getElem hl0)
  simpa [Addr.add] using this
 obtain ⟨te,k2,hsh,hlt,hsp⟩:=World.shape?_of_cell? hcell
 refine ⟨a,m,te,k2,e1,hbk,hsh,?_⟩
 obtain ⟨l2,_,hp,_⟩:=(R.at_ b _ hb).body (by simp)
 obtain ⟨arr,te2,fr,pre,post,hh,_,_,hfr⟩:=hp (by intro q;exact absurd q.1 (by simp))
 obtain ⟨_,_,hno⟩:=hfr (by simp)
 unfold World.shape? at hsh
 rw [hbk,hh] at hsh
 simp only [Option.some.injEq,Prod.mk.injEq] at hsh
 unfold World.frozen?
 rw [hbk,hh]
 have:=hno a.off (by omega)
 obtain ⟨lo,hi'⟩:=fr
 simp only at this ⊢
 simp only [Bool.and_eq_false_iff,decide_eq_false_iff_not]
 by_cases h1:lo≤a.off
 ·exact .inr fun h2=>this ⟨h1,h2⟩
 ·exact .inl h1
theorem A5D {P : Program} {tt : Nat → Option TI} (T : TTok P tt) {f : Nat} {fn : Func} (hf : P.funcs[f]? = some fn) (hname : (fn.name == "runtime.NumGoroutine") = false) (hb : fn.body.isNone = true) (hn : Extern.findNext fn = none) {tS tR e : Nat} {i j : TI} (hfind : Extern.find fn = some (Extern.SlicesOverlaps.overlaps #[tS, tS] #[tR]))
  (hti:tt tS=some i) (hel:i.elem=some e) (hj:tt e=some j) {h:A3} {t:Ty} {b1 b2 o1 n1 c1 o2 n2 c2:Nat} {v1 v2 r1 r2:AV} (hb1:h[b1]?=some ⟨v1,0,.own⟩) (hb2:h[b2]?=some ⟨v2,0,.own⟩) (hne:b1≠b2)
  (e1:C7 t (.slice b1 0 [] t o1 n1 (some c1)) h=some r1) (e2:C7 t (.slice b2 0 [] t o2 n2 (some c2)) h=some r2) (h1:n1≠0) (h2:n2≠0) (ht:t.size≠0) :
  SpecQ P f [.slice b1 0 [] t o1 n1 (some c1),.slice b2 0 [] t o2 n2 (some c2)] h fun r=>∃ v,r=(.bool v,h):=by
 intro E w xs R hxs
 rw [VRc] at hxs
 obtain ⟨vx,xs1,rfl,hx1,hxs⟩:=hxs
 rw [VRc] at hxs
 obtain ⟨vy,xs2,rfl,hx2,hxs⟩:=hxs
 rw [VRc] at hxs
 subst hxs
 obtain ⟨a1,m1,te1,k1,rfl,ha1,hs1,hf1⟩:=D7g (P:=P) R hb1 e1 hx1 h1 ht
 obtain ⟨a2,m2,te2,k2,rfl,ha2,hs2,hf2⟩:=D7g (P:=P) R hb2 e2 hx2 h2 ht
 have hab:a1.block≠a2.block:=by
  rw [ha1,ha2]
  exact fun q=>hne (R.inj b1 b2 _ _ hb1 hb2 (by intro q;exact absurd q.1 (by simp)) ⟨by simp,by intro q;exact absurd q.1 (by simp)⟩ q)
 obtain ⟨v,w',hr,hh,hio⟩:=F3k (P:=P) w tS tR e (T.elem _ _ _ hti hel).1 _ (fun w=>P7 T hj w) a1 a2 n1 m1 n2 m2 hab te1 te2 k1 k2 hs1 hs2 hf1
 refine .inr ⟨.bool v,w',(.bool v,h),E,?_,⟨v,rfl⟩,by simp only [VRel],Moves.heap R hh hio⟩
 rw [run_callFunc_extern hf hname hb hn hfind]
 rw [hr]
 rfl
end Go.Vab

namespace Go.Vab
open Go
theorem D9h (o:Oper) (l:List Oper):w7 (o::l) 0=o.dst:=rfl
theorem D9i (o:Oper) (l:List Oper) (n:Nat):w7 (o::l) (n+1)=w7 l n:=rfl
theorem D8u (env loc:Env) (t:Nat) (v:AV):F6 ((t,v)::loc) env t=v:=by simp [F6,Env.has,Env.get]
theorem D74 (env loc:Env) (t d:Nat) (v:AV) (h:(t == d)=false):F6 ((d,v)::loc) env t=F6 loc env t:=by
 have h':t≠d:=by simpa using h
 simp [F6,Env.has,Env.get,h']
theorem D8v (vol:List Nat) (loc env:Env) (t:Nat) (v:AV) (h:vol.contains t=true):commit vol ((t,v)::loc) env=commit vol loc env:=by simp only [commit,h,if_true]
theorem D8w (vol:List Nat) (loc env:Env) (t:Nat) (v:AV) (h:vol.contains t=false):commit vol ((t,v)::loc) env=Env.put (commit vol loc env) t v:=by simp only [commit,h];rfl
theorem D8x (vol:List Nat) (env:Env):commit vol [] env=env:=rfl
section
variable {P:Program} {C:Ctx} {V:Operand→AV} {h:A3}
theorem F89 {f:Operand} {args:Array Operand} {ats:Array TypeId}:opW P C V h (.call { callee:=.value f,args:=args,argTypes:=ats })=fnA P (V f) (args.toList.map V) h:=by
 funext K
 simp only [opW,fnA,fnW]
 cases V f <;> rfl
theorem F9A {g:Nat} {args:List AV}:fnA P (.fn g []) args h=A0u P g args h:=by
 funext K
 simp only [fnA,fnW,A0u,List.append_nil]
theorem G0o {b:Builtin} {args:Array Operand} {ats:Array TypeId}:opW P C V h (.call { callee:=.builtin b,args:=args,argTypes:=ats })=bW C b ats (args.toList.map V) h:=rfl
theorem G0p {t:TypeId}:opW P C V h (.makeMap t none)=Evs (ifT P t (A7T h)):=rfl
theorem G0q {t:TypeId} {m k:Operand}:opW P C V h (.lookup t m k false)=Evs (pureV h (ifT P t (A2g (V m) (V k) h))):=rfl
theorem G0r {t:TypeId} {m k x:Operand}:opW P C V h (.mapUpdate t m k x)=Evs (ifT P t (A2t (V m) (V k) (V x) h)):=rfl
theorem G0s {f t:TypeId} {x:Operand}:opW P C V h (.convert f t x)=if f=t∧B54 C f=true then Evs (ifY P f (A2h (V x) h)) else Evs (E6 C false V h (.convert f t x)):=rfl
section
variable {a b c d x y z:Operand} {t u:TypeId} {ps:Array (Nat × Operand)} {n:Nat} {o o1 o2:Option Operand} {cs fs:Array Operand}
theorem w_1:opW P C V h (.move x)=Evs (some (V x,h)):=rfl
theorem w_2:opW P C V h (.assign x)=Evs (some (V x,h)):=rfl
theorem w_3:opW P C V h (.pick a b c)=Evs (pureV h (B3Z (V a) (V b) (V c))):=rfl
theorem w_4:opW P C V h (.alloc t)=Evs (E6 C false V h (.alloc t)):=rfl
theorem w_5:opW P C V h (.box t x)=Evs (E6 C false V h (.box t x)):=rfl
theorem w_6:opW P C V h (.build t ps)=Evs (E6 C false V h (.build t ps)):=rfl
theorem w_7:opW P C V h (.buildSlice t n ps)=Evs (E6 C false V h (.buildSlice t n ps)):=rfl
theorem w_8:opW P C V h (.load t x)=Evs (E6 C false V h (.load t x)):=rfl
theorem w_9:opW P C V h (.store t x y)=Evs (E6 C false V h (.store t x y)):=rfl
theorem G0t:opW P C V h (.nilCheck x)=Evs (pureV h (A27 (V x))):=rfl
theorem G0u {q:BinOp}:opW P C V h (.binOp q t x y u)=Evs (E6 C false V h (.binOp q t x y u)):=rfl
theorem G0v {q:UnOp}:opW P C V h (.unOp q t x)=Evs (pureV h (mUn q (V x))):=rfl
theorem G0w:opW P C V h (.sliceToArrayPointer t x)=Evs (E6 C false V h (.sliceToArrayPointer t x)):=rfl
theorem G0x {f:Fn}:opW P C V h (.makeFunc f fs cs)=Evs (E6 C false V h (.makeFunc f fs cs)):=rfl
theorem G0y:opW P C V h (.makeSlice t x y)=Evs (E6 C false V h (.makeSlice t x y)):=rfl
theorem G0z:opW P C V h (.slice t x o o1 o2)=Evs (E6 C false V h (.slice t x o o1 o2)):=rfl
theorem G00:opW P C V h (.fieldAddr t x n)=Evs (E6 C false V h (.fieldAddr t x n)):=rfl
theorem G01:opW P C V h (.field t x n)=Evs (E6 C false V h (.field t x n)):=rfl
theorem G02:opW P C V h (.indexAddr t x y)=Evs (E6 C false V h (.indexAddr t x y)):=rfl
theorem G03:opW P C V h (.index t x y)=Evs (E6 C false V h (.index t x y)):=rfl
theorem G04:opW P C V h (.extract x n)=Evs (pureV h (m9 (V x) n)):=rfl
end
end
def w_s:=aI @F89 (aI @F9A (aI @G0o (aI @G0p (aI @G0q (aI @G0r (aI @G0s (aI @w_1 (aI @w_2 (aI @w_3 (aI @w_4 (aI @w_5 (aI @w_6 (aI @w_7 (aI @w_8 (aI @w_9 (aI @G0t (aI @G0u (aI @G0v (aI @G0w (aI @G0x (aI @G0y (aI @G0z (aI @G00 (aI @G01 (aI @G02 (aI @G03 @G04))))))))))))))))))))))))))
theorem E2W {t:Ty} {bytes:Nat} {zero s x:AV} {h:A3}:R4 t bytes zero s x h=F2R t bytes zero s x h:=rfl
theorem D9j (y:AV) (want:Bool) (h:A3) (a:AV) (K:AV × A3→Prop):gW y want (Evs (some (a,h))) h K=Evs (gv y want (some a)) fun v=>K (v,h):=by
 rw [←A1y];rfl
theorem E9o {α:Type} (a:α) (l:List α):(⟨a::l⟩:Array α)[0]?=some a:=rfl
theorem E9p {α:Type} (a b:α) (l:List α):(⟨a::b::l⟩:Array α)[1]?=some b:=rfl
theorem E9q (n:Nat):AV.int .i64 (no_index (@OfNat.ofNat Int n _))=nat (@OfNat.ofNat Nat n _):=rfl
theorem F2U (n:Nat) (h:n < 256):AV.int .u8 (no_index (@OfNat.ofNat Int n _))=u8 (BitVec.ofNat 8 (@OfNat.ofNat Nat n _)):=by
 show AV.int .u8 (n:Int)=.int .u8 ((BitVec.ofNat 8 n).toNat:Int)
 rw [BitVec.toNat_ofNat,Nat.mod_eq_of_lt h]
theorem E9r (n:Nat) (h:n < 4294967296):AV.int .u32 (no_index (@OfNat.ofNat Int n _))=u32 (BitVec.ofNat 32 (@OfNat.ofNat Nat n _)):=by
 show AV.int .u32 (n:Int)=.int .u32 ((BitVec.ofNat 32 n).toNat:Int)
 rw [BitVec.toNat_ofNat,Nat.mod_eq_of_lt h]
theorem E9s (n:Nat) (h:n < 18446744073709551616):AV.int .u64 (no_index (@OfNat.ofNat Int n _))=u64 (BitVec.ofNat 64 (@OfNat.ofNat Nat n _)):=by
 show AV.int .u64 (n:Int)=.int .u64 ((BitVec.ofNat 64 n).toNat:Int)
 rw [BitVec.toNat_ofNat,Nat.mod_eq_of_lt h]
structure Hx (P:Program) (C:Ctx) (l:List Code) (A:Prop):Prop where
 get:A
section
variable {P:Program} {C:Ctx} {n a b:Code}
theorem zRg {id : Nat} {ops : List Oper} {R : (Ex × St → Prop) → Env → A3 → Prop} (hn : n = .region id ⟨ops⟩ false) (x : ∀ Q env h, Y7 P C ops (fun e g => Q (.nrm, ⟨e, g⟩)) ops [] env h = R Q env h) :
  Hx P C [n] (∀ Q env h,wC P C n Q ⟨env,h⟩=R Q env h):=⟨fun Q env h=>by subst hn;exact x Q env h⟩
theorem zSR {id : Nat} {ops : List Oper} {R : (Ex × St → Prop) → Env → A3 → Prop} (hn : n = .seq (.region id ⟨ops⟩ false) a) (x : ∀ Q env h, Y7 P C ops (fun e g => wC P C a Q ⟨e, g⟩) ops [] env h = R Q env h) :
  Hx P C [a,n] (∀ Q env h,wC P C n Q ⟨env,h⟩=R Q env h):=⟨fun Q env h=>by subst hn;exact x Q env h⟩
theorem zS (hn:n=.seq a b):Hx P C [a,b,n] (∀ Q s,wC P C n Q s=wC P C a (sqW (wC P C b) Q) s):=⟨fun Q s=>by subst hn;rfl⟩
theorem zC {t:Nat} (hn:n=.cond (.tmp t) a b):Hx P C [a,b,n] (∀ Q (s:St),wC P C n Q s=E9 (s.env.get t) (wL P C a Q s) (wL P C b Q s)):=⟨fun Q s=>by subst hn;rfl⟩
theorem zB {id:Nat} (hn:n=.block id a):Hx P C [a,n] (∀ Q s,wC P C n Q s=wC P C a (fun r=>Q (w8 id r)) s):=⟨fun Q s=>by subst hn;rfl⟩
theorem zL (hn:n=.loop a):Hx P C [a,n] (∀ Q s,wC P C n Q s=A2i (wC P C a) Q s):=⟨fun Q s=>by subst hn;rfl⟩
theorem zX {id:Nat} (hn:n=.exit id):Hx P C [n] (∀ Q s,wC P C n Q s=Q (.exit id,s)):=⟨fun Q s=>by subst hn;rfl⟩
theorem zE (hn:n=.ret):Hx P C [n] (∀ Q s,wC P C n Q s=Q (.ret,s)):=⟨fun Q s=>by subst hn;rfl⟩
theorem zK (hn:n=.skip):Hx P C [n] (∀ Q s,wC P C n Q s=Q (.nrm,s)):=⟨fun Q s=>by subst hn;rfl⟩
end
structure Zl (P:Program) (C:Ctx) (l:List (List Code)) (A:Prop):Prop where
 get:A
theorem Zl.one {P:Program} {C:Ctx} {l:List Code} {A:Prop} (x:Hx P C l A):Zl P C [l] A:=⟨x.get⟩
theorem Zl.cons {P:Program} {C:Ctx} {l m:List Code} {r:List (List Code)} {A B:Prop} (x:Hx P C l A) (y:Zl P C (m::r) B):Zl P C (l::m::r) (A∧B):=⟨⟨x.get,y.get⟩⟩
theorem zT' {tt:Nat→Option TI} (t:Nat) {i:TI} (h:tt t=some i:=by rfl):tt t=some i:=h
end Go.Vab

namespace Go.Vab
open Go
inductive Pl where
 | f
 | o (e:Nat) (nl sl:List Nat) (t:Pl)
 | b (e:Nat) (nl sl:List Nat) (t r:Pl)
section
variable (P:Program) (C:Ctx) (ops:List Oper) (env:Env)
def A1Q (h:A3) (k:Env→Prop):List Nat→Env→Prop
 | [],loc=>k loc
 | p::ps,loc=>D9 (O2 P C ops (opI ops p) (F6 loc env) h) h fun v=>j7 C (opI ops p)∧A1Q h k ps (Q4 loc (opI ops p).dst v)
def A2m (h:A3) (loc:Env) (Z:Prop):List Nat→Prop
 | []=>Z
 | p::ps=>match (opI ops p).dst with
  | some d=>E8 (O2 P C ops (opI ops p) (F6 loc env) h fun q=>q=(F6 loc env d,h)) (A2m h loc Z ps)
  | none=>False
def A0x (k:Env→A3→Prop):Pl→Env→A3→Prop
 | .f,loc,h=>k (commit C.vol loc env) h
 | .o e nl sl t, loc, h => O2 P C ops (opI ops e) (F6 loc env) h fun r => j7 C (opI ops e) ∧
   A2m P C ops env r.2 (Q4 loc (opI ops e).dst r.1) (A1Q P C ops env r.2 (fun loc'=>A0x k t loc' r.2) nl (Q4 loc (opI ops e).dst r.1)) sl
 | .b e nl sl t r, loc, h => G5 (O2 P C ops (opI ops e) (F6 loc env) h fun r => j7 C (opI ops e) ∧
   A2m P C ops env r.2 (Q4 loc (opI ops e).dst r.1) (A1Q P C ops env r.2 (fun loc'=>A0x k t loc' r.2) nl (Q4 loc (opI ops e).dst r.1)) sl) (A0x k r loc h)
def T8 (eff bs:List Nat):Pl→Nat→List Nat→List Nat→Bool
 | .f,_,_,l=>l.isEmpty
 | .o e nl sl t,m+1,S,[a]=>decide (a=e)&&decide (A0C ops.length eff bs S e=nl)&&decide (A2j ops ops.length eff bs S e=sl)&&T8 eff bs t m (e::S) (S4 eff bs (e::S))
 | .b e nl sl t r,m+1,S,a::c::l=>decide (a=e)&&decide (A0C ops.length eff bs S e=nl)&&decide (A2j ops ops.length eff bs S e=sl)&&T8 eff bs t m (e::S) (S4 eff bs (e::S))&&T8 eff bs r (m+1) S (c::l)
 | _,_,_,_ => false
end
section
variable {P:Program} {C:Ctx} {ops:List Oper} {env:Env}
theorem A3L {h:A3} {k k':Env→Prop} (hk:∀ loc,k loc→k' loc):∀ (l:List Nat) (loc:Env),A1Q P C ops env h k l loc→u9 P C ops env h k' l loc
 | [],loc,H=>hk loc H
 | p::ps,loc,H=>by
  obtain ⟨v,h1,h2,h3⟩:=H
  exact ⟨v,h1,h2,A3L hk ps _ h3⟩
theorem B7W {h:A3} {loc:Env} {Z:Prop}:∀ (l:List Nat),A2m P C ops env h loc Z l→A1U P C ops env h loc l∧Z
 | [],H=>⟨trivial,H⟩
 | p::ps,H=>by
  unfold A2m at H
  cases hd:(opI ops p).dst with
  | none=>rw [hd] at H;exact H.elim
  | some d =>
   rw [hd] at H
   obtain ⟨h1,h2⟩:=H
   obtain ⟨g1,g2⟩:=B7W ps h2
   exact ⟨⟨⟨F6 loc env d,h1,fun d' hd'=>by rw [hd] at hd';cases hd';rfl⟩,g1⟩,g2⟩
theorem plan_ok {eff bs : List Nat} {k : Env → A3 → Prop} : ∀ (pl : Pl) (m : Nat) (S l : List Nat) (loc : Env) (h : A3), T8 ops eff bs pl m S l = true → A0x P C ops env k pl loc h →
  (l=[]∧k (commit C.vol loc env) h)∨∃ m',m=m'+1∧l≠[]∧A00 (A4T P C ops env eff bs (S5 P C ops env eff bs k m') S loc h) l:=by
 have tree : ∀ (pl : Pl) (m : Nat) (S : List Nat) (loc : Env) (h : A3),
   ((S4 eff bs S=[]∧k (commit C.vol loc env) h)∨∃ m',m=m'+1∧S4 eff bs S≠[]∧A00 (A4T P C ops env eff bs (S5 P C ops env eff bs k m') S loc h) (S4 eff bs S))→S5 P C ops env eff bs k m S loc h:=by
  rintro pl m S loc h (⟨h1,h2⟩|⟨m',rfl,h1,h2⟩)
  ·cases m with
   | zero=>exact ⟨h1,h2⟩
   | succ m=>simp only [S5,h1];exact h2
  ·unfold S5
   cases hn:S4 eff bs S with
   | nil=>exact absurd hn h1
   | cons a l=>rw [hn] at h2;exact h2
 intro pl
 induction pl with
 | f=>intro m S l loc h hb H;exact .inl ⟨by simpa [T8] using hb,H⟩
 | o e nl sl t ih =>
  intro m S l loc h hb H
  cases m with
  | zero=>simp [T8] at hb
  | succ m =>
   match l,hb with
   | [],hb=>simp [T8] at hb
   | [a],hb =>
    simp only [T8,Bool.and_eq_true,decide_eq_true_eq] at hb
    obtain ⟨⟨⟨h1,h2⟩,h3⟩,h4⟩:=hb
    subst h1
    refine .inr ⟨m,rfl,by simp,?_⟩
    show A4T P C ops env eff bs (S5 P C ops env eff bs k m) S loc h a
    refine A1o _ _ (fun r hr=>?_) H
    obtain ⟨g1,g2⟩:=hr
    obtain ⟨g3,g4⟩:=B7W _ g2
    rw [h2,h3]
    exact ⟨g1,g3,A3L (fun loc' hl=>tree t _ _ _ _ (ih _ _ _ _ _ h4 hl)) _ _ g4⟩
   | _ :: _ :: _,hb=>simp [T8] at hb
 | b e nl sl t r ih ihr =>
  intro m S l loc h hb H
  cases m with
  | zero=>simp [T8] at hb
  | succ m =>
   match l,hb with
   | [],hb=>simp [T8] at hb
   | [a],hb=>simp [T8] at hb
   | a::c::l,hb =>
    simp only [T8,Bool.and_eq_true,decide_eq_true_eq] at hb
    obtain ⟨⟨⟨⟨h1,h2⟩,h3⟩,h4⟩,h5⟩:=hb
    subst h1
    obtain ⟨H1,H2⟩:=H
    refine .inr ⟨m,rfl,by simp,?_⟩
    refine ⟨?_,?_⟩
    ·show A4T P C ops env eff bs (S5 P C ops env eff bs k m) S loc h a
     refine A1o _ _ (fun r hr=>?_) H1
     obtain ⟨g1,g2⟩:=hr
     obtain ⟨g3,g4⟩:=B7W _ g2
     rw [h2,h3]
     exact ⟨g1,g3,A3L (fun loc' hl=>tree t _ _ _ _ (ih _ _ _ _ _ h4 hl)) _ _ g4⟩
    ·rcases ihr _ _ _ _ _ h5 H2 with ⟨q,_⟩|⟨m',q,_,q2⟩
     ·cases q
     ·cases q;exact q2
theorem D75 {eff bs:List Nat} {k:Env→A3→Prop} {pl:Pl} {m:Nat} {S:List Nat} {loc:Env} {h:A3} (hb:T8 ops eff bs pl m S (S4 eff bs S)=true) (H:A0x P C ops env k pl loc h):S5 P C ops env eff bs k m S loc h:=by
 rcases plan_ok pl m S _ loc h hb H with ⟨h1,h2⟩|⟨m',rfl,h1,h2⟩
 ·cases m with
  | zero=>exact ⟨h1,h2⟩
  | succ m=>simp only [S5,h1];exact h2
 ·unfold S5
  cases hn:S4 eff bs S with
  | nil=>exact absurd hn h1
  | cons a l=>rw [hn] at h2;exact h2
end
structure Hw (P:Program) (C:Ctx) (l:List Code) (eff bs en:List Nat) (pl:Pl) (A:Prop):Prop where
 get:A
section
variable {P:Program} {C:Ctx} {n a:Code} {id:Nat} {ops:List Oper} {eff bs en:List Nat} {pl:Pl} {R:(Ex × St→Prop)→Env→A3→Prop}
theorem zSD (hn : n = .seq (.region id ⟨ops⟩ true) a) (hok : A7U ops eff bs = true) (hen : O0 ops.length eff bs [] = en) (hpl : T8 ops eff bs pl eff.length [] (S4 eff bs []) = true)
  (x:∀ Q env h,A1Q P C ops env h (fun loc=>A0x P C ops env (fun e g=>wC P C a Q ⟨e,g⟩) pl loc h) en []=R Q env h):Hw P C [a,n] eff bs en pl (∀ Q env h,R Q env h→wC P C n Q ⟨env,h⟩):=⟨fun Q env h H=>by
 subst hn;subst hen
 exact D7x (D7H hok) (A3L (fun loc hl=>D75 hpl hl) _ _ ((x Q env h).symm ▸ H))⟩
theorem zRD (hn : n = .region id ⟨ops⟩ true) (hok : A7U ops eff bs = true) (hen : O0 ops.length eff bs [] = en) (hpl : T8 ops eff bs pl eff.length [] (S4 eff bs []) = true)
  (x:∀ Q env h,A1Q P C ops env h (fun loc=>A0x P C ops env (fun e g=>Q (.nrm,⟨e,g⟩)) pl loc h) en []=R Q env h):Hw P C [n] eff bs en pl (∀ Q env h,R Q env h→wC P C n Q ⟨env,h⟩):=⟨fun Q env h H=>by
 subst hn;subst hen
 exact D7x (D7H hok) (A3L (fun loc hl=>D75 hpl hl) _ _ ((x Q env h).symm ▸ H))⟩
end
theorem F9r (o:Oper) (l:List Oper):opI (o::l) 0=o:=rfl
theorem F9s (o:Oper) (l:List Oper) (n:Nat):opI (o::l) (n+1)=opI l n:=rfl
theorem F8H (C:Ctx) (o:Oper):j7 C o=match o.dst with|some d=>d < C.ntmps|none=>True:=rfl
theorem F9B (loc:Env) (d:Nat) (v:AV):Q4 loc (some d) v=(d,v)::loc:=rfl
theorem F9C (loc:Env) (v:AV):Q4 loc none v=loc:=rfl
theorem F9t (X:Option AV) (h:A3) (v:AV):(Evs X fun u=>(u,h)=(v,h))=(X=some v):=by
 cases X with
 | none=>exact propext (Iff.intro (fun ⟨_,h,_⟩=>by cases h) (fun h=>by cases h))
 | some a=>rw [d9];exact propext (Iff.intro (fun h=>by cases h;rfl) (fun h=>by cases h;rfl))
theorem D0O (X:Option AV) (h:A3) (Y:AV→Prop):D9 (Evs (pureV h X)) h Y=Evs X Y:=by
 unfold D9
 cases X with
 | none=>exact propext (Iff.intro (fun ⟨_,⟨_,h,_⟩,_⟩=>by cases h) (fun ⟨_,h,_⟩=>by cases h))
 | some a=>exact propext (Iff.intro (fun ⟨v,⟨r,h1,h2⟩,h3⟩=>by cases h1;cases h2;exact ⟨_,rfl,h3⟩) (fun ⟨v,h1,h2⟩=>by cases h1;exact ⟨_,⟨_,rfl,rfl⟩,h2⟩))
theorem E9t (y:AV) (want:Bool) (X:Option AV) (h:A3) (Y:AV→Prop):D9 (gW y want (Evs (pureV h X)) h) h Y=Evs (gv y want X) Y:=by
 rw [←D0O (gv y want X) h Y]
 unfold D9
 congr 1;funext v
 rw [A1y,A4k]
theorem F9u (a:AV) (h:A3) (Y:AV→Prop):D9 (Evs (some (a,h))) h Y=Y a:=by
 rw [show (some (a,h):Option (AV × A3))=pureV h (some a) from rfl,D0O,d9]
theorem F9D (y:AV) (want:Bool) (a:AV) (h:A3) (Y:AV→Prop):D9 (gW y want (Evs (some (a,h))) h) h Y=Evs (gv y want (some a)) Y:=by
 rw [show (some (a,h):Option (AV × A3))=pureV h (some a) from rfl,E9t]
theorem B6j {α:Type} (x:α) (f:α→(AV × A3→Prop)→Prop):optP (some x) f=f x:=rfl
theorem B6k (C:Ctx) (t:Nat) (f:TI→(AV × A3→Prop)→Prop):withTyP C t f=optP (C.tt t) f:=by
 funext K
 unfold withTyP optP
 cases C.tt t <;> rfl
theorem D0P (a b:(AV × A3→Prop)→Prop):tyP .cell a b=a:=rfl
theorem D0Q (k:IntKind) (a b:(AV × A3→Prop)→Prop):tyP (.int k) a b=b:=rfl
def z_s:=aI F9r (aI F9s (aI F8H (aI F9B (aI F9C (aI F9t (aI D0O (aI E9t (aI F9u (aI F9D (aI @B6j (aI B6k (aI D0P D0Q))))))))))))
end Go.Vab

namespace Go.Vab
open Go Go.Proofs
def TTs:=aI (zT' (tt:=TT) 3) (aI (zT' (tt:=TT) 4) (aI (zT' (tt:=TT) 5) (aI (zT' (tt:=TT) 9) (aI (zT' (tt:=TT) 22) (aI (zT' (tt:=TT) 24) (aI (zT' (tt:=TT) 26) (aI (zT' (tt:=TT) 27) (aI (zT' (tt:=TT) 28) (aI (zT' (tt:=TT) 29) (aI (zT' (tt:=TT) 31) (aI (zT' (tt:=TT) 32) (aI (zT' (tt:=TT) 33) (aI (zT' (tt:=TT) 34) (aI (zT' (tt:=TT) 35) (aI (zT' (tt:=TT) 37) (aI (zT' (tt:=TT) 38) (aI (zT' (tt:=TT) 40) (aI (zT' (tt:=TT) 42) (aI (zT' (tt:=TT) 47) (aI (zT' (tt:=TT) 57) (aI (zT' (tt:=TT) 61) (aI (zT' (tt:=TT) 63) (aI (zT' (tt:=TT) 65) (aI (zT' (tt:=TT) 69) (aI (zT' (tt:=TT) 73) (aI (zT' (tt:=TT) 77) (aI (zT' (tt:=TT) 79) (aI (zT' (tt:=TT) 82) (aI (zT' (tt:=TT) 84) (aI (zT' (tt:=TT) 86) (aI (zT' (tt:=TT) 106) (aI (zT' (tt:=TT) 112) (aI (zT' (tt:=TT) 113) (aI (zT' (tt:=TT) 115) (aI (zT' (tt:=TT) 117) (aI (zT' (tt:=TT) 118) (aI (zT' (tt:=TT) 120) (aI (zT' (tt:=TT) 122) (aI (zT' (tt:=TT) 123) (aI (zT' (tt:=TT) 125) (aI (zT' (tt:=TT) 154) (aI (zT' (tt:=TT) 155) ((zT' (tt:=TT) 157))))))))))))))))))))))))))))))))))))))))))))
theorem bA {T:Ty} {ts:List Ty} (hT:T=.struct ts:=by rfl) (b:Nat) (z:AV) (e:Option TypeId) (k:Option IntKind) (u:Bool) (p:Option TypeId) (q:Bool) (op:BinOp) (x y:AV):A3z ⟨T,b,z,e,k,u,p,q⟩ op x y=mEq T op x y:=by subst hT;rfl
def D7h:=bA (T:=N6)
def D7i:=bA (T:=F7)
def D76:=bA (T:=A6)
def D7j:=bA (T:=C3)
def D7k:=bA (T:=D5)
def D8y:=bA (T:=j8)
def D8z:=bA (T:=A7)
def D77:=bA (T:=G6)
def D7l:=bA (T:=B1)
def D9k:=bA (T:=B5)
def D9l:=bA (T:=B4)
def D80:=bA (T:=I5)
def D7J:=bA (T:=K9)
def D68:=bA (T:=K8)
def D7Q:=bA (T:=L0)
def D7R:=bA (T:=M7)
theorem B3 (C : Ctx) {n : Nat} {vl : List Nat} {A : Prop} (l : List (List Code)) (hC : C = ⟨fun _ _ _ => none, TT, n, vl⟩ := by rfl)
  (f:C.tt=TT→C.ntmps=n→C.vol=vl→Zl Tryz.prog C l A:=by
   intro hT hN hV
   repeat' (first|exact zS rfl|exact zC rfl|exact zB rfl|exact zL rfl|exact zX rfl|exact zE rfl|exact zK rfl|((first|(apply zSR;exact rfl)|(apply zRg;exact rfl));intro Q env h;(conv=>lhs;simp (config:={decide:=true}) only [Y7,O2,w_s,B54,bW,B6j,B6k,D0P,D0Q,E2W,E6,A0F,A3z,withTy,↓D7h,↓D7i,↓D76,↓D7j,↓D7k,↓D8y,↓D8z,↓D77,↓D7l,↓D9k,↓D9l,↓D80,↓D7J,↓D68,↓D7Q,↓D7R,U0,A5S,A4k,A1y,D9j,d9,E9o,E9p,E9q,F2U,E9r,E9s,true_and,hT,hN,hV,A1x,D8u,D74,D8v,D8w,D8x,TTs,D9h,D9i,List.map_cons,List.map_nil,List.append_eq,List.nil_append,List.cons_append,List.append_nil,Option.map_some,Option.map_none,Bool.false_eq_true,if_true,if_false,and_self,and_true,Ty.isAgg]))|apply Zl.cons|apply Zl.one)):A:=(f (hC ▸ rfl) (hC ▸ rfl) (hC ▸ rfl)).get
theorem zDr (C : Ctx) {n : Nat} {vl : List Nat} {A : Prop} (l : List Code) (eff bs en : List Nat) (pl : Pl) (hC : C = ⟨fun _ _ _ => none, TT, n, vl⟩ := by rfl)
  (f:C.tt=TT→C.ntmps=n→C.vol=vl→Hw Tryz.prog C l eff bs en pl A:=by
   intro hT hN hV
   (first|(apply zSD;exact rfl)|(apply zRD;exact rfl))
   ·kernel_rfl
   ·kernel_rfl
   ·kernel_rfl
   ·intro Q env h
    conv=>lhs;simp (config:={decide:=true}) only [A1Q,A0x,A2m,z_s,O2,w_s,B54,bW,B6j,B6k,D0P,D0Q,E2W,E6,A0F,A3z,withTy,↓D7h,↓D7i,↓D76,↓D7j,↓D7k,↓D8y,↓D8z,↓D77,↓D7l,↓D9k,↓D9l,↓D80,↓D7J,↓D68,↓D7Q,↓D7R,U0,A5S,A4k,A1y,D9j,d9,E9o,E9p,E9q,F2U,E9r,E9s,true_and,hT,hN,hV,A1x,D8u,D74,D8v,D8w,D8x,TTs,D9h,D9i,List.map_cons,List.map_nil,List.append_eq,List.nil_append,List.cons_append,List.append_nil,Option.map_some,Option.map_none,Bool.false_eq_true,if_true,if_false,and_self,and_true,Ty.isAgg]):A:=(f (hC ▸ rfl) (hC ▸ rfl) (hC ▸ rfl)).get
theorem zQ0 (C : Ctx) (k : Nat) (fn : Func) (root : Code) (R : St → Option (List AV)) (hf : Tryz.prog.funcs[k]? = some fn := by kernel_rfl) (h1 : (fn.name == "runtime.NumGoroutine") = false := by kernel_rfl) (hb : fn.body = some root := by kernel_rfl) (hn : fn.ntmps = C.ntmps := by kernel_rfl) (hT : C.tt = TT := by rfl) (hv : (C.vol.all fun t => decide (0 ≤ t)) = true := by kernel_rfl) (hl : decide (0 ≤ C.ntmps) = true := by kernel_rfl) (hr : (fun s => Y4 C s fn.results.toList) = R := by kernel_rfl) :
  ∀ ⦃h:A3⦄ ⦃K:AV × A3→Prop⦄,(∀ env:Env,wC Tryz.prog C root (K4 R K) ⟨env,h⟩)→SpecQ Tryz.prog k [] h K:=fun h K H =>
 A1g (C:=C) (hT ▸ Z8) A1z hf h1 hb hn hv (of_decide_eq_true hl) (by rw [hr];exact H _)
theorem zQ1 (C : Ctx) (k : Nat) (fn : Func) (root : Code) (R : St → Option (List AV)) (hf : Tryz.prog.funcs[k]? = some fn := by kernel_rfl) (h1 : (fn.name == "runtime.NumGoroutine") = false := by kernel_rfl) (hb : fn.body = some root := by kernel_rfl) (hn : fn.ntmps = C.ntmps := by kernel_rfl) (hT : C.tt = TT := by rfl) (hv : (C.vol.all fun t => decide (1 ≤ t)) = true := by kernel_rfl) (hl : decide (1 ≤ C.ntmps) = true := by kernel_rfl) (hr : (fun s => Y4 C s fn.results.toList) = R := by kernel_rfl) (e0 : ∀ a0 : AV, (Q5 C [a0]).get 0 = a0 := by intros; kernel_rfl) :
  ∀ ⦃a0:AV⦄ ⦃h:A3⦄ ⦃K:AV × A3→Prop⦄,(∀ env:Env,env.get 0=a0→wC Tryz.prog C root (K4 R K) ⟨env,h⟩)→SpecQ Tryz.prog k [a0] h K:=fun a0 h K H =>
 A1g (C:=C) (hT ▸ Z8) A1z hf h1 hb hn hv (of_decide_eq_true hl) (by rw [hr];exact H _ (e0 a0))
theorem zQ2 (C : Ctx) (k : Nat) (fn : Func) (root : Code) (R : St → Option (List AV)) (hf : Tryz.prog.funcs[k]? = some fn := by kernel_rfl) (h1 : (fn.name == "runtime.NumGoroutine") = false := by kernel_rfl) (hb : fn.body = some root := by kernel_rfl) (hn : fn.ntmps = C.ntmps := by kernel_rfl) (hT : C.tt = TT := by rfl) (hv : (C.vol.all fun t => decide (2 ≤ t)) = true := by kernel_rfl) (hl : decide (2 ≤ C.ntmps) = true := by kernel_rfl) (hr : (fun s => Y4 C s fn.results.toList) = R := by kernel_rfl) (e0 : ∀ a0 a1 : AV, (Q5 C [a0, a1]).get 0 = a0 := by intros; kernel_rfl) (e1 : ∀ a0 a1 : AV, (Q5 C [a0, a1]).get 1 = a1 := by intros; kernel_rfl) :
  ∀ ⦃a0 a1:AV⦄ ⦃h:A3⦄ ⦃K:AV × A3→Prop⦄,(∀ env:Env,env.get 0=a0→env.get 1=a1→wC Tryz.prog C root (K4 R K) ⟨env,h⟩)→SpecQ Tryz.prog k [a0,a1] h K:=fun a0 a1 h K H =>
 A1g (C:=C) (hT ▸ Z8) A1z hf h1 hb hn hv (of_decide_eq_true hl) (by rw [hr];exact H _ (e0 a0 a1) (e1 a0 a1))
theorem zQ3 (C : Ctx) (k : Nat) (fn : Func) (root : Code) (R : St → Option (List AV)) (hf : Tryz.prog.funcs[k]? = some fn := by kernel_rfl) (h1 : (fn.name == "runtime.NumGoroutine") = false := by kernel_rfl) (hb : fn.body = some root := by kernel_rfl) (hn : fn.ntmps = C.ntmps := by kernel_rfl) (hT : C.tt = TT := by rfl) (hv : (C.vol.all fun t => decide (3 ≤ t)) = true := by kernel_rfl) (hl : decide (3 ≤ C.ntmps) = true := by kernel_rfl) (hr : (fun s => Y4 C s fn.results.toList) = R := by kernel_rfl) (e0 : ∀ a0 a1 a2 : AV, (Q5 C [a0, a1, a2]).get 0 = a0 := by intros; kernel_rfl) (e1 : ∀ a0 a1 a2 : AV, (Q5 C [a0, a1, a2]).get 1 = a1 := by intros; kernel_rfl) (e2 : ∀ a0 a1 a2 : AV, (Q5 C [a0, a1, a2]).get 2 = a2 := by intros; kernel_rfl) :
  ∀ ⦃a0 a1 a2:AV⦄ ⦃h:A3⦄ ⦃K:AV × A3→Prop⦄,(∀ env:Env,env.get 0=a0→env.get 1=a1→env.get 2=a2→wC Tryz.prog C root (K4 R K) ⟨env,h⟩)→SpecQ Tryz.prog k [a0,a1,a2] h K:=fun a0 a1 a2 h K H =>
 A1g (C:=C) (hT ▸ Z8) A1z hf h1 hb hn hv (of_decide_eq_true hl) (by rw [hr];exact H _ (e0 a0 a1 a2) (e1 a0 a1 a2) (e2 a0 a1 a2))
theorem zQ4 (C : Ctx) (k : Nat) (fn : Func) (root : Code) (R : St → Option (List AV)) (hf : Tryz.prog.funcs[k]? = some fn := by kernel_rfl) (h1 : (fn.name == "runtime.NumGoroutine") = false := by kernel_rfl) (hb : fn.body = some root := by kernel_rfl) (hn : fn.ntmps = C.ntmps := by kernel_rfl) (hT : C.tt = TT := by rfl) (hv : (C.vol.all fun t => decide (4 ≤ t)) = true := by kernel_rfl) (hl : decide (4 ≤ C.ntmps) = true := by kernel_rfl) (hr : (fun s => Y4 C s fn.results.toList) = R := by kernel_rfl) (e0 : ∀ a0 a1 a2 a3 : AV, (Q5 C [a0, a1, a2, a3]).get 0 = a0 := by intros; kernel_rfl) (e1 : ∀ a0 a1 a2 a3 : AV, (Q5 C [a0, a1, a2, a3]).get 1 = a1 := by intros; kernel_rfl) (e2 : ∀ a0 a1 a2 a3 : AV, (Q5 C [a0, a1, a2, a3]).get 2 = a2 := by intros; kernel_rfl) (e3 : ∀ a0 a1 a2 a3 : AV, (Q5 C [a0, a1, a2, a3]).get 3 = a3 := by intros; kernel_rfl) :
  ∀ ⦃a0 a1 a2 a3:AV⦄ ⦃h:A3⦄ ⦃K:AV × A3→Prop⦄,(∀ env:Env,env.get 0=a0→env.get 1=a1→env.get 2=a2→env.get 3=a3→wC Tryz.prog C root (K4 R K) ⟨env,h⟩)→SpecQ Tryz.prog k [a0,a1,a2,a3] h K:=fun a0 a1 a2 a3 h K H =>
 A1g (C:=C) (hT ▸ Z8) A1z hf h1 hb hn hv (of_decide_eq_true hl) (by rw [hr];exact H _ (e0 a0 a1 a2 a3) (e1 a0 a1 a2 a3) (e2 a0 a1 a2 a3) (e3 a0 a1 a2 a3))
theorem zQ5 (C : Ctx) (k : Nat) (fn : Func) (root : Code) (R : St → Option (List AV)) (hf : Tryz.prog.funcs[k]? = some fn := by kernel_rfl) (h1 : (fn.name == "runtime.NumGoroutine") = false := by kernel_rfl) (hb : fn.body = some root := by kernel_rfl) (hn : fn.ntmps = C.ntmps := by kernel_rfl) (hT : C.tt = TT := by rfl) (hv : (C.vol.all fun t => decide (5 ≤ t)) = true := by kernel_rfl) (hl : decide (5 ≤ C.ntmps) = true := by kernel_rfl) (hr : (fun s => Y4 C s fn.results.toList) = R := by kernel_rfl) (e0 : ∀ a0 a1 a2 a3 a4 : AV, (Q5 C [a0, a1, a2, a3, a4]).get 0 = a0 := by intros; kernel_rfl) (e1 : ∀ a0 a1 a2 a3 a4 : AV, (Q5 C [a0, a1, a2, a3, a4]).get 1 = a1 := by intros; kernel_rfl) (e2 : ∀ a0 a1 a2 a3 a4 : AV, (Q5 C [a0, a1, a2, a3, a4]).get 2 = a2 := by intros; kernel_rfl) (e3 : ∀ a0 a1 a2 a3 a4 : AV, (Q5 C [a0, a1, a2, a3, a4]).get 3 = a3 := by intros; kernel_rfl) (e4 : ∀ a0 a1 a2 a3 a4 : AV, (Q5 C [a0, a1, a2, a3, a4]).get 4 = a4 := by intros; kernel_rfl) :
  ∀ ⦃a0 a1 a2 a3 a4:AV⦄ ⦃h:A3⦄ ⦃K:AV × A3→Prop⦄,(∀ env:Env,env.get 0=a0→env.get 1=a1→env.get 2=a2→env.get 3=a3→env.get 4=a4→wC Tryz.prog C root (K4 R K) ⟨env,h⟩)→SpecQ Tryz.prog k [a0,a1,a2,a3,a4] h K:=fun a0 a1 a2 a3 a4 h K H =>
 A1g (C:=C) (hT ▸ Z8) A1z hf h1 hb hn hv (of_decide_eq_true hl) (by rw [hr];exact H _ (e0 a0 a1 a2 a3 a4) (e1 a0 a1 a2 a3 a4) (e2 a0 a1 a2 a3 a4) (e3 a0 a1 a2 a3 a4) (e4 a0 a1 a2 a3 a4))
end Go.Vab

namespace Go.Vab
open Go Go.Proofs
noncomputable section
def D6F:Ctx:=⟨fun _ _ _ => none,TT,10,[5,6,7,8,9]⟩
def D0R:=B8 Tryz.f86
def D0S:=cR D0R
def E9u:=cR D0S
def q86:=zQ2 D6F 86 Tryz.f86 D0R fun s=>(bnd (some (s.env.get 4)) fun v=>bnd (some []) fun vs=>some (v::vs))
def F8I:=zDr D6F [E9u,D0S] [] [0,1,0,4,15,31] [0,1,2,3,4,5] .f
def G05:=B3 D6F [[E9u],[D0S,D0R]]
end
end Go.Vab

namespace Go.Vab
open Go Go.Proofs
noncomputable section
def F2V:Ctx:=⟨fun _ _ _ => none,TT,9,[3,4,5,6,7,8]⟩
def D0T:=B8 Tryz.f39
def D0U:=cR D0T
def E9v:=cR D0U
def q39:=zQ1 F2V 39 Tryz.f39 D0T fun s=>(bnd (some (s.env.get 2)) fun v=>bnd (some []) fun vs=>some (v::vs))
def G06:=B3 F2V [[E9v],[E9v,D0U],[D0U,D0T]]
end
end Go.Vab

namespace Go.Vab
open Go Go.Proofs
noncomputable section
def F2W:Ctx:=⟨fun _ _ _ => none,TT,16,[3,4,5,6,7,8,9,10,11,12,13,14,15]⟩
def D0V:=B8 Tryz.f37
def D0W:=cR D0V
def E9w:=cR D0W
def q37:=zQ1 F2W 37 Tryz.f37 D0V fun s=>(bnd (some (s.env.get 2)) fun v=>bnd (some []) fun vs=>some (v::vs))
def G07:=B3 F2W [[E9w],[E9w,D0W],[D0W,D0V]]
end
end Go.Vab

namespace Go.Vab
open Go Go.Proofs
noncomputable section
def D6G:Ctx:=⟨fun _ _ _ => none,TT,23,[6,7,8,9,11,12,13,14,15,16,17,18,19,20,22]⟩
def D0X:=B8 Tryz.f36
def B3h:=cR D0X
def D0Y:=cL B3h
def D0Z:=cR D0Y
def D0a:=cB D0Z
def B3i:=cB D0a
def D0b:=cL B3i
def B3j:=cR D0b
def E9x:=cL B3j
def E9y:=cR B3j
def A7e:=cR B3i
def C0g:=cL A7e
def C0h:=cB C0g
def A7f:=cR C0h
def C0i:=cL A7f
def E2X:=cR C0i
def E2Y:=cR A7f
def E2Z:=cR A7e
def C0j:=cR B3h
def E2a:=cR C0j
def q36:=zQ2 D6G 36 Tryz.f36 D0X fun s=>(bnd (some (s.env.get 4)) fun v=>bnd (some []) fun vs=>some (v::vs))
def F6Q:=zDr D6G [A7f,C0h] [] [0,1,0,7,15,31,63,0,255] [0,1,2,3,4,5,6,7,8] .f
def G08:=B3 D6G [[E9x],[E9y],[E9x,E9y,B3j],[B3j,D0b],[E2X],[E2X,C0i],[E2Y],[C0i,E2Y,A7f],[C0h,C0g],[E2Z],[C0g,E2Z,A7e],[D0b,A7e,B3i],[B3i,D0a],[D0a,D0Z],[D0Z,D0Y],[E2a],[E2a,C0j],[D0Y,C0j,B3h],[B3h,D0X]]
end
end Go.Vab

namespace Go.Vab
open Go Go.Proofs
noncomputable section
def D6H:Ctx:=⟨fun _ _ _ => none,TT,23,[6,7,8,9,11,12,13,14,15,16,17,18,19,20,22]⟩
def D0c:=B8 Tryz.f41
def B3k:=cR D0c
def D0d:=cL B3k
def D0e:=cR D0d
def D0f:=cB D0e
def B3l:=cB D0f
def D0g:=cL B3l
def B3m:=cR D0g
def E9z:=cL B3m
def E90:=cR B3m
def A7g:=cR B3l
def C0k:=cL A7g
def C0l:=cB C0k
def A7h:=cR C0l
def C0m:=cL A7h
def E2b:=cR C0m
def E2c:=cR A7h
def E2d:=cR A7g
def C0n:=cR B3k
def E2e:=cR C0n
def q41:=zQ2 D6H 41 Tryz.f41 D0c fun s=>(bnd (some (s.env.get 4)) fun v=>bnd (some []) fun vs=>some (v::vs))
def F6R:=zDr D6H [A7h,C0l] [] [0,1,0,7,15,31,63,0,255] [0,1,2,3,4,5,6,7,8] .f
def G09:=B3 D6H [[E9z],[E90],[E9z,E90,B3m],[B3m,D0g],[E2b],[E2b,C0m],[E2c],[C0m,E2c,A7h],[C0l,C0k],[E2d],[C0k,E2d,A7g],[D0g,A7g,B3l],[B3l,D0f],[D0f,D0e],[D0e,D0d],[E2e],[E2e,C0n],[D0d,C0n,B3k],[B3k,D0c]]
end
end Go.Vab

namespace Go.Vab
open Go Go.Proofs
noncomputable section
def D6I:Ctx:=⟨fun _ _ _ => none,TT,23,[6,7,8,9,11,12,13,14,15,16,17,18,19,20,22]⟩
def D0h:=B8 Tryz.f42
def B3n:=cR D0h
def D0i:=cL B3n
def D0j:=cR D0i
def D0k:=cB D0j
def B3o:=cB D0k
def D0l:=cL B3o
def B3p:=cR D0l
def E91:=cL B3p
def E92:=cR B3p
def A7i:=cR B3o
def C0o:=cL A7i
def C0p:=cB C0o
def A7j:=cR C0p
def C0q:=cL A7j
def E2f:=cR C0q
def E2g:=cR A7j
def E2h:=cR A7i
def C0r:=cR B3n
def E2i:=cR C0r
def q42:=zQ2 D6I 42 Tryz.f42 D0h fun s=>(bnd (some (s.env.get 4)) fun v=>bnd (some []) fun vs=>some (v::vs))
def F6S:=zDr D6I [A7j,C0p] [] [0,1,0,7,15,31,63,0,255] [0,1,2,3,4,5,6,7,8] .f
def G1A:=B3 D6I [[E91],[E92],[E91,E92,B3p],[B3p,D0l],[E2f],[E2f,C0q],[E2g],[C0q,E2g,A7j],[C0p,C0o],[E2h],[C0o,E2h,A7i],[D0l,A7i,B3o],[B3o,D0k],[D0k,D0j],[D0j,D0i],[E2i],[E2i,C0r],[D0i,C0r,B3n],[B3n,D0h]]
end
end Go.Vab

namespace Go.Vab
open Go Go.Proofs
noncomputable section
def D6J:Ctx:=⟨fun _ _ _ => none,TT,23,[6,7,8,9,11,12,13,14,15,16,17,18,19,20,22]⟩
def D0m:=B8 Tryz.f43
def B3q:=cR D0m
def D0n:=cL B3q
def D0o:=cR D0n
def D0p:=cB D0o
def B3r:=cB D0p
def D0q:=cL B3r
def B3s:=cR D0q
def E93:=cL B3s
def E94:=cR B3s
def A7k:=cR B3r
def C0s:=cL A7k
def C0t:=cB C0s
def A7l:=cR C0t
def C0u:=cL A7l
def E2j:=cR C0u
def E2k:=cR A7l
def E2l:=cR A7k
def C0v:=cR B3q
def E2m:=cR C0v
def q43:=zQ2 D6J 43 Tryz.f43 D0m fun s=>(bnd (some (s.env.get 4)) fun v=>bnd (some []) fun vs=>some (v::vs))
def F6T:=zDr D6J [A7l,C0t] [] [0,1,0,7,15,31,63,0,255] [0,1,2,3,4,5,6,7,8] .f
def G1B:=B3 D6J [[E93],[E94],[E93,E94,B3s],[B3s,D0q],[E2j],[E2j,C0u],[E2k],[C0u,E2k,A7l],[C0t,C0s],[E2l],[C0s,E2l,A7k],[D0q,A7k,B3r],[B3r,D0p],[D0p,D0o],[D0o,D0n],[E2m],[E2m,C0v],[D0n,C0v,B3q],[B3q,D0m]]
end
end Go.Vab

namespace Go.Vab
open Go Go.Proofs
noncomputable section
def F2X:Ctx:=⟨fun _ _ _ => none,TT,17,[6,7,8,9,11,12,13,14,15,16]⟩
def D0r:=B8 Tryz.f18
def D0s:=cR D0r
def B3t:=cR D0s
def D0t:=cL B3t
def B3u:=cR D0t
def D0u:=cL B3u
def E95:=cR D0u
def E96:=cR B3u
def D0v:=cR B3t
def E97:=cR D0v
def q18:=zQ2 F2X 18 Tryz.f18 D0r fun s=>(bnd (some (s.env.get 4)) fun v=>bnd (some []) fun vs=>some (v::vs))
def G1C:=B3 F2X [[E95],[E95,D0u],[E96],[D0u,E96,B3u],[B3u,D0t],[E97],[E97,D0v],[D0t,D0v,B3t],[B3t,D0s],[D0s,D0r]]
end
end Go.Vab

namespace Go.Vab
open Go Go.Proofs
noncomputable section
def F2Y:Ctx:=⟨fun _ _ _ => none,TT,22,[5,6,7,8,10,11,12,13,14,15,16,17,19,20,21]⟩
def D0w:=B8 Tryz.f40
def D0x:=cR D0w
def B3v:=cR D0x
def D0y:=cL B3v
def D0z:=cR D0y
def D00:=cB D0z
def B3w:=cB D00
def D01:=cL B3w
def B3x:=cR D01
def E98:=cL B3x
def E2n:=cR B3x
def A7m:=cR B3w
def C0w:=cL A7m
def C0x:=cB C0w
def A7n:=cR C0x
def E2o:=cL A7n
def E2p:=cR A7n
def E2q:=cR A7m
def C0y:=cR B3v
def E2r:=cR C0y
def q40:=zQ1 F2Y 40 Tryz.f40 D0w fun s=>(bnd (some (s.env.get 2)) fun v=>bnd (some []) fun vs=>some (v::vs))
def G1D:=B3 F2Y [[E98],[E2n],[E98,E2n,B3x],[B3x,D01],[E2o],[E2p],[E2o,E2p,A7n],[A7n,C0x],[C0x,C0w],[E2q],[C0w,E2q,A7m],[D01,A7m,B3w],[B3w,D00],[D00,D0z],[D0z,D0y],[E2r],[E2r,C0y],[D0y,C0y,B3v],[B3v,D0x],[D0x,D0w]]
end
end Go.Vab

namespace Go.Vab
open Go Go.Proofs
noncomputable section
def F2Z:Ctx:=⟨fun _ _ _ => none,TT,28,[8,9,10,11,12,13,14,15,16,17,18,19,20,21,22,23,24,25,26,27]⟩
def D02:=B8 Tryz.f83
def D03:=cR D02
def D04:=cR D03
def E99:=cR D04
def q83:=zQ3 F2Z 83 Tryz.f83 D02 fun s=>(bnd (some (s.env.get 6)) fun v=>bnd (some []) fun vs=>some (v::vs))
def G1E:=B3 F2Z [[E99],[E99,D04],[D04,D03],[D03,D02]]
end
end Go.Vab

namespace Go.Vab
open Go Go.Proofs
noncomputable section
def F0A:Ctx:=⟨fun _ _ _ => none,TT,18,[5,6,7,8,9,10,11,12,13,14,15,16,17]⟩
def C0z:=B8 Tryz.f115
def C00:=cR C0z
def E2s:=cR C00
def G1F:=zQ2 F0A 115 Tryz.f115 C0z fun s=>(bnd (some (s.env.get 4)) fun v=>bnd (some []) fun vs=>some (v::vs))
def F9v:=B3 F0A [[E2s],[E2s,C00],[C00,C0z]]
end
end Go.Vab

namespace Go.Vab
open Go Go.Proofs
end Go.Vab

namespace Go.Vab
open Go Go.Proofs
noncomputable section
def A2w:Ctx:=⟨fun _ _ _ => none,TT,75,[8,9,10,11,13,14,15,16,17,18,19,20,21,22,23,24,25,26,27,28,29,30,31,32,33,35,36,37,38,39,40,41,42,43,44,45,46,47,48,49,50,51,52,54,55,56,57,58,59,60,61,62,63,64,65,67,68,69,70,71,72,73,74]⟩
def D05:=B8 Tryz.f26
def D06:=cR D05
def B3y:=cR D06
def D07:=cL B3y
def B3z:=cR D07
def D08:=cL B3z
def F0B:=cR D08
def F0C:=cR B3z
def D09:=cR B3y
def B30:=cR D09
def C01:=cL B30
def A7o:=cR C01
def C02:=cL A7o
def E2t:=cR C02
def E2u:=cR A7o
def C03:=cR B30
def A7p:=cR C03
def C04:=cL A7p
def A7q:=cR C04
def C05:=cL A7q
def E2v:=cR C05
def E2w:=cR A7q
def C06:=cR A7p
def A7r:=cR C06
def C07:=cL A7r
def A7s:=cR C07
def C08:=cL A7s
def E2x:=cR C08
def E2y:=cR A7s
def C09:=cR A7r
def E2z:=cR C09
def q26:=zQ2 A2w 26 Tryz.f26 D05 fun s=>(bnd (some (s.env.get 4)) fun v=>bnd (bnd (some (s.env.get 5)) fun v=>bnd (bnd (D6 (.arr 32 (.int .u8)) (s.env.get 6) s.heap) fun v=>bnd (some []) fun vs=>some (v::vs)) fun vs=>some (v::vs)) fun vs=>some (v::vs))
def A5f:=zDr A2w [F0B,D08] [19] [0,1,0,7,15,31,63,127,0,256,0,1792,3840,7936,16128,32767,0,0,196607,524287] [0,1,2,3,4,5,6,7,8,9,10,11,12,13,14,15,16,17,18] (.o 19 [] [] .f)
def A5E:=zDr A2w [E2t,C02] [16] [0,1,0,7,15,31,63,0,128,0,896,1920,3968,8064,0,16511,65535] [0,1,2,3,4,5,6,7,8,9,10,11,12,13,14,15] (.o 16 [] [] .f)
def A5F:=zDr A2w [E2v,C05] [10] [0,1,0,7,15,31,63,0,0,383,1023] [0,1,2,3,4,5,6,7,8,9] (.o 10 [] [] .f)
def A5G:=zDr A2w [E2x,C08] [9] [0,1,0,7,15,31,63,0,128,511] [0,1,2,3,4,5,6,7,8] (.o 9 [] [] .f)
def B55:=B3 A2w [[F0B],[F0C],[D08,F0C,B3z],[B3z,D07],[E2t],[E2u],[C02,E2u,A7o],[A7o,C01],[E2v],[E2w],[C05,E2w,A7q],[A7q,C04],[E2x],[E2y],[C08,E2y,A7s],[A7s,C07],[E2z],[E2z,C09],[C07,C09,A7r],[A7r,C06],[C04,C06,A7p],[A7p,C03],[C01,C03,B30],[B30,D09],[D07,D09,B3y],[B3y,D06],[D06,D05]]
end
end Go.Vab

namespace Go.Vab
open Go Go.Proofs
theorem F6U {G X:Prop} (f:Hd X→G:=by
 intro xX
 repeat' (first|refine stp (x:=?_)|(simp (decide:=true) only [G05,snB,if_true,if_false])|(with_reducible refine F8I _ _ _ ?_))
 exact xX.get) (x:X):G:=f ⟨x⟩
theorem A10 {G X:Prop} (f:Hd X→G:=by
 intro xX
 repeat' (first|refine stp (x:=?_)|(simp (decide:=true) only [G08,snB,if_true,if_false])|(with_reducible refine F6Q _ _ _ ?_))
 exact xX.get) (x:X):G:=f ⟨x⟩
theorem A11 {G X:Prop} (f:Hd X→G:=by
 intro xX
 repeat' (first|refine stp (x:=?_)|(simp (decide:=true) only [G09,snB,if_true,if_false])|(with_reducible refine F6R _ _ _ ?_))
 exact xX.get) (x:X):G:=f ⟨x⟩
theorem A12 {G X:Prop} (f:Hd X→G:=by
 intro xX
 repeat' (first|refine stp (x:=?_)|(simp (decide:=true) only [G1A,snB,if_true,if_false])|(with_reducible refine F6S _ _ _ ?_))
 exact xX.get) (x:X):G:=f ⟨x⟩
theorem A13 {G X:Prop} (f:Hd X→G:=by
 intro xX
 repeat' (first|refine stp (x:=?_)|(simp (decide:=true) only [G1B,snB,if_true,if_false])|(with_reducible refine F6T _ _ _ ?_))
 exact xX.get) (x:X):G:=f ⟨x⟩
theorem D81 {G X:Prop} (f:Hd X→G:=by
 intro xX
 repeat' (first|refine stp (x:=?_)|(with_reducible refine SpecQ.step (c36 (ra.app _)) ?_;rintro _ rfl;try dsimp only)|(simp (decide:=true) only [G1C,snB,if_true,if_false]))
 exact xX.get) (x:X):G:=f ⟨x⟩
theorem A3M {G X:Prop} (f:Hd X→G:=by
 intro xX
 repeat' (first|refine stp (x:=?_)|(simp (decide:=true) only [G1D,snB,if_true,if_false]))
 exact xX.get) (x:X):G:=f ⟨x⟩
theorem F6V {G X:Prop} (f:Hd X→G:=by
 intro xX
 repeat' (first|refine stp (x:=?_)|(with_reducible refine SpecQ.step (c36 (ra.app _)) ?_;rintro _ rfl;try dsimp only)|(simp (decide:=true) only [B55,snB,if_true,if_false])|(with_reducible refine A5f _ _ _ ?_)|(with_reducible refine A5E _ _ _ ?_)|(with_reducible refine A5F _ _ _ ?_)|(with_reducible refine A5G _ _ _ ?_))
 exact xX.get) (x:X):G:=f ⟨x⟩
theorem F6W {G X:Prop} (f:Hd X→G:=by
 intro xX
 repeat' (first|refine stp (x:=?_)|(with_reducible refine SpecQ.step (c36 (ra.app _)) ?_;rintro _ rfl;try dsimp only)|(with_reducible refine SpecQ.step (c41 (ra.app _)) ?_;rintro _ rfl;try dsimp only)|(simp (decide:=true) only [B55,snB,if_true,if_false])|(with_reducible refine A5f _ _ _ ?_)|(with_reducible refine A5E _ _ _ ?_)|(with_reducible refine A5F _ _ _ ?_)|(with_reducible refine A5G _ _ _ ?_))
 exact xX.get) (x:X):G:=f ⟨x⟩
theorem F6X {G X:Prop} (f:Hd X→G:=by
 intro xX
 repeat' (first|refine stp (x:=?_)|(with_reducible refine SpecQ.step (c36 (ra.app _)) ?_;rintro _ rfl;try dsimp only)|(with_reducible refine SpecQ.step (c41 (ra.app _)) ?_;rintro _ rfl;try dsimp only)|(with_reducible refine SpecQ.step (c42 (ra.app _)) ?_;rintro _ rfl;try dsimp only)|(simp (decide:=true) only [B55,snB,if_true,if_false])|(with_reducible refine A5f _ _ _ ?_)|(with_reducible refine A5E _ _ _ ?_)|(with_reducible refine A5F _ _ _ ?_)|(with_reducible refine A5G _ _ _ ?_))
 exact xX.get) (x:X):G:=f ⟨x⟩
theorem D78 {G X:Prop} (f:Hd X→G:=by
 intro xX
 repeat' (first|refine stp (x:=?_)|(with_reducible refine SpecQ.step (c36 (ra.app _)) ?_;rintro _ rfl;try dsimp only)|(with_reducible refine SpecQ.step (c41 (ra.app _)) ?_;rintro _ rfl;try dsimp only)|(with_reducible refine SpecQ.step (c42 (ra.app _)) ?_;rintro _ rfl;try dsimp only)|(with_reducible refine SpecQ.step (c43 (ra.app _)) ?_;rintro _ rfl;try dsimp only)|(simp (decide:=true) only [B55,snB,if_true,if_false])|(with_reducible refine A5f _ _ _ ?_)|(with_reducible refine A5E _ _ _ ?_)|(with_reducible refine A5F _ _ _ ?_)|(with_reducible refine A5G _ _ _ ?_))
 exact xX.get) (x:X):G:=f ⟨x⟩
attribute [local irreducible] E9 Evs gW D9 E8 G5
theorem c86 {h:A3} {p q:Pt}:SpecQ Tryz.prog 86 [pt p,pt q] h fun r=>r=(.bool (ltP p q),h):=by
 refine SpecQ.drop1 rfl (q86 fun env g0 g1=>?_)
 have s1:=fun l=>(M0 (h:=h++⟨pt p,0,.own⟩::l) (i:=h.length) (path:=[]) (p:=p) (by simp)).str
 have s2:=fun l=>(M0 (h:=h++⟨pt p,0,.own⟩::⟨pt q,0,.own⟩::l) (i:=h.length+1) (path:=[]) (p:=q) (by simp)).str
 have ff:=aI4 g0 g1 s1 s2
 refine F6U (x:=?_)
 clear ff
 exact ⟨_,rfl⟩
theorem c39 {h:A3} {r:BitVec 8}:SpecQ Tryz.prog 39 [u8 r] h fun x=>x=(.bool (roleOk r),h):=by
 refine SpecQ.drop1 rfl (q39 fun env g0=>?_)
 repeat' (first|((with_reducible refine I6 (a:=?_) ?_ ?_);rotate_left;(focus ((conv=>lhs;simp (disch:=omega) [g0]);done));try dsimp only)|(simp (decide:=true) only [G06,J7,J4,I3,J3,I2,J2,J1,if_true,if_false,J5,J6])|((with_reducible refine P8 (b:=?_) ?_ ?_ ?_);rotate_left;(focus ((conv=>lhs;simp (disch:=omega) [g0]);done));all_goals ((intro hb;try simp only [Bool.not_true,Bool.not_false] at hb);try simp only [hb]))|(with_reducible refine P4 ?_ ?_ <;> (intro hb;try simp only [Bool.not_true,Bool.not_false] at hb) <;> try simp only [hb]))
 all_goals refine E2Q ?_
 all_goals (unfold roleOk;simp_all)
theorem c37 {h:A3} {a:Acc}:SpecQ Tryz.prog 37 [J8 a] h fun x=>x=(.bool (accOk a),h):=by
 refine SpecQ.drop1 rfl (q37 fun env g0=>?_)
 repeat' (first|((with_reducible refine I6 (a:=?_) ?_ ?_);rotate_left;(focus ((conv=>lhs;simp (disch:=omega) [g0]);done));try dsimp only)|((with_reducible refine S6 ?_ ?_);(focus (simp (disch:=omega) [g0];done)))|((with_reducible refine T4 ?_ ?_);(focus (simp (disch:=omega) [g0];done));try dsimp only)|((with_reducible refine T5 ?_ ?_);(focus (simp (disch:=omega) [g0];done));try dsimp only)|(with_reducible refine SpecQ.step (c39) ?_;rintro _ rfl;try dsimp only)|((with_reducible refine S3 (args':=?_) ?_ ?_);rotate_left;(focus ((conv=>lhs;simp (disch:=omega) [g0]);done)))|(simp (decide:=true) only [G07,J7,J4,I3,J3,I2,J2,J1,if_true,if_false,J5,J6])|((with_reducible refine P8 (b:=?_) ?_ ?_ ?_);rotate_left;(focus ((conv=>lhs;simp (disch:=omega) [g0]);done));all_goals ((intro hb;try simp only [Bool.not_true,Bool.not_false] at hb);try simp only [hb]))|((with_reducible refine W8 (b:=?_) ?_ ?_ ?_);rotate_left;(focus ((conv=>lhs;simp (disch:=omega) [g0]);done));all_goals ((intro hb;try simp only [Bool.not_true,Bool.not_false] at hb);try simp only [hb]))|(with_reducible refine P4 ?_ ?_ <;> (intro hb;try simp only [Bool.not_true,Bool.not_false] at hb) <;> try simp only [hb])|(with_reducible refine U8 ?_ ?_ <;> (intro hb;try simp only [Bool.not_true,Bool.not_false] at hb) <;> try simp only [hb]))
 all_goals refine K6 ?_
 all_goals (unfold accOk;simp_all)
theorem c36 {h:A3} {s:Stt} {vt vp vs vi va vb:AV} {e:Pt} (ra:StR h s vt vp vs vi va vb):SpecQ Tryz.prog 36 [eSt s vt vp vs vi va vb,pt e] h fun r=>r=(.int .i64 (U1 fS s.seats e),h):=by
 have ta:=ra.cells
 have lx:=ra.fs.len
 have bx:=ra.fs.bound
 rw [List.length_map] at lx bx
 refine SpecQ.drop1 rfl (q36 fun env g0 g1=>?_)
 have ff:=aI4 g0 g1 ta lx
 refine A10 (x:=?_)
 clear ff
 refine G0 s.seats.length (fun i st=>∃ env',st=⟨env',h++[⟨eSt s vt vp vs vi va vb,0,.own⟩,⟨pt e,0,.own⟩]⟩∧env'.get 2=.ptr h.length 0 [] A6∧env'.get 3=.ptr (h.length+1) 0 [] (.arr 32 (.int .u8))∧env'.get 5=nat i∧∀ j (hj:j < s.seats.length),j < i→fS s.seats[j]≠e) ?_ ?_ ⟨_,rfl,by simp,by simp,by simp,fun j _ hj=>absurd hj (by omega)⟩
 ·rintro i st hi ⟨env',rfl,e2,e3,e5,hne⟩
  obtain ⟨pb,pv,pp,bb,p1,p2,p3,p4⟩:=ra.fs.idxE hi
  by_cases hq:s.seats[i].who.e=e
  ·have ff:=E3 e2 e3 e5 ta lx p1 p2 p3 p4 hq
   refine A10 (x:=?_)
   clear ff
   refine .inr ⟨by simp,?_⟩
   have ff:=e5
   refine A10 (x:=?_)
   clear ff
   refine ⟨_,(by rw [A49 fS hi hq hne];rfl)⟩
  ·have ff:=E3 e2 e3 e5 ta lx p1 p2 p3 p4 hq
   refine A10 (x:=?_)
   clear ff
   refine .inl ⟨by simp,_,rfl,by simp [e2],by simp [e3],by simp,fun j hj hji=>?_⟩
   by_cases hji':j=i
   ·subst hji';exact hq
   ·exact hne j hj (by omega)
 ·rintro st ⟨env',rfl,e2,e3,e5,hne⟩
  have ff:=aI4 e2 e5 lx ta
  refine A10 (x:=?_)
  clear ff
  refine ⟨by simp,?_⟩
  have ff:=e2
  refine A10 (x:=?_)
  clear ff
  exact ⟨_,(by rw [A5b fS fun j hj=>hne j hj hj];rfl)⟩
theorem c41 {h:A3} {s:Stt} {vt vp vs vi va vb:AV} {e:Pt} (ra:StR h s vt vp vs vi va vb):SpecQ Tryz.prog 41 [eSt s vt vp vs vi va vb,pt e] h fun r=>r=(.int .i64 (U1 fI s.invites e),h):=by
 have ta:=ra.cells
 have lx:=ra.fi.len
 have bx:=ra.fi.bound
 rw [List.length_map] at lx bx
 refine SpecQ.drop1 rfl (q41 fun env g0 g1=>?_)
 have ff:=aI4 g0 g1 ta lx
 refine A11 (x:=?_)
 clear ff
 refine G0 s.invites.length (fun i st=>∃ env',st=⟨env',h++[⟨eSt s vt vp vs vi va vb,0,.own⟩,⟨pt e,0,.own⟩]⟩∧env'.get 2=.ptr h.length 0 [] A6∧env'.get 3=.ptr (h.length+1) 0 [] (.arr 32 (.int .u8))∧env'.get 5=nat i∧∀ j (hj:j < s.invites.length),j < i→fI s.invites[j]≠e) ?_ ?_ ⟨_,rfl,by simp,by simp,by simp,fun j _ hj=>absurd hj (by omega)⟩
 ·rintro i st hi ⟨env',rfl,e2,e3,e5,hne⟩
  obtain ⟨pb,pv,pp,bb,p1,p2,p3,p4⟩:=ra.fi.idxE hi
  by_cases hq:s.invites[i].who.e=e
  ·have ff:=E3 e2 e3 e5 ta lx p1 p2 p3 p4 hq
   refine A11 (x:=?_)
   clear ff
   refine .inr ⟨by simp,?_⟩
   have ff:=e5
   refine A11 (x:=?_)
   clear ff
   refine ⟨_,(by rw [A49 fI hi hq hne];rfl)⟩
  ·have ff:=E3 e2 e3 e5 ta lx p1 p2 p3 p4 hq
   refine A11 (x:=?_)
   clear ff
   refine .inl ⟨by simp,_,rfl,by simp [e2],by simp [e3],by simp,fun j hj hji=>?_⟩
   by_cases hji':j=i
   ·subst hji';exact hq
   ·exact hne j hj (by omega)
 ·rintro st ⟨env',rfl,e2,e3,e5,hne⟩
  have ff:=aI4 e2 e5 lx ta
  refine A11 (x:=?_)
  clear ff
  refine ⟨by simp,?_⟩
  have ff:=e2
  refine A11 (x:=?_)
  clear ff
  exact ⟨_,(by rw [A5b fI fun j hj=>hne j hj hj];rfl)⟩
theorem c42 {h:A3} {s:Stt} {vt vp vs vi va vb:AV} {e:Pt} (ra:StR h s vt vp vs vi va vb):SpecQ Tryz.prog 42 [eSt s vt vp vs vi va vb,pt e] h fun r=>r=(.int .i64 (U1 fA s.asks e),h):=by
 have ta:=ra.cells
 have lx:=ra.fa.len
 have bx:=ra.fa.bound
 rw [List.length_map] at lx bx
 refine SpecQ.drop1 rfl (q42 fun env g0 g1=>?_)
 have ff:=aI4 g0 g1 ta lx
 refine A12 (x:=?_)
 clear ff
 refine G0 s.asks.length (fun i st=>∃ env',st=⟨env',h++[⟨eSt s vt vp vs vi va vb,0,.own⟩,⟨pt e,0,.own⟩]⟩∧env'.get 2=.ptr h.length 0 [] A6∧env'.get 3=.ptr (h.length+1) 0 [] (.arr 32 (.int .u8))∧env'.get 5=nat i∧∀ j (hj:j < s.asks.length),j < i→fA s.asks[j]≠e) ?_ ?_ ⟨_,rfl,by simp,by simp,by simp,fun j _ hj=>absurd hj (by omega)⟩
 ·rintro i st hi ⟨env',rfl,e2,e3,e5,hne⟩
  obtain ⟨pb,pv,pp,bb,p1,p2,p3,p4⟩:=ra.fa.idxE hi
  by_cases hq:s.asks[i].who.e=e
  ·have ff:=E3 e2 e3 e5 ta lx p1 p2 p3 p4 hq
   refine A12 (x:=?_)
   clear ff
   refine .inr ⟨by simp,?_⟩
   have ff:=e5
   refine A12 (x:=?_)
   clear ff
   refine ⟨_,(by rw [A49 fA hi hq hne];rfl)⟩
  ·have ff:=E3 e2 e3 e5 ta lx p1 p2 p3 p4 hq
   refine A12 (x:=?_)
   clear ff
   refine .inl ⟨by simp,_,rfl,by simp [e2],by simp [e3],by simp,fun j hj hji=>?_⟩
   by_cases hji':j=i
   ·subst hji';exact hq
   ·exact hne j hj (by omega)
 ·rintro st ⟨env',rfl,e2,e3,e5,hne⟩
  have ff:=aI4 e2 e5 lx ta
  refine A12 (x:=?_)
  clear ff
  refine ⟨by simp,?_⟩
  have ff:=e2
  refine A12 (x:=?_)
  clear ff
  exact ⟨_,(by rw [A5b fA fun j hj=>hne j hj hj];rfl)⟩
theorem c43 {h:A3} {s:Stt} {vt vp vs vi va vb:AV} {e:Pt} (ra:StR h s vt vp vs vi va vb):SpecQ Tryz.prog 43 [eSt s vt vp vs vi va vb,pt e] h fun r=>r=(.int .i64 (U1 fB s.bans e),h):=by
 have ta:=ra.cells
 have lx:=ra.fb.len
 have bx:=ra.fb.bound
 rw [List.length_map] at lx bx
 refine SpecQ.drop1 rfl (q43 fun env g0 g1=>?_)
 have ff:=aI4 g0 g1 ta lx
 refine A13 (x:=?_)
 clear ff
 refine G0 s.bans.length (fun i st=>∃ env',st=⟨env',h++[⟨eSt s vt vp vs vi va vb,0,.own⟩,⟨pt e,0,.own⟩]⟩∧env'.get 2=.ptr h.length 0 [] A6∧env'.get 3=.ptr (h.length+1) 0 [] (.arr 32 (.int .u8))∧env'.get 5=nat i∧∀ j (hj:j < s.bans.length),j < i→fB s.bans[j]≠e) ?_ ?_ ⟨_,rfl,by simp,by simp,by simp,fun j _ hj=>absurd hj (by omega)⟩
 ·rintro i st hi ⟨env',rfl,e2,e3,e5,hne⟩
  obtain ⟨pb,pv,pp,bb,p1,p2,p3,p4⟩:=ra.fb.idxE hi
  by_cases hq:s.bans[i].who.e=e
  ·have ff:=E3 e2 e3 e5 ta lx p1 p2 p3 p4 hq
   refine A13 (x:=?_)
   clear ff
   refine .inr ⟨by simp,?_⟩
   have ff:=e5
   refine A13 (x:=?_)
   clear ff
   refine ⟨_,(by rw [A49 fB hi hq hne];rfl)⟩
  ·have ff:=E3 e2 e3 e5 ta lx p1 p2 p3 p4 hq
   refine A13 (x:=?_)
   clear ff
   refine .inl ⟨by simp,_,rfl,by simp [e2],by simp [e3],by simp,fun j hj hji=>?_⟩
   by_cases hji':j=i
   ·subst hji';exact hq
   ·exact hne j hj (by omega)
 ·rintro st ⟨env',rfl,e2,e3,e5,hne⟩
  have ff:=aI4 e2 e5 lx ta
  refine A13 (x:=?_)
  clear ff
  refine ⟨by simp,?_⟩
  have ff:=e2
  refine A13 (x:=?_)
  clear ff
  exact ⟨_,(by rw [A5b fB fun j hj=>hne j hj hj];rfl)⟩
theorem c18 {h:A3} {s:Stt} {vt vp vs vi va vb:AV} {e:Pt} (ra:StR h s vt vp vs vi va vb):SpecQ Tryz.prog 18 [eSt s vt vp vs vi va vb,pt e] h fun r=>r=(u8 (D0 s e),h):=by
 have ta:=ra.cells
 refine SpecQ.drop1 rfl (q18 fun env g0 g1=>?_)
 rcases idxI_spec fS s.seats e with ⟨i,hi,h1,h2,h3⟩|⟨h1,h2⟩
 ·obtain ⟨pb,pv,pp,bb,p1,p2,p3,p4⟩:=ra.fs.idxE hi
  have ff:=aI9 g0 g1 ta h1 @H5 p1 p2 p3 p4
  refine D81 (x:=?_)
  clear ff
  exact ⟨_,(by simp only [D0,h2];rfl)⟩
 ·have ff:=aI4 g0 g1 ta h1
  refine D81 (x:=?_)
  clear ff
  exact ⟨_,(by simp only [D0,h2];rfl)⟩
theorem c40 {h:A3} {s:Stt} {vt vp vs vi va vb:AV} (ra:StR h s vt vp vs vi va vb):SpecQ Tryz.prog 40 [eSt s vt vp vs vi va vb] h fun r=>r=(nat (v8 s),h):=by
 have ta:=ra.cells
 have lx:=ra.fs.len
 have bx:=ra.fs.bound
 rw [List.length_map] at lx bx
 refine SpecQ.drop1 rfl (q40 fun env g0=>?_)
 have ff:=aI3 g0 ta lx
 refine A3M (x:=?_)
 clear ff
 refine G0 s.seats.length (fun i st=>∃ env',st=⟨env',h++[⟨eSt s vt vp vs vi va vb,0,.own⟩]⟩∧env'.get 1=.ptr h.length 0 [] A6∧env'.get 3=nat ((s.seats.take i).countP fun x=>decide (x.role=2#8))∧env'.get 4=nat i) ?_ ?_ ⟨_,rfl,by simp,by simp,by simp⟩
 ·rintro i st hi ⟨env',rfl,e1,e3,e4⟩
  obtain ⟨pb,pv,pp,bb,p1,p2,p3,p4⟩:=ra.fs.idxE hi
  have hc:(s.seats.take (i+1)).countP (fun x=>decide (x.role=2#8))=(s.seats.take i).countP (fun x=>decide (x.role=2#8))+if s.seats[i].role=2#8 then 1 else 0:=by
   rw [List.take_add_one,List.getElem?_eq_getElem hi,List.countP_append]
   simp [List.countP_cons]
  have hle:(s.seats.take i).countP (fun x=>decide (x.role=2#8))≤s.seats.length:=Nat.le_trans List.countP_le_length (by simp;omega)
  generalize (s.seats.take i).countP (fun x=>decide (x.role=2#8))=n at *
  by_cases hq:s.seats[i].role=2#8
  ·have ff:=E3 e1 e3 e4 ta lx p1 p2 p3 p4 hq
   refine A3M (x:=?_)
   clear ff
   exact .inl ⟨by simp,_,rfl,by simp [e1],by simp [hc,hq],by simp⟩
  ·have ff:=E3 e1 e3 e4 ta lx p1 p2 p3 p4 hq
   refine A3M (x:=?_)
   clear ff
   exact .inl ⟨by simp,_,rfl,by simp [e1],by simp [hc,hq,e3],by simp⟩
 ·rintro st ⟨env',rfl,e1,e3,e4⟩
  rw [List.take_length] at e3
  have ff:=aI5 e1 e3 e4 lx ta
  refine A3M (x:=?_)
  clear ff
  refine ⟨by simp,?_⟩
  have ff:=aI e1 e3
  refine A3M (x:=?_)
  clear ff
  exact ⟨_,rfl⟩
theorem c83 {h:A3} {s:Stt} {vt vp vs vi va vb:AV} {e:Pt} {r:BitVec 8} (ra:StR h s vt vp vs vi va vb):SpecQ Tryz.prog 83 [eSt s vt vp vs vi va vb,pt e,u8 r] h fun x=>x=(.bool (O7 s e r),h):=by
 have ta:=ra.cells
 refine SpecQ.drop1 rfl (q83 fun env g0 g1 g2=>?_)
 repeat' (first|((with_reducible refine I6 (a:=?_) ?_ ?_);rotate_left;(focus ((conv=>lhs;simp (disch:=omega) [g0,g1,g2,ta]);done));try dsimp only)|(with_reducible refine SpecQ.step (c18 (ra.app _)) ?_;rintro _ rfl;try dsimp only)|((with_reducible refine S3 (args':=?_) ?_ ?_);rotate_left;(focus ((conv=>lhs;simp (disch:=omega) [g0,g1,g2,ta]);done)))|(simp (decide:=true) only [G1E,J7,J4,I3,J3,I2,J2,J1,if_true,if_false,J5,J6])|((with_reducible refine P8 (b:=?_) ?_ ?_ ?_);rotate_left;(focus ((conv=>lhs;simp (disch:=omega) [g0,g1,g2,ta]);done));all_goals ((intro hb;try simp only [Bool.not_true,Bool.not_false] at hb);try simp only [hb]))|(with_reducible refine P4 ?_ ?_ <;> (intro hb;try simp only [Bool.not_true,Bool.not_false] at hb) <;> try simp only [hb]))
 all_goals refine K6 ?_
 all_goals (unfold O7;simp_all)
 all_goals (intro h;simp_all)
theorem P2 {h:A3} {s:Stt} {vt vp vs vi va vb:AV} {a:Actn} {wt wp:AV} (ra:StR h s vt vp vs vi va vb) (rc:ActR h a wt wp):SpecQ Tryz.prog 115 [eSt s vt vp vs vi va vb,C5 a wt wp] h fun x=>x=(.bool (V5 s a),h):=by
 have ta:=ra.cells
 have tc:=rc.cells
 have l1:=ra.fp.len
 have s1:=fun l=>(ra.fp.app l).str
 have s2:=fun l=>(rc.p.app l).str
 refine SpecQ.drop1 rfl (G1F fun env g0 g1=>?_)
 repeat' (first|((with_reducible refine I6 (a:=?_) ?_ ?_);rotate_left;(focus ((conv=>lhs;simp (disch:=omega) [g0,g1,ta,tc,l1,s1,s2]);done));try dsimp only)|(simp (decide:=true) only [F9v,J7,J4,I3,J3,I2,J2,J1,if_true,if_false,J5,J6])|((with_reducible refine P8 (b:=?_) ?_ ?_ ?_);rotate_left;(focus ((conv=>lhs;simp (disch:=omega) [g0,g1,ta,tc,l1,s1,s2]);done));all_goals ((intro hb;try simp only [Bool.not_true,Bool.not_false] at hb);try simp only [hb]))|(with_reducible refine P4 ?_ ?_ <;> (intro hb;try simp only [Bool.not_true,Bool.not_false] at hb) <;> try simp only [hb]))
 all_goals refine K6 ?_
 all_goals (unfold V5;simp_all)
def A33 (x:Nat × BitVec 64 × Pt):AV:=.tuple [nat x.1,u64 x.2.1,pt x.2.2]
theorem c26 {h:A3} {s:Stt} {vt vp vs vi va vb:AV} {e:Pt} (ra:StR h s vt vp vs vi va vb):SpecQ Tryz.prog 26 [eSt s vt vp vs vi va vb,pt e] h fun x=>x=(A33 (Q2 s e),h):=by
 have ta:=ra.cells
 refine SpecQ.drop1 (by simp only [A33,AV.under,AV.unders,A2k];rfl) (q26 fun env g0 g1=>?_)
 rcases idxI_spec fS s.seats e with ⟨i,hi,h1,h2,h3⟩|⟨h1,h2⟩
 ·obtain ⟨pb,pv,pp,bb,p1,p2,p3,p4⟩:=ra.fs.idxE hi
  have ff:=aI9 g0 g1 ta h1 @H5 p1 p2 p3 p4
  refine F6V (x:=?_)
  clear ff
  exact ⟨_,(by simp only [Q2,h2];rfl)⟩
 rcases idxI_spec fI s.invites e with ⟨i,hi,k1,k2,k3⟩|⟨k1,k2⟩
 ·obtain ⟨pb,pv,pp,bb,p1,p2,p3,p4⟩:=ra.fi.idxE hi
  have ff:=E3 g0 g1 ta h1 k1 @H5 p1 p2 p3 p4
  refine F6W (x:=?_)
  clear ff
  exact ⟨_,(by simp only [Q2,h2,k2];rfl)⟩
 rcases idxI_spec fA s.asks e with ⟨i,hi,m1,m2,m3⟩|⟨m1,m2⟩
 ·obtain ⟨pb,pv,pp,bb,p1,p2,p3,p4⟩:=ra.fa.idxE hi
  have ff:=D8 g0 g1 ta h1 k1 m1 @H5 p1 p2 p3 p4
  refine F6X (x:=?_)
  clear ff
  exact ⟨_,(by simp only [Q2,h2,k2,m2];rfl)⟩
 rcases idxI_spec fB s.bans e with ⟨i,hi,n1,n2,n3⟩|⟨n1,n2⟩
 ·obtain ⟨pb,pv,pp,bb,p1,p2,p3,p4⟩:=ra.fb.idxE hi
  have ff:=F8 g0 g1 ta h1 k1 m1 n1 @H5 p1 p2 p3 p4
  refine D78 (x:=?_)
  clear ff
  exact ⟨_,(by simp only [Q2,h2,k2,m2,n2];rfl)⟩
 ·have ff:=aI7 g0 g1 ta h1 k1 m1 n1
  refine D78 (x:=?_)
  clear ff
  exact ⟨_,(by simp only [Q2,h2,k2,m2,n2];rfl)⟩
end Go.Vab

namespace Go.Vab
open Go Go.Proofs
noncomputable section
def D1A:Ctx:=⟨fun _ _ _ => none,TT,28,[4,5,6,7,8,10,11,12,13,14,15,16,17,18,19,20,21,22,23,24,25,26,27]⟩
def C1A:=B8 Tryz.f142
def C1B:=cR C1A
def C1C:=cB C1B
def A7t:=cB C1C
def C1D:=cL A7t
def A7u:=cR C1D
def E20:=cL A7u
def E21:=cR A7u
def A7v:=cR A7t
def C1E:=cL A7v
def D9m:=cB C1E
def D9n:=cR A7v
def G1G:=zQ1 D1A 142 Tryz.f142 C1A fun s=>(some [])
def F44:=zDr D1A [D9m] [13,15] [0,0,0,0,0,0,48,112,0,0,768,1792,4083,8179,16383,32767] [0,1,2,3,4,5,6,7,8,9,10,11,12] (.o 13 [14] [] (.o 15 [] [] .f))
def F9w:=B3 D1A [[E20],[E21],[E20,E21,A7u],[A7u,C1D],[D9m,C1E],[D9n],[C1E,D9n,A7v],[C1D,A7v,A7t],[A7t,C1C],[C1C,C1B],[C1B,C1A]]
end
end Go.Vab

namespace Go.Vab
open Go Go.Proofs
noncomputable section
def D1B:Ctx:=⟨fun _ _ _ => none,TT,28,[4,5,6,7,8,10,11,12,13,14,15,16,17,18,19,20,21,22,23,24,25,26,27]⟩
def C1F:=B8 Tryz.f139
def C1G:=cR C1F
def C1H:=cB C1G
def A7w:=cB C1H
def C1I:=cL A7w
def A7x:=cR C1I
def E22:=cL A7x
def E23:=cR A7x
def A7y:=cR A7w
def C1J:=cL A7y
def D9o:=cB C1J
def D9p:=cR A7y
def G1H:=zQ1 D1B 139 Tryz.f139 C1F fun s=>(some [])
def F45:=zDr D1B [D9o] [13,15] [0,0,0,0,0,0,48,112,0,0,768,1792,4083,8179,16383,32767] [0,1,2,3,4,5,6,7,8,9,10,11,12] (.o 13 [14] [] (.o 15 [] [] .f))
def F9x:=B3 D1B [[E22],[E23],[E22,E23,A7x],[A7x,C1I],[D9o,C1J],[D9p],[C1J,D9p,A7y],[C1I,A7y,A7w],[A7w,C1H],[C1H,C1G],[C1G,C1F]]
end
end Go.Vab

namespace Go.Vab
open Go Go.Proofs
noncomputable section
def D1C:Ctx:=⟨fun _ _ _ => none,TT,28,[4,5,6,7,8,10,11,12,13,14,15,16,17,18,19,20,21,22,23,24,25,26,27]⟩
def C1K:=B8 Tryz.f140
def C1L:=cR C1K
def C1M:=cB C1L
def A7z:=cB C1M
def C1N:=cL A7z
def A70:=cR C1N
def E24:=cL A70
def E25:=cR A70
def A71:=cR A7z
def C1O:=cL A71
def D9q:=cB C1O
def D9r:=cR A71
def G1I:=zQ1 D1C 140 Tryz.f140 C1K fun s=>(some [])
def F46:=zDr D1C [D9q] [13,15] [0,0,0,0,0,0,48,112,0,0,768,1792,4083,8179,16383,32767] [0,1,2,3,4,5,6,7,8,9,10,11,12] (.o 13 [14] [] (.o 15 [] [] .f))
def F9y:=B3 D1C [[E24],[E25],[E24,E25,A70],[A70,C1N],[D9q,C1O],[D9r],[C1O,D9r,A71],[C1N,A71,A7z],[A7z,C1M],[C1M,C1L],[C1L,C1K]]
end
end Go.Vab

namespace Go.Vab
open Go Go.Proofs
noncomputable section
def D1D:Ctx:=⟨fun _ _ _ => none,TT,28,[4,5,6,7,8,10,11,12,13,14,15,16,17,18,19,20,21,22,23,24,25,26,27]⟩
def C1P:=B8 Tryz.f143
def C1Q:=cR C1P
def C1R:=cB C1Q
def A72:=cB C1R
def C1S:=cL A72
def A73:=cR C1S
def E26:=cL A73
def E27:=cR A73
def A74:=cR A72
def C1T:=cL A74
def D9s:=cB C1T
def D9t:=cR A74
def G1J:=zQ1 D1D 143 Tryz.f143 C1P fun s=>(some [])
def F47:=zDr D1D [D9s] [13,15] [0,0,0,0,0,0,48,112,0,0,768,1792,4083,8179,16383,32767] [0,1,2,3,4,5,6,7,8,9,10,11,12] (.o 13 [14] [] (.o 15 [] [] .f))
def F9z:=B3 D1D [[E26],[E27],[E26,E27,A73],[A73,C1S],[D9s,C1T],[D9t],[C1T,D9t,A74],[C1S,A74,A72],[A72,C1R],[C1R,C1Q],[C1Q,C1P]]
end
end Go.Vab

namespace Go.Vab
open Go Go.Proofs
noncomputable section
def F0D:Ctx:=⟨fun _ _ _ => none,TT,14,[4,5,6,7,8,9,10,11,12,13]⟩
def C1U:=B8 Tryz.f138
def C1V:=cR C1U
def E28:=cR C1V
def G1K:=zQ2 F0D 138 Tryz.f138 C1U fun s=>(some [])
def F90:=B3 F0D [[E28],[E28,C1V],[C1V,C1U]]
end
end Go.Vab

namespace Go.Vab
open Go Go.Proofs
noncomputable section
def F0E:Ctx:=⟨fun _ _ _ => none,TT,14,[4,5,6,7,8,9,10,11,12,13]⟩
def C1W:=B8 Tryz.f134
def C1X:=cR C1W
def E29:=cR C1X
def G1L:=zQ2 F0E 134 Tryz.f134 C1W fun s=>(some [])
def F91:=B3 F0E [[E29],[E29,C1X],[C1X,C1W]]
end
end Go.Vab

namespace Go.Vab
open Go Go.Proofs
noncomputable section
def F0F:Ctx:=⟨fun _ _ _ => none,TT,14,[4,5,6,7,8,9,10,11,12,13]⟩
def C1Y:=B8 Tryz.f135
def C1Z:=cR C1Y
def E3A:=cR C1Z
def G1M:=zQ2 F0F 135 Tryz.f135 C1Y fun s=>(some [])
def F92:=B3 F0F [[E3A],[E3A,C1Z],[C1Z,C1Y]]
end
end Go.Vab

namespace Go.Vab
open Go Go.Proofs
noncomputable section
def F0G:Ctx:=⟨fun _ _ _ => none,TT,14,[4,5,6,7,8,9,10,11,12,13]⟩
def C1a:=B8 Tryz.f141
def C1b:=cR C1a
def E3B:=cR C1b
def G1N:=zQ2 F0G 141 Tryz.f141 C1a fun s=>(some [])
def F93:=B3 F0G [[E3B],[E3B,C1b],[C1b,C1a]]
end
end Go.Vab

namespace Go.Vab
open Go Go.Proofs
noncomputable section
def F0H:Ctx:=⟨fun _ _ _ => none,TT,10,[4,5,6,7,8,9]⟩
def E3C:=B8 Tryz.f133
def G1O:=zQ2 F0H 133 Tryz.f133 E3C fun s=>(some [])
def F94:=B3 F0H [[E3C]]
end
end Go.Vab

namespace Go.Vab
open Go Go.Proofs
noncomputable section
def F0I:Ctx:=⟨fun _ _ _ => none,TT,10,[4,5,6,7,8,9]⟩
def E3D:=B8 Tryz.f125
def G1P:=zQ2 F0I 125 Tryz.f125 E3D fun s=>(some [])
def F95:=B3 F0I [[E3D]]
end
end Go.Vab

namespace Go.Vab
open Go Go.Proofs
noncomputable section
def F0J:Ctx:=⟨fun _ _ _ => none,TT,10,[4,5,6,7,8,9]⟩
def E3E:=B8 Tryz.f127
def G1Q:=zQ2 F0J 127 Tryz.f127 E3E fun s=>(some [])
def F96:=B3 F0J [[E3E]]
end
end Go.Vab

namespace Go.Vab
open Go Go.Proofs
noncomputable section
def F0K:Ctx:=⟨fun _ _ _ => none,TT,10,[4,5,6,7,8,9]⟩
def E3F:=B8 Tryz.f137
def G1R:=zQ2 F0K 137 Tryz.f137 E3F fun s=>(some [])
def F97:=B3 F0K [[E3F]]
end
end Go.Vab
