/-
  slices.Reverse, rotateLeft, rotateRight, overlaps, walked.
-/
import Derived.Test.YtjoepfedeidgaaaGreatV2
import Derived.Test.YtjoepfedeidgaaaGreatV3
set_option linter.all false
set_option linter.unusedSectionVars false
set_option maxHeartbeats 8000000
set_option maxRecDepth 20000
namespace Go.Vab
open Go Go.Proofs
theorem A5H {G X:Prop} (f:Hd X→G:=by
 intro xX
 repeat' (first|refine stp (x:=?_)|(simp (decide:=true) only [F9w,snB,if_true,if_false])|(with_reducible refine F44 _ _ _ ?_))
 exact xX.get) (x:X):G:=f ⟨x⟩
theorem A5I {G X:Prop} (f:Hd X→G:=by
 intro xX
 repeat' (first|refine stp (x:=?_)|(simp (decide:=true) only [F90,snB,if_true,if_false]))
 exact xX.get) (x:X):G:=f ⟨x⟩
theorem D82 {G X:Prop} (f:Hd X→G:=by
 intro xX
 repeat' (first|refine stp (x:=?_)|(simp (decide:=true) only [F94,snB,if_true,if_false]))
 exact xX.get) (x:X):G:=f ⟨x⟩
theorem A5J {G X:Prop} (f:Hd X→G:=by
 intro xX
 repeat' (first|refine stp (x:=?_)|(simp (decide:=true) only [F9x,snB,if_true,if_false])|(with_reducible refine F45 _ _ _ ?_))
 exact xX.get) (x:X):G:=f ⟨x⟩
theorem A5K {G X:Prop} (f:Hd X→G:=by
 intro xX
 repeat' (first|refine stp (x:=?_)|(simp (decide:=true) only [F91,snB,if_true,if_false]))
 exact xX.get) (x:X):G:=f ⟨x⟩
theorem D83 {G X:Prop} (f:Hd X→G:=by
 intro xX
 repeat' (first|refine stp (x:=?_)|(simp (decide:=true) only [F95,snB,if_true,if_false]))
 exact xX.get) (x:X):G:=f ⟨x⟩
theorem A5L {G X:Prop} (f:Hd X→G:=by
 intro xX
 repeat' (first|refine stp (x:=?_)|(simp (decide:=true) only [F9y,snB,if_true,if_false])|(with_reducible refine F46 _ _ _ ?_))
 exact xX.get) (x:X):G:=f ⟨x⟩
theorem A5M {G X:Prop} (f:Hd X→G:=by
 intro xX
 repeat' (first|refine stp (x:=?_)|(simp (decide:=true) only [F92,snB,if_true,if_false]))
 exact xX.get) (x:X):G:=f ⟨x⟩
theorem D84 {G X:Prop} (f:Hd X→G:=by
 intro xX
 repeat' (first|refine stp (x:=?_)|(simp (decide:=true) only [F96,snB,if_true,if_false]))
 exact xX.get) (x:X):G:=f ⟨x⟩
theorem A5N {G X:Prop} (f:Hd X→G:=by
 intro xX
 repeat' (first|refine stp (x:=?_)|(simp (decide:=true) only [F9z,snB,if_true,if_false])|(with_reducible refine F47 _ _ _ ?_))
 exact xX.get) (x:X):G:=f ⟨x⟩
theorem A4q {G X:Prop} (f:Hd X→G:=by
 intro xX
 repeat' (first|refine stp (x:=?_)|(simp (decide:=true) only [F93,snB,if_true,if_false]))
 exact xX.get) (x:X):G:=f ⟨x⟩
theorem D79 {G X:Prop} (f:Hd X→G:=by
 intro xX
 repeat' (first|refine stp (x:=?_)|(simp (decide:=true) only [F97,snB,if_true,if_false]))
 exact xX.get) (x:X):G:=f ⟨x⟩
attribute [local irreducible] E9 Evs gW D9 E8 G5
theorem G1S {H : A3} {b1 b2 o1 n1 c1 o2 n2 c2 : Nat} {v1 v2 r1 r2 y : AV} (hb1 : H[b1]? = some ⟨v1, 0, .own⟩) (hb2 : H[b2]? = some ⟨v2, 0, .own⟩) (hne : b1 ≠ b2) (hy : y = .slice b2 0 [] A7 o2 n2 (some c2))
  (e1:C7 A7 (.slice b1 0 [] A7 o1 n1 (some c1)) H=some r1) (e2:C7 A7 (.slice b2 0 [] A7 o2 n2 (some c2)) H=some r2) (h1:n1≠0) (h2:n2≠0):SpecQ Tryz.prog 132 [.slice b1 0 [] A7 o1 n1 (some c1),y] H fun r=>∃ v,r=(.bool v,H):=by
 subst hy
 exact A5D Z8 (fn:=Tryz.f132) (by kernel_rfl) (by kernel_rfl) (by kernel_rfl) (by rfl) (tS:=32) (tR:=4) (e:=73) (by kernel_rfl) (i:=⟨.cell,24,.nilslice,some 73,none,false,none,false⟩) rfl rfl rfl hb1 hb2 hne e1 e2 h1 h2 (by simp)
theorem c142 {H:A3} {b off n c:Nat} {A M B:List Seat} (hb:H[b]?=some ⟨.node ((A++M++B).map B0),0,.own⟩) (ho:off=A.length) (hM:n=M.length) (h0:0 < n) (hl:off+n≤2000):SpecQ Tryz.prog 142 [.slice b 0 [] A7 off n (some c)] H fun r=>∃ v,r=(v,H.set b ⟨.node ((A++M.reverse++B).map B0),0,.own⟩):=by
 have e1:A++M.reverse++B=A0w off n (A++M++B):=by rw [ho,hM,A4p]
 rw [e1]
 have hon:off+n≤(A++M++B).length:=by simp;omega
 generalize A++M++B=xs at hb hon
 refine G1G fun env g0=>?_
 have lx:L9 (.slice b 0 [] A7 off n (some c))=some (nat n):=rfl
 have sb:C6 .sub (nat n) (nat 1)=some (nat (n - 1)):=S2 (by omega) (by omega)
 have ff:=aI3 g0 lx sb
 refine A5H (x:=?_)
 clear ff
 have hlt:=(List.getElem?_eq_some_iff.1 hb).1
 refine G0 (n / 2) (fun i st=>∃ env' G ys,st=⟨env',G⟩∧G=H.set b ⟨.node (ys.map B0),0,.own⟩∧RevI off n i xs ys∧env'.get 0=.slice b 0 [] A7 off n (some c)∧env'.get 2=nat i∧env'.get 3=nat (n - 1 - i)) ?_ ?_ ⟨_,_,xs,rfl,(A0K hb).symm,RevI.zero _ _ _,by simp [g0],by simp,by simp⟩
 ·rintro i st hi ⟨env',G,ys,rfl,hG,hR,e0,e2,e3⟩
  have hly:=hR.1
  obtain ⟨pi,a1,a2,a3⟩:=A0v (t:=A7) (E:=B0) (b:=b) (c:=some c) (off:=off) (n:=n) (i:=i) (m:=xs.length) (by omega) hon
  obtain ⟨pj,b1,b2,b3⟩:=A0v (t:=A7) (E:=B0) (b:=b) (c:=some c) (off:=off) (n:=n) (i:=n - 1 - i) (m:=xs.length) (by omega) hon
  obtain ⟨za,hza⟩:∃ z,ys[off+i]?=some z:=⟨_,List.getElem?_eq_getElem (by omega)⟩
  obtain ⟨zb,hzb⟩:∃ z,ys[off+(n - 1 - i)]?=some z:=⟨_,List.getElem?_eq_getElem (by omega)⟩
  have hGb:G[b]?=some ⟨.node (ys.map B0),0,.own⟩:=by rw [hG,List.getElem?_set_self hlt]
  have l1:=a2 G ys hGb hly za hza
  have l2:=b2 G ys hGb hly zb hzb
  have s1:=a3 G ys zb hGb hly (by simp)
  obtain ⟨G1,h1⟩:∃ G1,G1=G.set b ⟨.node ((ys.set (off+i) zb).map B0),0,.own⟩:=⟨_,rfl⟩
  rw [←h1] at s1
  have hGb1:G1[b]?=some ⟨.node ((ys.set (off+i) zb).map B0),0,.own⟩:=by rw [h1,List.getElem?_set_self (by rw [hG,List.length_set];exact hlt)]
  have s2:=b3 G1 (ys.set (off+i) zb) za hGb1 (by simpa using hly) (by simp)
  obtain ⟨G2,h2⟩:∃ G2,G2=G1.set b ⟨.node (((ys.set (off+i) zb).set (off+(n - 1 - i)) za).map B0),0,.own⟩:=⟨_,rfl⟩
  rw [←h2] at s2
  have hij:i < n - 1 - i:=by omega
  have sb2:C6 .sub (nat (n - 1 - i)) (nat 1)=some (nat (n - 1 - i - 1)):=S2 (by omega) (by omega)
  have ff:=D8 e0 e2 e3 hij a1 b1 l1 l2 s1 s2 sb2
  refine A5H (x:=?_)
  clear ff
  exact .inl ⟨by simp,_,G2,(ys.set (off+i) zb).set (off+(n - 1 - i)) za,rfl,by rw [h2,h1,hG,List.set_set,List.set_set],hR.step (by omega) hon hza hzb,by simp [e0],by simp,by rw [show n - 1 - (i+1)=n - 1 - i - 1 by omega];simp⟩
 ·rintro st ⟨env',G,ys,rfl,hG,hR,e0,e2,e3⟩
  have hij:¬ n / 2 < n - 1 - n / 2:=by omega
  have ff:=aI4 e0 e2 e3 hij
  refine A5H (x:=?_)
  clear ff
  refine ⟨by simp,?_⟩
  have ff:=aI4 e0 e2 e3 hij
  refine A5H (x:=?_)
  clear ff
  exact ⟨_,by rw [hG,hR.last hon]⟩
theorem G1T {H:A3} {b off n c r:Nat} {A M1 M2 B:List Seat} (hb:H[b]?=some ⟨.node ((A++(M1++M2)++B).map B0),0,.own⟩) (ho:off=A.length) (hr:r=M1.length) (hn:n=M1.length+M2.length) (h1:0 < M1.length) (h2:0 < M2.length) (hl:off+n≤2000) (hc:n≤c):SpecQ Tryz.prog 138 [.slice b 0 [] A7 off n (some c),nat r] H fun r=>∃ v,r=(v,H.set b ⟨.node ((A++(M2++M1)++B).map B0),0,.own⟩):=by
 have hlt:=(List.getElem?_eq_some_iff.1 hb).1
 refine G1K fun env g0 g1=>?_
 obtain ⟨y1,f1,k1⟩:∃ y,C9 A7 (.slice b 0 [] A7 off n (some c)) none (some (nat r)) none=some y∧y=.slice b 0 [] A7 off r (some c):=⟨_,T6 (by omega),rfl⟩
 obtain ⟨y2,f2,k2⟩:∃ y,C9 A7 (.slice b 0 [] A7 off n (some c)) (some (nat r)) none none=some y∧y=.slice b 0 [] A7 (off+r) (n - r) (some (c - r)):=⟨_,K2 (by omega),rfl⟩
 have ff:=aI3 g0 g1 f1
 refine A5I (x:=?_)
 clear ff
 rw [k1]
 refine SpecQ.step (c142 (A:=A) (M:=M1) (B:=M2++B) (by simpa using hb) ho hr (by omega) (by omega)) ?_
 rintro _ ⟨v,rfl⟩
 obtain ⟨G1,q1⟩:∃ G1,G1=H.set b ⟨.node ((A++M1.reverse++(M2++B)).map B0),0,.own⟩:=⟨_,rfl⟩
 rw [←q1]
 have ff:=aI3 g0 g1 f2
 refine A5I (x:=?_)
 clear ff
 rw [k2]
 refine SpecQ.step (c142 (A:=A++M1.reverse) (M:=M2) (B:=B) (by rw [q1,List.getElem?_set_self hlt];simp) (by simp;omega) (by omega) (by omega) (by omega)) ?_
 rintro _ ⟨v,rfl⟩
 obtain ⟨G2,q2⟩:∃ G2,G2=G1.set b ⟨.node ((A++M1.reverse++M2.reverse++B).map B0),0,.own⟩:=⟨_,rfl⟩
 rw [←q2]
 have ff:=aI g0 g1
 refine A5I (x:=?_)
 clear ff
 refine SpecQ.step (c142 (A:=A) (M:=M1.reverse++M2.reverse) (B:=B) (by rw [q2,List.getElem?_set_self (by rw [q1,List.length_set];exact hlt)];simp) ho (by simp;omega) (by omega) (by omega)) ?_
 rintro _ ⟨v,rfl⟩
 obtain ⟨G3,q3⟩:∃ G3,G3=G2.set b ⟨.node ((A++(M1.reverse++M2.reverse).reverse++B).map B0),0,.own⟩:=⟨_,rfl⟩
 rw [←q3]
 have ff:=aI g0 g1
 refine A5I (x:=?_)
 clear ff
 refine ⟨_,Prod.ext rfl ?_⟩
 show G3 = _
 rw [q3,q2,q1,List.set_set,List.set_set]
 simp
theorem G1U {H:A3} {b off n c:Nat} {A M B:List Seat} {e:Seat} (hb:H[b]?=some ⟨.node ((A++(M++[e])++B).map B0),0,.own⟩) (ho:off=A.length) (hn:n=M.length+1) (h1:0 < M.length) (hl:off+n≤2000) (hc:n≤c):SpecQ Tryz.prog 133 [.slice b 0 [] A7 off n (some c),nat 1] H fun r=>∃ v,r=(v,H.set b ⟨.node ((A++(e::M)++B).map B0),0,.own⟩):=by
 refine G1O fun env g0 g1=>?_
 have lx:L9 (.slice b 0 [] A7 off n (some c))=some (nat n):=rfl
 have sb:C6 .sub (nat n) (nat 1)=some (nat (n - 1)):=S2 (by omega) (by omega)
 have ff:=aI4 g0 g1 lx sb
 refine D82 (x:=?_)
 clear ff
 refine SpecQ.step (G1T (A:=A) (M1:=M) (M2:=[e]) (B:=B) hb ho (by omega) (by simp;omega) h1 (by simp) hl hc) ?_
 rintro _ ⟨v,rfl⟩
 obtain ⟨G3,q3⟩:∃ G3,G3=H.set b ⟨.node ((A++([e]++M)++B).map B0),0,.own⟩:=⟨_,rfl⟩
 rw [←q3]
 have ff:=aI g0 g1
 refine D82 (x:=?_)
 clear ff
 refine ⟨_,Prod.ext rfl ?_⟩
 show G3 = _
 rw [q3];rfl
theorem G1V {H : A3} {b1 b2 o1 n1 c1 o2 n2 c2 : Nat} {v1 v2 r1 r2 y : AV} (hb1 : H[b1]? = some ⟨v1, 0, .own⟩) (hb2 : H[b2]? = some ⟨v2, 0, .own⟩) (hne : b1 ≠ b2) (hy : y = .slice b2 0 [] B1 o2 n2 (some c2))
  (e1:C7 B1 (.slice b1 0 [] B1 o1 n1 (some c1)) H=some r1) (e2:C7 B1 (.slice b2 0 [] B1 o2 n2 (some c2)) H=some r2) (h1:n1≠0) (h2:n2≠0):SpecQ Tryz.prog 124 [.slice b1 0 [] B1 o1 n1 (some c1),y] H fun r=>∃ v,r=(.bool v,H):=by
 subst hy
 exact A5D Z8 (fn:=Tryz.f124) (by kernel_rfl) (by kernel_rfl) (by kernel_rfl) (by rfl) (tS:=33) (tR:=4) (e:=82) (by kernel_rfl) (i:=⟨.cell,24,.nilslice,some 82,none,false,none,false⟩) rfl rfl rfl hb1 hb2 hne e1 e2 h1 h2 (by simp)
theorem D6K {H:A3} {b off n c:Nat} {A M B:List Inv} (hb:H[b]?=some ⟨.node ((A++M++B).map B7),0,.own⟩) (ho:off=A.length) (hM:n=M.length) (h0:0 < n) (hl:off+n≤2000):SpecQ Tryz.prog 139 [.slice b 0 [] B1 off n (some c)] H fun r=>∃ v,r=(v,H.set b ⟨.node ((A++M.reverse++B).map B7),0,.own⟩):=by
 have e1:A++M.reverse++B=A0w off n (A++M++B):=by rw [ho,hM,A4p]
 rw [e1]
 have hon:off+n≤(A++M++B).length:=by simp;omega
 generalize A++M++B=xs at hb hon
 refine G1H fun env g0=>?_
 have lx:L9 (.slice b 0 [] B1 off n (some c))=some (nat n):=rfl
 have sb:C6 .sub (nat n) (nat 1)=some (nat (n - 1)):=S2 (by omega) (by omega)
 have ff:=aI3 g0 lx sb
 refine A5J (x:=?_)
 clear ff
 have hlt:=(List.getElem?_eq_some_iff.1 hb).1
 refine G0 (n / 2) (fun i st=>∃ env' G ys,st=⟨env',G⟩∧G=H.set b ⟨.node (ys.map B7),0,.own⟩∧RevI off n i xs ys∧env'.get 0=.slice b 0 [] B1 off n (some c)∧env'.get 2=nat i∧env'.get 3=nat (n - 1 - i)) ?_ ?_ ⟨_,_,xs,rfl,(A0K hb).symm,RevI.zero _ _ _,by simp [g0],by simp,by simp⟩
 ·rintro i st hi ⟨env',G,ys,rfl,hG,hR,e0,e2,e3⟩
  have hly:=hR.1
  obtain ⟨pi,a1,a2,a3⟩:=A0v (t:=B1) (E:=B7) (b:=b) (c:=some c) (off:=off) (n:=n) (i:=i) (m:=xs.length) (by omega) hon
  obtain ⟨pj,b1,b2,b3⟩:=A0v (t:=B1) (E:=B7) (b:=b) (c:=some c) (off:=off) (n:=n) (i:=n - 1 - i) (m:=xs.length) (by omega) hon
  obtain ⟨za,hza⟩:∃ z,ys[off+i]?=some z:=⟨_,List.getElem?_eq_getElem (by omega)⟩
  obtain ⟨zb,hzb⟩:∃ z,ys[off+(n - 1 - i)]?=some z:=⟨_,List.getElem?_eq_getElem (by omega)⟩
  have hGb:G[b]?=some ⟨.node (ys.map B7),0,.own⟩:=by rw [hG,List.getElem?_set_self hlt]
  have l1:=a2 G ys hGb hly za hza
  have l2:=b2 G ys hGb hly zb hzb
  have s1:=a3 G ys zb hGb hly (by simp)
  obtain ⟨G1,h1⟩:∃ G1,G1=G.set b ⟨.node ((ys.set (off+i) zb).map B7),0,.own⟩:=⟨_,rfl⟩
  rw [←h1] at s1
  have hGb1:G1[b]?=some ⟨.node ((ys.set (off+i) zb).map B7),0,.own⟩:=by rw [h1,List.getElem?_set_self (by rw [hG,List.length_set];exact hlt)]
  have s2:=b3 G1 (ys.set (off+i) zb) za hGb1 (by simpa using hly) (by simp)
  obtain ⟨G2,h2⟩:∃ G2,G2=G1.set b ⟨.node (((ys.set (off+i) zb).set (off+(n - 1 - i)) za).map B7),0,.own⟩:=⟨_,rfl⟩
  rw [←h2] at s2
  have hij:i < n - 1 - i:=by omega
  have sb2:C6 .sub (nat (n - 1 - i)) (nat 1)=some (nat (n - 1 - i - 1)):=S2 (by omega) (by omega)
  have ff:=D8 e0 e2 e3 hij a1 b1 l1 l2 s1 s2 sb2
  refine A5J (x:=?_)
  clear ff
  exact .inl ⟨by simp,_,G2,(ys.set (off+i) zb).set (off+(n - 1 - i)) za,rfl,by rw [h2,h1,hG,List.set_set,List.set_set],hR.step (by omega) hon hza hzb,by simp [e0],by simp,by rw [show n - 1 - (i+1)=n - 1 - i - 1 by omega];simp⟩
 ·rintro st ⟨env',G,ys,rfl,hG,hR,e0,e2,e3⟩
  have hij:¬ n / 2 < n - 1 - n / 2:=by omega
  have ff:=aI4 e0 e2 e3 hij
  refine A5J (x:=?_)
  clear ff
  refine ⟨by simp,?_⟩
  have ff:=aI4 e0 e2 e3 hij
  refine A5J (x:=?_)
  clear ff
  exact ⟨_,by rw [hG,hR.last hon]⟩
theorem G1W {H:A3} {b off n c r:Nat} {A M1 M2 B:List Inv} (hb:H[b]?=some ⟨.node ((A++(M1++M2)++B).map B7),0,.own⟩) (ho:off=A.length) (hr:r=M1.length) (hn:n=M1.length+M2.length) (h1:0 < M1.length) (h2:0 < M2.length) (hl:off+n≤2000) (hc:n≤c):SpecQ Tryz.prog 134 [.slice b 0 [] B1 off n (some c),nat r] H fun r=>∃ v,r=(v,H.set b ⟨.node ((A++(M2++M1)++B).map B7),0,.own⟩):=by
 have hlt:=(List.getElem?_eq_some_iff.1 hb).1
 refine G1L fun env g0 g1=>?_
 obtain ⟨y1,f1,k1⟩:∃ y,C9 B1 (.slice b 0 [] B1 off n (some c)) none (some (nat r)) none=some y∧y=.slice b 0 [] B1 off r (some c):=⟨_,T6 (by omega),rfl⟩
 obtain ⟨y2,f2,k2⟩:∃ y,C9 B1 (.slice b 0 [] B1 off n (some c)) (some (nat r)) none none=some y∧y=.slice b 0 [] B1 (off+r) (n - r) (some (c - r)):=⟨_,K2 (by omega),rfl⟩
 have ff:=aI3 g0 g1 f1
 refine A5K (x:=?_)
 clear ff
 rw [k1]
 refine SpecQ.step (D6K (A:=A) (M:=M1) (B:=M2++B) (by simpa using hb) ho hr (by omega) (by omega)) ?_
 rintro _ ⟨v,rfl⟩
 obtain ⟨G1,q1⟩:∃ G1,G1=H.set b ⟨.node ((A++M1.reverse++(M2++B)).map B7),0,.own⟩:=⟨_,rfl⟩
 rw [←q1]
 have ff:=aI3 g0 g1 f2
 refine A5K (x:=?_)
 clear ff
 rw [k2]
 refine SpecQ.step (D6K (A:=A++M1.reverse) (M:=M2) (B:=B) (by rw [q1,List.getElem?_set_self hlt];simp) (by simp;omega) (by omega) (by omega) (by omega)) ?_
 rintro _ ⟨v,rfl⟩
 obtain ⟨G2,q2⟩:∃ G2,G2=G1.set b ⟨.node ((A++M1.reverse++M2.reverse++B).map B7),0,.own⟩:=⟨_,rfl⟩
 rw [←q2]
 have ff:=aI g0 g1
 refine A5K (x:=?_)
 clear ff
 refine SpecQ.step (D6K (A:=A) (M:=M1.reverse++M2.reverse) (B:=B) (by rw [q2,List.getElem?_set_self (by rw [q1,List.length_set];exact hlt)];simp) ho (by simp;omega) (by omega) (by omega)) ?_
 rintro _ ⟨v,rfl⟩
 obtain ⟨G3,q3⟩:∃ G3,G3=G2.set b ⟨.node ((A++(M1.reverse++M2.reverse).reverse++B).map B7),0,.own⟩:=⟨_,rfl⟩
 rw [←q3]
 have ff:=aI g0 g1
 refine A5K (x:=?_)
 clear ff
 refine ⟨_,Prod.ext rfl ?_⟩
 show G3 = _
 rw [q3,q2,q1,List.set_set,List.set_set]
 simp
theorem G1X {H:A3} {b off n c:Nat} {A M B:List Inv} {e:Inv} (hb:H[b]?=some ⟨.node ((A++(M++[e])++B).map B7),0,.own⟩) (ho:off=A.length) (hn:n=M.length+1) (h1:0 < M.length) (hl:off+n≤2000) (hc:n≤c):SpecQ Tryz.prog 125 [.slice b 0 [] B1 off n (some c),nat 1] H fun r=>∃ v,r=(v,H.set b ⟨.node ((A++(e::M)++B).map B7),0,.own⟩):=by
 refine G1P fun env g0 g1=>?_
 have lx:L9 (.slice b 0 [] B1 off n (some c))=some (nat n):=rfl
 have sb:C6 .sub (nat n) (nat 1)=some (nat (n - 1)):=S2 (by omega) (by omega)
 have ff:=aI4 g0 g1 lx sb
 refine D83 (x:=?_)
 clear ff
 refine SpecQ.step (G1W (A:=A) (M1:=M) (M2:=[e]) (B:=B) hb ho (by omega) (by simp;omega) h1 (by simp) hl hc) ?_
 rintro _ ⟨v,rfl⟩
 obtain ⟨G3,q3⟩:∃ G3,G3=H.set b ⟨.node ((A++([e]++M)++B).map B7),0,.own⟩:=⟨_,rfl⟩
 rw [←q3]
 have ff:=aI g0 g1
 refine D83 (x:=?_)
 clear ff
 refine ⟨_,Prod.ext rfl ?_⟩
 show G3 = _
 rw [q3];rfl
theorem G1Y {H : A3} {b1 b2 o1 n1 c1 o2 n2 c2 : Nat} {v1 v2 r1 r2 y : AV} (hb1 : H[b1]? = some ⟨v1, 0, .own⟩) (hb2 : H[b2]? = some ⟨v2, 0, .own⟩) (hne : b1 ≠ b2) (hy : y = .slice b2 0 [] B5 o2 n2 (some c2))
  (e1:C7 B5 (.slice b1 0 [] B5 o1 n1 (some c1)) H=some r1) (e2:C7 B5 (.slice b2 0 [] B5 o2 n2 (some c2)) H=some r2) (h1:n1≠0) (h2:n2≠0):SpecQ Tryz.prog 126 [.slice b1 0 [] B5 o1 n1 (some c1),y] H fun r=>∃ v,r=(.bool v,H):=by
 subst hy
 exact A5D Z8 (fn:=Tryz.f126) (by kernel_rfl) (by kernel_rfl) (by kernel_rfl) (by rfl) (tS:=34) (tR:=4) (e:=84) (by kernel_rfl) (i:=⟨.cell,24,.nilslice,some 84,none,false,none,false⟩) rfl rfl rfl hb1 hb2 hne e1 e2 h1 h2 (by simp)
theorem D6L {H:A3} {b off n c:Nat} {A M B:List Ask} (hb:H[b]?=some ⟨.node ((A++M++B).map B9),0,.own⟩) (ho:off=A.length) (hM:n=M.length) (h0:0 < n) (hl:off+n≤2000):SpecQ Tryz.prog 140 [.slice b 0 [] B5 off n (some c)] H fun r=>∃ v,r=(v,H.set b ⟨.node ((A++M.reverse++B).map B9),0,.own⟩):=by
 have e1:A++M.reverse++B=A0w off n (A++M++B):=by rw [ho,hM,A4p]
 rw [e1]
 have hon:off+n≤(A++M++B).length:=by simp;omega
 generalize A++M++B=xs at hb hon
 refine G1I fun env g0=>?_
 have lx:L9 (.slice b 0 [] B5 off n (some c))=some (nat n):=rfl
 have sb:C6 .sub (nat n) (nat 1)=some (nat (n - 1)):=S2 (by omega) (by omega)
 have ff:=aI3 g0 lx sb
 refine A5L (x:=?_)
 clear ff
 have hlt:=(List.getElem?_eq_some_iff.1 hb).1
 refine G0 (n / 2) (fun i st=>∃ env' G ys,st=⟨env',G⟩∧G=H.set b ⟨.node (ys.map B9),0,.own⟩∧RevI off n i xs ys∧env'.get 0=.slice b 0 [] B5 off n (some c)∧env'.get 2=nat i∧env'.get 3=nat (n - 1 - i)) ?_ ?_ ⟨_,_,xs,rfl,(A0K hb).symm,RevI.zero _ _ _,by simp [g0],by simp,by simp⟩
 ·rintro i st hi ⟨env',G,ys,rfl,hG,hR,e0,e2,e3⟩
  have hly:=hR.1
  obtain ⟨pi,a1,a2,a3⟩:=A0v (t:=B5) (E:=B9) (b:=b) (c:=some c) (off:=off) (n:=n) (i:=i) (m:=xs.length) (by omega) hon
  obtain ⟨pj,b1,b2,b3⟩:=A0v (t:=B5) (E:=B9) (b:=b) (c:=some c) (off:=off) (n:=n) (i:=n - 1 - i) (m:=xs.length) (by omega) hon
  obtain ⟨za,hza⟩:∃ z,ys[off+i]?=some z:=⟨_,List.getElem?_eq_getElem (by omega)⟩
  obtain ⟨zb,hzb⟩:∃ z,ys[off+(n - 1 - i)]?=some z:=⟨_,List.getElem?_eq_getElem (by omega)⟩
  have hGb:G[b]?=some ⟨.node (ys.map B9),0,.own⟩:=by rw [hG,List.getElem?_set_self hlt]
  have l1:=a2 G ys hGb hly za hza
  have l2:=b2 G ys hGb hly zb hzb
  have s1:=a3 G ys zb hGb hly (by simp)
  obtain ⟨G1,h1⟩:∃ G1,G1=G.set b ⟨.node ((ys.set (off+i) zb).map B9),0,.own⟩:=⟨_,rfl⟩
  rw [←h1] at s1
  have hGb1:G1[b]?=some ⟨.node ((ys.set (off+i) zb).map B9),0,.own⟩:=by rw [h1,List.getElem?_set_self (by rw [hG,List.length_set];exact hlt)]
  have s2:=b3 G1 (ys.set (off+i) zb) za hGb1 (by simpa using hly) (by simp)
  obtain ⟨G2,h2⟩:∃ G2,G2=G1.set b ⟨.node (((ys.set (off+i) zb).set (off+(n - 1 - i)) za).map B9),0,.own⟩:=⟨_,rfl⟩
  rw [←h2] at s2
  have hij:i < n - 1 - i:=by omega
  have sb2:C6 .sub (nat (n - 1 - i)) (nat 1)=some (nat (n - 1 - i - 1)):=S2 (by omega) (by omega)
  have ff:=D8 e0 e2 e3 hij a1 b1 l1 l2 s1 s2 sb2
  refine A5L (x:=?_)
  clear ff
  exact .inl ⟨by simp,_,G2,(ys.set (off+i) zb).set (off+(n - 1 - i)) za,rfl,by rw [h2,h1,hG,List.set_set,List.set_set],hR.step (by omega) hon hza hzb,by simp [e0],by simp,by rw [show n - 1 - (i+1)=n - 1 - i - 1 by omega];simp⟩
 ·rintro st ⟨env',G,ys,rfl,hG,hR,e0,e2,e3⟩
  have hij:¬ n / 2 < n - 1 - n / 2:=by omega
  have ff:=aI4 e0 e2 e3 hij
  refine A5L (x:=?_)
  clear ff
  refine ⟨by simp,?_⟩
  have ff:=aI4 e0 e2 e3 hij
  refine A5L (x:=?_)
  clear ff
  exact ⟨_,by rw [hG,hR.last hon]⟩
theorem G1Z {H:A3} {b off n c r:Nat} {A M1 M2 B:List Ask} (hb:H[b]?=some ⟨.node ((A++(M1++M2)++B).map B9),0,.own⟩) (ho:off=A.length) (hr:r=M1.length) (hn:n=M1.length+M2.length) (h1:0 < M1.length) (h2:0 < M2.length) (hl:off+n≤2000) (hc:n≤c):SpecQ Tryz.prog 135 [.slice b 0 [] B5 off n (some c),nat r] H fun r=>∃ v,r=(v,H.set b ⟨.node ((A++(M2++M1)++B).map B9),0,.own⟩):=by
 have hlt:=(List.getElem?_eq_some_iff.1 hb).1
 refine G1M fun env g0 g1=>?_
 obtain ⟨y1,f1,k1⟩:∃ y,C9 B5 (.slice b 0 [] B5 off n (some c)) none (some (nat r)) none=some y∧y=.slice b 0 [] B5 off r (some c):=⟨_,T6 (by omega),rfl⟩
 obtain ⟨y2,f2,k2⟩:∃ y,C9 B5 (.slice b 0 [] B5 off n (some c)) (some (nat r)) none none=some y∧y=.slice b 0 [] B5 (off+r) (n - r) (some (c - r)):=⟨_,K2 (by omega),rfl⟩
 have ff:=aI3 g0 g1 f1
 refine A5M (x:=?_)
 clear ff
 rw [k1]
 refine SpecQ.step (D6L (A:=A) (M:=M1) (B:=M2++B) (by simpa using hb) ho hr (by omega) (by omega)) ?_
 rintro _ ⟨v,rfl⟩
 obtain ⟨G1,q1⟩:∃ G1,G1=H.set b ⟨.node ((A++M1.reverse++(M2++B)).map B9),0,.own⟩:=⟨_,rfl⟩
 rw [←q1]
 have ff:=aI3 g0 g1 f2
 refine A5M (x:=?_)
 clear ff
 rw [k2]
 refine SpecQ.step (D6L (A:=A++M1.reverse) (M:=M2) (B:=B) (by rw [q1,List.getElem?_set_self hlt];simp) (by simp;omega) (by omega) (by omega) (by omega)) ?_
 rintro _ ⟨v,rfl⟩
 obtain ⟨G2,q2⟩:∃ G2,G2=G1.set b ⟨.node ((A++M1.reverse++M2.reverse++B).map B9),0,.own⟩:=⟨_,rfl⟩
 rw [←q2]
 have ff:=aI g0 g1
 refine A5M (x:=?_)
 clear ff
 refine SpecQ.step (D6L (A:=A) (M:=M1.reverse++M2.reverse) (B:=B) (by rw [q2,List.getElem?_set_self (by rw [q1,List.length_set];exact hlt)];simp) ho (by simp;omega) (by omega) (by omega)) ?_
 rintro _ ⟨v,rfl⟩
 obtain ⟨G3,q3⟩:∃ G3,G3=G2.set b ⟨.node ((A++(M1.reverse++M2.reverse).reverse++B).map B9),0,.own⟩:=⟨_,rfl⟩
 rw [←q3]
 have ff:=aI g0 g1
 refine A5M (x:=?_)
 clear ff
 refine ⟨_,Prod.ext rfl ?_⟩
 show G3 = _
 rw [q3,q2,q1,List.set_set,List.set_set]
 simp
theorem G1a {H:A3} {b off n c:Nat} {A M B:List Ask} {e:Ask} (hb:H[b]?=some ⟨.node ((A++(M++[e])++B).map B9),0,.own⟩) (ho:off=A.length) (hn:n=M.length+1) (h1:0 < M.length) (hl:off+n≤2000) (hc:n≤c):SpecQ Tryz.prog 127 [.slice b 0 [] B5 off n (some c),nat 1] H fun r=>∃ v,r=(v,H.set b ⟨.node ((A++(e::M)++B).map B9),0,.own⟩):=by
 refine G1Q fun env g0 g1=>?_
 have lx:L9 (.slice b 0 [] B5 off n (some c))=some (nat n):=rfl
 have sb:C6 .sub (nat n) (nat 1)=some (nat (n - 1)):=S2 (by omega) (by omega)
 have ff:=aI4 g0 g1 lx sb
 refine D84 (x:=?_)
 clear ff
 refine SpecQ.step (G1Z (A:=A) (M1:=M) (M2:=[e]) (B:=B) hb ho (by omega) (by simp;omega) h1 (by simp) hl hc) ?_
 rintro _ ⟨v,rfl⟩
 obtain ⟨G3,q3⟩:∃ G3,G3=H.set b ⟨.node ((A++([e]++M)++B).map B9),0,.own⟩:=⟨_,rfl⟩
 rw [←q3]
 have ff:=aI g0 g1
 refine D84 (x:=?_)
 clear ff
 refine ⟨_,Prod.ext rfl ?_⟩
 show G3 = _
 rw [q3];rfl
theorem G1b {H : A3} {b1 b2 o1 n1 c1 o2 n2 c2 : Nat} {v1 v2 r1 r2 y : AV} (hb1 : H[b1]? = some ⟨v1, 0, .own⟩) (hb2 : H[b2]? = some ⟨v2, 0, .own⟩) (hne : b1 ≠ b2) (hy : y = .slice b2 0 [] B4 o2 n2 (some c2))
  (e1:C7 B4 (.slice b1 0 [] B4 o1 n1 (some c1)) H=some r1) (e2:C7 B4 (.slice b2 0 [] B4 o2 n2 (some c2)) H=some r2) (h1:n1≠0) (h2:n2≠0):SpecQ Tryz.prog 136 [.slice b1 0 [] B4 o1 n1 (some c1),y] H fun r=>∃ v,r=(.bool v,H):=by
 subst hy
 exact A5D Z8 (fn:=Tryz.f136) (by kernel_rfl) (by kernel_rfl) (by kernel_rfl) (by rfl) (tS:=35) (tR:=4) (e:=86) (by kernel_rfl) (i:=⟨.cell,24,.nilslice,some 86,none,false,none,false⟩) rfl rfl rfl hb1 hb2 hne e1 e2 h1 h2 (by simp)
theorem c143 {H:A3} {b off n c:Nat} {A M B:List Ban} (hb:H[b]?=some ⟨.node ((A++M++B).map B2),0,.own⟩) (ho:off=A.length) (hM:n=M.length) (h0:0 < n) (hl:off+n≤2000):SpecQ Tryz.prog 143 [.slice b 0 [] B4 off n (some c)] H fun r=>∃ v,r=(v,H.set b ⟨.node ((A++M.reverse++B).map B2),0,.own⟩):=by
 have e1:A++M.reverse++B=A0w off n (A++M++B):=by rw [ho,hM,A4p]
 rw [e1]
 have hon:off+n≤(A++M++B).length:=by simp;omega
 generalize A++M++B=xs at hb hon
 refine G1J fun env g0=>?_
 have lx:L9 (.slice b 0 [] B4 off n (some c))=some (nat n):=rfl
 have sb:C6 .sub (nat n) (nat 1)=some (nat (n - 1)):=S2 (by omega) (by omega)
 have ff:=aI3 g0 lx sb
 refine A5N (x:=?_)
 clear ff
 have hlt:=(List.getElem?_eq_some_iff.1 hb).1
 refine G0 (n / 2) (fun i st=>∃ env' G ys,st=⟨env',G⟩∧G=H.set b ⟨.node (ys.map B2),0,.own⟩∧RevI off n i xs ys∧env'.get 0=.slice b 0 [] B4 off n (some c)∧env'.get 2=nat i∧env'.get 3=nat (n - 1 - i)) ?_ ?_ ⟨_,_,xs,rfl,(A0K hb).symm,RevI.zero _ _ _,by simp [g0],by simp,by simp⟩
 ·rintro i st hi ⟨env',G,ys,rfl,hG,hR,e0,e2,e3⟩
  have hly:=hR.1
  obtain ⟨pi,a1,a2,a3⟩:=A0v (t:=B4) (E:=B2) (b:=b) (c:=some c) (off:=off) (n:=n) (i:=i) (m:=xs.length) (by omega) hon
  obtain ⟨pj,b1,b2,b3⟩:=A0v (t:=B4) (E:=B2) (b:=b) (c:=some c) (off:=off) (n:=n) (i:=n - 1 - i) (m:=xs.length) (by omega) hon
  obtain ⟨za,hza⟩:∃ z,ys[off+i]?=some z:=⟨_,List.getElem?_eq_getElem (by omega)⟩
  obtain ⟨zb,hzb⟩:∃ z,ys[off+(n - 1 - i)]?=some z:=⟨_,List.getElem?_eq_getElem (by omega)⟩
  have hGb:G[b]?=some ⟨.node (ys.map B2),0,.own⟩:=by rw [hG,List.getElem?_set_self hlt]
  have l1:=a2 G ys hGb hly za hza
  have l2:=b2 G ys hGb hly zb hzb
  have s1:=a3 G ys zb hGb hly (by simp)
  obtain ⟨G1,h1⟩:∃ G1,G1=G.set b ⟨.node ((ys.set (off+i) zb).map B2),0,.own⟩:=⟨_,rfl⟩
  rw [←h1] at s1
  have hGb1:G1[b]?=some ⟨.node ((ys.set (off+i) zb).map B2),0,.own⟩:=by rw [h1,List.getElem?_set_self (by rw [hG,List.length_set];exact hlt)]
  have s2:=b3 G1 (ys.set (off+i) zb) za hGb1 (by simpa using hly) (by simp)
  obtain ⟨G2,h2⟩:∃ G2,G2=G1.set b ⟨.node (((ys.set (off+i) zb).set (off+(n - 1 - i)) za).map B2),0,.own⟩:=⟨_,rfl⟩
  rw [←h2] at s2
  have hij:i < n - 1 - i:=by omega
  have sb2:C6 .sub (nat (n - 1 - i)) (nat 1)=some (nat (n - 1 - i - 1)):=S2 (by omega) (by omega)
  have ff:=D8 e0 e2 e3 hij a1 b1 l1 l2 s1 s2 sb2
  refine A5N (x:=?_)
  clear ff
  exact .inl ⟨by simp,_,G2,(ys.set (off+i) zb).set (off+(n - 1 - i)) za,rfl,by rw [h2,h1,hG,List.set_set,List.set_set],hR.step (by omega) hon hza hzb,by simp [e0],by simp,by rw [show n - 1 - (i+1)=n - 1 - i - 1 by omega];simp⟩
 ·rintro st ⟨env',G,ys,rfl,hG,hR,e0,e2,e3⟩
  have hij:¬ n / 2 < n - 1 - n / 2:=by omega
  have ff:=aI4 e0 e2 e3 hij
  refine A5N (x:=?_)
  clear ff
  refine ⟨by simp,?_⟩
  have ff:=aI4 e0 e2 e3 hij
  refine A5N (x:=?_)
  clear ff
  exact ⟨_,by rw [hG,hR.last hon]⟩
theorem G1c {H:A3} {b off n c r:Nat} {A M1 M2 B:List Ban} (hb:H[b]?=some ⟨.node ((A++(M1++M2)++B).map B2),0,.own⟩) (ho:off=A.length) (hr:r=M1.length) (hn:n=M1.length+M2.length) (h1:0 < M1.length) (h2:0 < M2.length) (hl:off+n≤2000) (hc:n≤c):SpecQ Tryz.prog 141 [.slice b 0 [] B4 off n (some c),nat r] H fun r=>∃ v,r=(v,H.set b ⟨.node ((A++(M2++M1)++B).map B2),0,.own⟩):=by
 have hlt:=(List.getElem?_eq_some_iff.1 hb).1
 refine G1N fun env g0 g1=>?_
 obtain ⟨y1,f1,k1⟩:∃ y,C9 B4 (.slice b 0 [] B4 off n (some c)) none (some (nat r)) none=some y∧y=.slice b 0 [] B4 off r (some c):=⟨_,T6 (by omega),rfl⟩
 obtain ⟨y2,f2,k2⟩:∃ y,C9 B4 (.slice b 0 [] B4 off n (some c)) (some (nat r)) none none=some y∧y=.slice b 0 [] B4 (off+r) (n - r) (some (c - r)):=⟨_,K2 (by omega),rfl⟩
 have ff:=aI3 g0 g1 f1
 refine A4q (x:=?_)
 clear ff
 rw [k1]
 refine SpecQ.step (c143 (A:=A) (M:=M1) (B:=M2++B) (by simpa using hb) ho hr (by omega) (by omega)) ?_
 rintro _ ⟨v,rfl⟩
 obtain ⟨G1,q1⟩:∃ G1,G1=H.set b ⟨.node ((A++M1.reverse++(M2++B)).map B2),0,.own⟩:=⟨_,rfl⟩
 rw [←q1]
 have ff:=aI3 g0 g1 f2
 refine A4q (x:=?_)
 clear ff
 rw [k2]
 refine SpecQ.step (c143 (A:=A++M1.reverse) (M:=M2) (B:=B) (by rw [q1,List.getElem?_set_self hlt];simp) (by simp;omega) (by omega) (by omega) (by omega)) ?_
 rintro _ ⟨v,rfl⟩
 obtain ⟨G2,q2⟩:∃ G2,G2=G1.set b ⟨.node ((A++M1.reverse++M2.reverse++B).map B2),0,.own⟩:=⟨_,rfl⟩
 rw [←q2]
 have ff:=aI g0 g1
 refine A4q (x:=?_)
 clear ff
 refine SpecQ.step (c143 (A:=A) (M:=M1.reverse++M2.reverse) (B:=B) (by rw [q2,List.getElem?_set_self (by rw [q1,List.length_set];exact hlt)];simp) ho (by simp;omega) (by omega) (by omega)) ?_
 rintro _ ⟨v,rfl⟩
 obtain ⟨G3,q3⟩:∃ G3,G3=G2.set b ⟨.node ((A++(M1.reverse++M2.reverse).reverse++B).map B2),0,.own⟩:=⟨_,rfl⟩
 rw [←q3]
 have ff:=aI g0 g1
 refine A4q (x:=?_)
 clear ff
 refine ⟨_,Prod.ext rfl ?_⟩
 show G3 = _
 rw [q3,q2,q1,List.set_set,List.set_set]
 simp
theorem G1d {H:A3} {b off n c:Nat} {A M B:List Ban} {e:Ban} (hb:H[b]?=some ⟨.node ((A++(M++[e])++B).map B2),0,.own⟩) (ho:off=A.length) (hn:n=M.length+1) (h1:0 < M.length) (hl:off+n≤2000) (hc:n≤c):SpecQ Tryz.prog 137 [.slice b 0 [] B4 off n (some c),nat 1] H fun r=>∃ v,r=(v,H.set b ⟨.node ((A++(e::M)++B).map B2),0,.own⟩):=by
 refine G1R fun env g0 g1=>?_
 have lx:L9 (.slice b 0 [] B4 off n (some c))=some (nat n):=rfl
 have sb:C6 .sub (nat n) (nat 1)=some (nat (n - 1)):=S2 (by omega) (by omega)
 have ff:=aI4 g0 g1 lx sb
 refine D79 (x:=?_)
 clear ff
 refine SpecQ.step (G1c (A:=A) (M1:=M) (M2:=[e]) (B:=B) hb ho (by omega) (by simp;omega) h1 (by simp) hl hc) ?_
 rintro _ ⟨v,rfl⟩
 obtain ⟨G3,q3⟩:∃ G3,G3=H.set b ⟨.node ((A++([e]++M)++B).map B2),0,.own⟩:=⟨_,rfl⟩
 rw [←q3]
 have ff:=aI g0 g1
 refine D79 (x:=?_)
 clear ff
 refine ⟨_,Prod.ext rfl ?_⟩
 show G3 = _
 rw [q3];rfl
end Go.Vab

namespace Go.Vab
open Go Go.Proofs
noncomputable section
def D1E:Ctx:=⟨fun _ _ _ => none,TT,33,[8,9,10,11,12,13,14,15,17,18,19,20,21,22,23,24,25,26,27,28,29,30,31,32]⟩
def C1c:=B8 Tryz.f106
def C1d:=cR C1c
def A75:=cR C1d
def C1e:=cL A75
def A76:=cR C1e
def C1f:=cL A76
def E3G:=cR C1f
def E3H:=cR A76
def C1g:=cR A75
def C1h:=cR C1g
def B7X:=cR C1h
def B7Y:=cR B7X
def D9u:=cR B7Y
def G1e:=zQ3 D1E 106 Tryz.f106 C1c fun s=>(bnd (some (s.env.get 6)) fun v=>bnd (some []) fun vs=>some (v::vs))
def F6Y:=zDr D1E [B7X,C1h] [6,7] [0,0,3,0,0,24,63,127] [0,1,2,3,4,5] (.o 6 [] [] (.o 7 [] [] .f))
def F98:=B3 D1E [[E3G],[E3G,C1f],[E3H],[C1f,E3H,A76],[A76,C1e],[D9u],[D9u,B7Y],[B7Y,B7X],[C1h,C1g],[C1e,C1g,A75],[A75,C1d],[C1d,C1c]]
end
end Go.Vab

namespace Go.Vab
open Go Go.Proofs
noncomputable section
def D1F:Ctx:=⟨fun _ _ _ => none,TT,33,[8,9,10,11,12,13,14,15,17,18,19,20,21,22,23,24,25,26,27,28,29,30,31,32]⟩
def C1i:=B8 Tryz.f100
def C1j:=cR C1i
def A77:=cR C1j
def C1k:=cL A77
def A78:=cR C1k
def C1l:=cL A78
def E3I:=cR C1l
def E3J:=cR A78
def C1m:=cR A77
def C1n:=cR C1m
def B7Z:=cR C1n
def B7a:=cR B7Z
def D9v:=cR B7a
def G1f:=zQ3 D1F 100 Tryz.f100 C1i fun s=>(bnd (some (s.env.get 6)) fun v=>bnd (some []) fun vs=>some (v::vs))
def F6Z:=zDr D1F [B7Z,C1n] [6,7] [0,0,3,0,0,24,63,127] [0,1,2,3,4,5] (.o 6 [] [] (.o 7 [] [] .f))
def F99:=B3 D1F [[E3I],[E3I,C1l],[E3J],[C1l,E3J,A78],[A78,C1k],[D9v],[D9v,B7a],[B7a,B7Z],[C1n,C1m],[C1k,C1m,A77],[A77,C1j],[C1j,C1i]]
end
end Go.Vab

namespace Go.Vab
open Go Go.Proofs
noncomputable section
def D1G:Ctx:=⟨fun _ _ _ => none,TT,33,[8,9,10,11,12,13,14,15,17,18,19,20,21,22,23,24,25,26,27,28,29,30,31,32]⟩
def C1o:=B8 Tryz.f102
def C1p:=cR C1o
def A79:=cR C1p
def C1q:=cL A79
def A8A:=cR C1q
def C1r:=cL A8A
def E3K:=cR C1r
def E3L:=cR A8A
def C1s:=cR A79
def C1t:=cR C1s
def B7b:=cR C1t
def B7c:=cR B7b
def D9w:=cR B7c
def G1g:=zQ3 D1G 102 Tryz.f102 C1o fun s=>(bnd (some (s.env.get 6)) fun v=>bnd (some []) fun vs=>some (v::vs))
def F6a:=zDr D1G [B7b,C1t] [6,7] [0,0,3,0,0,24,63,127] [0,1,2,3,4,5] (.o 6 [] [] (.o 7 [] [] .f))
def G0A:=B3 D1G [[E3K],[E3K,C1r],[E3L],[C1r,E3L,A8A],[A8A,C1q],[D9w],[D9w,B7c],[B7c,B7b],[C1t,C1s],[C1q,C1s,A79],[A79,C1p],[C1p,C1o]]
end
end Go.Vab

namespace Go.Vab
open Go Go.Proofs
noncomputable section
def D1H:Ctx:=⟨fun _ _ _ => none,TT,33,[8,9,10,11,12,13,14,15,17,18,19,20,21,22,23,24,25,26,27,28,29,30,31,32]⟩
def C1u:=B8 Tryz.f128
def C1v:=cR C1u
def A8B:=cR C1v
def C1w:=cL A8B
def A8C:=cR C1w
def C1x:=cL A8C
def E3M:=cR C1x
def E3N:=cR A8C
def C1y:=cR A8B
def C1z:=cR C1y
def B7d:=cR C1z
def B7e:=cR B7d
def D9x:=cR B7e
def G1h:=zQ3 D1H 128 Tryz.f128 C1u fun s=>(bnd (some (s.env.get 6)) fun v=>bnd (some []) fun vs=>some (v::vs))
def F6b:=zDr D1H [B7d,C1z] [6,7] [0,0,3,0,0,24,63,127] [0,1,2,3,4,5] (.o 6 [] [] (.o 7 [] [] .f))
def G0B:=B3 D1H [[E3M],[E3M,C1x],[E3N],[C1x,E3N,A8C],[A8C,C1w],[D9x],[D9x,B7e],[B7e,B7d],[C1z,C1y],[C1w,C1y,A8B],[A8B,C1v],[C1v,C1u]]
end
end Go.Vab

namespace Go.Vab
open Go Go.Proofs
noncomputable section
def B31:Ctx:=⟨fun _ _ _ => none,TT,95,[10,11,12,13,14,15,17,18,19,20,21,23,24,25,26,27,28,29,30,32,33,34,35,36,37,38,39,40,41,42,43,44,45,46,47,48,49,50,51,52,53,54,55,56,57,58,59,60,61,62,63,64,65,66,67,69,70,71,72,73,74,75,76,77,78,79,80,81,82,83,84,85,86,87,88,89,90,91,92,93,94]⟩
def C10:=B8 Tryz.f123
def C11:=cR C10
def C12:=cR C11
def A8D:=cR C12
def C13:=cL A8D
def A8E:=cR C13
def C14:=cL A8E
def E3O:=cR C14
def E3P:=cR A8E
def C15:=cR A8D
def A5g:=cR C15
def B7f:=cL A5g
def A5h:=cR B7f
def B7g:=cL A5h
def D9y:=cR B7g
def D9z:=cR A5h
def A5i:=cR A5g
def B7h:=cL A5i
def A5j:=cR B7h
def B7i:=cL A5j
def B7j:=cR B7i
def B7k:=cR B7j
def B7l:=cR B7k
def D90:=cR B7l
def D91:=cR A5j
def B7m:=cR A5i
def A5k:=cR B7m
def B7n:=cL A5k
def A5l:=cR B7n
def B7o:=cL A5l
def B7p:=cR B7o
def B7q:=cR B7p
def D92:=cR B7q
def D93:=cR A5l
def B7r:=cR A5k
def B7s:=cR B7r
def B7t:=cR B7s
def D94:=cR B7t
def G1i:=zQ3 B31 123 Tryz.f123 C10 fun s=>(bnd (some (s.env.get 6)) fun v=>bnd (some []) fun vs=>some (v::vs))
def F48:=zDr B31 [B7l,B7k] [8] [0,0,0,6,15,0,0,96,255] [0,1,2,3,4,5,6,7] (.o 8 [] [] .f)
def F49:=zDr B31 [B7p,B7o] [8] [0,0,0,6,15,0,0,96,255] [0,1,2,3,4,5,6,7] (.o 8 [] [] .f)
def G0C:=B3 B31 [[E3O],[E3O,C14],[E3P],[C14,E3P,A8E],[A8E,C13],[D9y],[D9y,B7g],[D9z],[B7g,D9z,A5h],[A5h,B7f],[D90],[D90,B7l],[B7k,B7j],[B7j,B7i],[D91],[B7i,D91,A5j],[A5j,B7h],[D92],[D92,B7q],[B7q,B7p],[D93],[B7o,D93,A5l],[A5l,B7n],[D94],[D94,B7t],[B7t,B7s],[B7s,B7r],[B7n,B7r,A5k],[A5k,B7m],[B7h,B7m,A5i],[B7f,A5i,A5g],[A5g,C15],[C13,C15,A8D],[A8D,C12],[C12,C11],[C11,C10]]
end
end Go.Vab

namespace Go.Vab
open Go Go.Proofs
noncomputable section
def B32:Ctx:=⟨fun _ _ _ => none,TT,95,[10,11,12,13,14,15,17,18,19,20,21,23,24,25,26,27,28,29,30,32,33,34,35,36,37,38,39,40,41,42,43,44,45,46,47,48,49,50,51,52,53,54,55,56,57,58,59,60,61,62,63,64,65,66,67,69,70,71,72,73,74,75,76,77,78,79,80,81,82,83,84,85,86,87,88,89,90,91,92,93,94]⟩
def C16:=B8 Tryz.f104
def C17:=cR C16
def C18:=cR C17
def A8F:=cR C18
def C19:=cL A8F
def A8G:=cR C19
def C2A:=cL A8G
def E3Q:=cR C2A
def E3R:=cR A8G
def C2B:=cR A8F
def A5m:=cR C2B
def B7u:=cL A5m
def A5n:=cR B7u
def B7v:=cL A5n
def D95:=cR B7v
def D96:=cR A5n
def A5o:=cR A5m
def B7w:=cL A5o
def A5p:=cR B7w
def B7x:=cL A5p
def B7y:=cR B7x
def B7z:=cR B7y
def B70:=cR B7z
def D97:=cR B70
def D98:=cR A5p
def B71:=cR A5o
def A5q:=cR B71
def B72:=cL A5q
def A5r:=cR B72
def B73:=cL A5r
def B74:=cR B73
def B75:=cR B74
def D99:=cR B75
def E0A:=cR A5r
def B76:=cR A5q
def B77:=cR B76
def B78:=cR B77
def E0B:=cR B78
def G1j:=zQ3 B32 104 Tryz.f104 C16 fun s=>(bnd (some (s.env.get 6)) fun v=>bnd (some []) fun vs=>some (v::vs))
def F5A:=zDr B32 [B70,B7z] [8] [0,0,0,6,15,0,0,96,255] [0,1,2,3,4,5,6,7] (.o 8 [] [] .f)
def F5B:=zDr B32 [B74,B73] [8] [0,0,0,6,15,0,0,96,255] [0,1,2,3,4,5,6,7] (.o 8 [] [] .f)
def G0D:=B3 B32 [[E3Q],[E3Q,C2A],[E3R],[C2A,E3R,A8G],[A8G,C19],[D95],[D95,B7v],[D96],[B7v,D96,A5n],[A5n,B7u],[D97],[D97,B70],[B7z,B7y],[B7y,B7x],[D98],[B7x,D98,A5p],[A5p,B7w],[D99],[D99,B75],[B75,B74],[E0A],[B73,E0A,A5r],[A5r,B72],[E0B],[E0B,B78],[B78,B77],[B77,B76],[B72,B76,A5q],[A5q,B71],[B7w,B71,A5o],[B7u,A5o,A5m],[A5m,C2B],[C19,C2B,A8F],[A8F,C18],[C18,C17],[C17,C16]]
end
end Go.Vab

namespace Go.Vab
open Go Go.Proofs
noncomputable section
def B33:Ctx:=⟨fun _ _ _ => none,TT,95,[10,11,12,13,14,15,17,18,19,20,21,23,24,25,26,27,28,29,30,32,33,34,35,36,37,38,39,40,41,42,43,44,45,46,47,48,49,50,51,52,53,54,55,56,57,58,59,60,61,62,63,64,65,66,67,69,70,71,72,73,74,75,76,77,78,79,80,81,82,83,84,85,86,87,88,89,90,91,92,93,94]⟩
def C2C:=B8 Tryz.f105
def C2D:=cR C2C
def C2E:=cR C2D
def A8H:=cR C2E
def C2F:=cL A8H
def A8I:=cR C2F
def C2G:=cL A8I
def E3S:=cR C2G
def E3T:=cR A8I
def C2H:=cR A8H
def A5s:=cR C2H
def B79:=cL A5s
def A5t:=cR B79
def B8A:=cL A5t
def E0C:=cR B8A
def E0D:=cR A5t
def A5u:=cR A5s
def B8B:=cL A5u
def A5v:=cR B8B
def B8C:=cL A5v
def B8D:=cR B8C
def B8E:=cR B8D
def B8F:=cR B8E
def E0E:=cR B8F
def E0F:=cR A5v
def B8G:=cR A5u
def A5w:=cR B8G
def B8H:=cL A5w
def A5x:=cR B8H
def B8I:=cL A5x
def B8J:=cR B8I
def B8K:=cR B8J
def E0G:=cR B8K
def E0H:=cR A5x
def B8L:=cR A5w
def B8M:=cR B8L
def B8N:=cR B8M
def E0I:=cR B8N
def G1k:=zQ3 B33 105 Tryz.f105 C2C fun s=>(bnd (some (s.env.get 6)) fun v=>bnd (some []) fun vs=>some (v::vs))
def F5C:=zDr B33 [B8F,B8E] [8] [0,0,0,6,15,0,0,96,255] [0,1,2,3,4,5,6,7] (.o 8 [] [] .f)
def F5D:=zDr B33 [B8J,B8I] [8] [0,0,0,6,15,0,0,96,255] [0,1,2,3,4,5,6,7] (.o 8 [] [] .f)
def G0E:=B3 B33 [[E3S],[E3S,C2G],[E3T],[C2G,E3T,A8I],[A8I,C2F],[E0C],[E0C,B8A],[E0D],[B8A,E0D,A5t],[A5t,B79],[E0E],[E0E,B8F],[B8E,B8D],[B8D,B8C],[E0F],[B8C,E0F,A5v],[A5v,B8B],[E0G],[E0G,B8K],[B8K,B8J],[E0H],[B8I,E0H,A5x],[A5x,B8H],[E0I],[E0I,B8N],[B8N,B8M],[B8M,B8L],[B8H,B8L,A5w],[A5w,B8G],[B8B,B8G,A5u],[B79,A5u,A5s],[A5s,C2H],[C2F,C2H,A8H],[A8H,C2E],[C2E,C2D],[C2D,C2C]]
end
end Go.Vab

namespace Go.Vab
open Go Go.Proofs
noncomputable section
def B34:Ctx:=⟨fun _ _ _ => none,TT,95,[10,11,12,13,14,15,17,18,19,20,21,23,24,25,26,27,28,29,30,32,33,34,35,36,37,38,39,40,41,42,43,44,45,46,47,48,49,50,51,52,53,54,55,56,57,58,59,60,61,62,63,64,65,66,67,69,70,71,72,73,74,75,76,77,78,79,80,81,82,83,84,85,86,87,88,89,90,91,92,93,94]⟩
def C2I:=B8 Tryz.f129
def C2J:=cR C2I
def C2K:=cR C2J
def A8J:=cR C2K
def C2L:=cL A8J
def A8K:=cR C2L
def C2M:=cL A8K
def E3U:=cR C2M
def E3V:=cR A8K
def C2N:=cR A8J
def A5y:=cR C2N
def B8O:=cL A5y
def A5z:=cR B8O
def B8P:=cL A5z
def E0J:=cR B8P
def E0K:=cR A5z
def A50:=cR A5y
def B8Q:=cL A50
def A51:=cR B8Q
def B8R:=cL A51
def B8S:=cR B8R
def B8T:=cR B8S
def B8U:=cR B8T
def E0L:=cR B8U
def E0M:=cR A51
def B8V:=cR A50
def A52:=cR B8V
def B8W:=cL A52
def A53:=cR B8W
def B8X:=cL A53
def B8Y:=cR B8X
def B8Z:=cR B8Y
def E0N:=cR B8Z
def E0O:=cR A53
def B8a:=cR A52
def B8b:=cR B8a
def B8c:=cR B8b
def E0P:=cR B8c
def G1l:=zQ3 B34 129 Tryz.f129 C2I fun s=>(bnd (some (s.env.get 6)) fun v=>bnd (some []) fun vs=>some (v::vs))
def F5E:=zDr B34 [B8U,B8T] [8] [0,0,0,6,15,0,0,96,255] [0,1,2,3,4,5,6,7] (.o 8 [] [] .f)
def F5F:=zDr B34 [B8Y,B8X] [8] [0,0,0,6,15,0,0,96,255] [0,1,2,3,4,5,6,7] (.o 8 [] [] .f)
def G0F:=B3 B34 [[E3U],[E3U,C2M],[E3V],[C2M,E3V,A8K],[A8K,C2L],[E0J],[E0J,B8P],[E0K],[B8P,E0K,A5z],[A5z,B8O],[E0L],[E0L,B8U],[B8T,B8S],[B8S,B8R],[E0M],[B8R,E0M,A51],[A51,B8Q],[E0N],[E0N,B8Z],[B8Z,B8Y],[E0O],[B8X,E0O,A53],[A53,B8W],[E0P],[E0P,B8c],[B8c,B8b],[B8b,B8a],[B8W,B8a,A52],[A52,B8V],[B8Q,B8V,A50],[B8O,A50,A5y],[A5y,C2N],[C2L,C2N,A8J],[A8J,C2K],[C2K,C2J],[C2J,C2I]]
end
end Go.Vab

namespace Go.Vab
open Go Go.Proofs
theorem D85 {G X:Prop} (f:Hd X→G:=by
 intro xX
 repeat' (first|refine stp (x:=?_)|(simp (decide:=true) only [F98,snB,if_true,if_false])|(with_reducible refine F6Y _ _ _ ?_))
 exact xX.get) (x:X):G:=f ⟨x⟩
theorem A0g {G X:Prop} (f:Hd X→G:=by
 intro xX
 repeat' (first|refine stp (x:=?_)|(simp (decide:=true) only [G0C,snB,if_true,if_false])|(with_reducible refine F48 _ _ _ ?_)|(with_reducible refine F49 _ _ _ ?_))
 exact xX.get) (x:X):G:=f ⟨x⟩
theorem D86 {G X:Prop} (f:Hd X→G:=by
 intro xX
 repeat' (first|refine stp (x:=?_)|(simp (decide:=true) only [F99,snB,if_true,if_false])|(with_reducible refine F6Z _ _ _ ?_))
 exact xX.get) (x:X):G:=f ⟨x⟩
theorem A0h {G X:Prop} (f:Hd X→G:=by
 intro xX
 repeat' (first|refine stp (x:=?_)|(simp (decide:=true) only [G0D,snB,if_true,if_false])|(with_reducible refine F5A _ _ _ ?_)|(with_reducible refine F5B _ _ _ ?_))
 exact xX.get) (x:X):G:=f ⟨x⟩
theorem D87 {G X:Prop} (f:Hd X→G:=by
 intro xX
 repeat' (first|refine stp (x:=?_)|(simp (decide:=true) only [G0A,snB,if_true,if_false])|(with_reducible refine F6a _ _ _ ?_))
 exact xX.get) (x:X):G:=f ⟨x⟩
theorem A0i {G X:Prop} (f:Hd X→G:=by
 intro xX
 repeat' (first|refine stp (x:=?_)|(simp (decide:=true) only [G0E,snB,if_true,if_false])|(with_reducible refine F5C _ _ _ ?_)|(with_reducible refine F5D _ _ _ ?_))
 exact xX.get) (x:X):G:=f ⟨x⟩
theorem D88 {G X:Prop} (f:Hd X→G:=by
 intro xX
 repeat' (first|refine stp (x:=?_)|(simp (decide:=true) only [G0B,snB,if_true,if_false])|(with_reducible refine F6b _ _ _ ?_))
 exact xX.get) (x:X):G:=f ⟨x⟩
theorem A0j {G X:Prop} (f:Hd X→G:=by
 intro xX
 repeat' (first|refine stp (x:=?_)|(simp (decide:=true) only [G0F,snB,if_true,if_false])|(with_reducible refine F5E _ _ _ ?_)|(with_reducible refine F5F _ _ _ ?_))
 exact xX.get) (x:X):G:=f ⟨x⟩
attribute [local irreducible] E9 Evs gW D9 E8 G5
theorem A0s {X:Type} {l xs B:List X} {i c:Nat} (hi:i≤l.length) (ht:xs.take l.length=l) (e:X):(l.take i++e::l.drop i).length=l.length+1∧((l.take i++e::l.drop i)++B).take (l.length+1)=l.take i++e::l.drop i:=by
 have h:(l.take i++e::l.drop i).length=l.length+1:=by simp;omega
 exact ⟨h,List.take_left' h⟩
theorem Z0 {X:Type} {l xs:List X} (ht:xs.take l.length=l) {i:Nat} (hi:i≤l.length):xs.take i=l.take i:=by
 have:=congrArg (List.take i) ht
 rw [List.take_take,Nat.min_eq_left hi] at this
 exact this
theorem Z3 {X:Type} {l xs:List X} (ht:xs.take l.length=l) (i:Nat):(xs.drop i).take (l.length - i)=l.drop i:=by
 conv=>rhs;rw [←ht]
 rw [List.drop_take]
theorem G1m {κ:Nat→Nat} {k:Nat} {H:A3} {x:AV} {l:List Seat} {i:Nat} (r:KRow κ k A7 B0 H x l) (hi:i < l.length):SpecQ Tryz.prog 106 [x,nat i,nat (i+1)] H fun r=>∃ x' H',r=(x',H')∧KRow κ k A7 B0 H' x' (l.take i++l.drop (i+1))∧Chg κ k H κ H':=by
 obtain ⟨hl,⟨rfl,_⟩|⟨b,c,xs,hk,rfl,hb,hc,h0,ht⟩⟩:=r
 ·simp at hi
 have hle:l.length≤c:=by
  have:=congrArg List.length ht
  rw [List.length_take] at this;omega
 have hlt:=(List.getElem?_eq_some_iff.1 hb).1
 refine G1e fun env g0 g1 g2=>?_
 have lx:L9 (.slice b 0 [] A7 0 l.length (some c))=some (nat l.length):=rfl
 have hii:¬ i=i+1:=by omega
 obtain ⟨y1,f1,k1⟩:∃ y,C9 A7 (.slice b 0 [] A7 0 l.length (some c)) (some (nat i)) (some (nat (i+1))) (some (nat l.length))=some y∧y=.slice b 0 [] A7 (0+i) (i+1 - i) (some (l.length - i)):=⟨_,A7Z (by omega) (by omega) hle,rfl⟩
 obtain ⟨y2,f2,k2⟩:∃ y,C9 A7 (.slice b 0 [] A7 0 l.length (some c)) none (some (nat i)) none=some y∧y=.slice b 0 [] A7 0 i (some c):=⟨_,T6 (by omega),rfl⟩
 obtain ⟨y3,f3,k3⟩:∃ y,C9 A7 (.slice b 0 [] A7 0 l.length (some c)) (some (nat (i+1))) none none=some y∧y=.slice b 0 [] A7 (0+(i+1)) (l.length - (i+1)) (some (c - (i+1))):=⟨_,K2 (by omega),rfl⟩
 have ff:=aI8 g0 g1 g2 lx hii f1 f2 f3
 refine D85 (x:=?_)
 clear ff
 rw [k2,k3]
 have hd:(l.drop (i+1)).length=l.length - (i+1):=List.length_drop ..
 refine A31 (ms:=l.drop (i+1)) hb (by rw [M3 hb (by omega),Nat.zero_add,Z3 ht]) hc (by rw [hd];omega) ?_
 rw [hd,show i+(l.length - (i+1))=l.length - 1 by omega]
 obtain ⟨xs1,hx1⟩:∃ xs1,xs1=xs.take i++l.drop (i+1)++xs.drop (l.length - 1):=⟨_,rfl⟩
 have hxl:xs1.length=c:=by rw [hx1];simp;omega
 obtain ⟨H1,h1⟩:∃ H1,H1=H.set b ⟨.node (xs1.map B0),0,.own⟩:=⟨_,rfl⟩
 rw [←hx1,←h1]
 have hb1:H1[b]?=some ⟨.node (xs1.map B0),0,.own⟩:=by rw [h1,List.getElem?_set_self hlt]
 obtain ⟨x2,hx2⟩:∃ x2,x2=AV.slice b 0 [] A7 0 (l.length - 1) (some c):=⟨_,rfl⟩
 rw [←hx2]
 have lx2:L9 x2=some (nat (l.length - 1)):=by rw [hx2];rfl
 obtain ⟨y4,f4,k4⟩:∃ y,C9 A7 x2 (some (nat (l.length - 1))) (some (nat l.length)) none=some y∧y=.slice b 0 [] A7 (0+(l.length - 1)) (l.length - (l.length - 1)) (some (c - (l.length - 1))):=⟨_,by rw [hx2];exact A7a (by omega) (by omega),rfl⟩
 obtain ⟨H2,f5,k5⟩:∃ G,Z6 A7 (B0 (⟨ci0,0#8,0#32⟩:Seat)) y4 H1=some (.tuple [],G)∧G=H1.set b ⟨.node ((xs1.take (0+(l.length - 1))++List.replicate (l.length - (l.length - 1)) (⟨ci0,0#8,0#32⟩:Seat)++xs1.drop (0+(l.length - 1)+(l.length - (l.length - 1)))).map B0),0,.own⟩:=⟨_,by rw [k4];exact A5c (fun _ => rfl) hb1 (by omega) (by omega),rfl⟩
 have ff:=aI6 g0 g1 g2 lx2 f4 f5
 refine D85 (x:=?_)
 clear ff
 refine ⟨_,H2,rfl,?_⟩
 have hll:(l.take i++l.drop (i+1)).length=l.length - 1:=by simp;omega
 have ht2:xs1.take (l.length - 1)=l.take i++l.drop (i+1):=by
  rw [hx1,Z0 ht (by omega)]
  exact List.take_left' hll
 have:=g9 (κ:=κ) (k:=k) (t:=A7) (E:=B0) (H:=H) (b:=b) (l:=l.take i++l.drop (i+1)) (xs:=xs) (xs':=xs1.take (0+(l.length - 1))++List.replicate (l.length - (l.length - 1)) (⟨ci0,0#8,0#32⟩:Seat)++xs1.drop (0+(l.length - 1)+(l.length - (l.length - 1)))) (c:=c) hk hb (by omega) (by simp;omega) h0 (by
  rw [hll,List.append_assoc,Nat.zero_add,ht2];exact List.take_left' hll)
 rw [hll,←hx2] at this
 rw [k5,h1,List.set_set]
 exact this
theorem G1n {κ:Nat→Nat} {k:Nat} {H:A3} {x:AV} {l:List Seat} {i vb:Nat} {e:Seat} (r:KRow κ k A7 B0 H x l) (hi:i≤l.length) (hl:l.length < 1000) (hv:H[vb]?=some ⟨.node [B0 e],0,.own⟩) (hvk:κ vb≠k):SpecQ Tryz.prog 123 [x,nat i,.slice vb 0 [] A7 0 1 (some 1)] H fun r=>∃ x' H' κ',r=(x',H')∧KRow κ' k A7 B0 H' x' (l.take i++e::l.drop i)∧Chg κ k H κ' H':=by
 have rr:Row A7 H x (l.map B0):=r.row
 have lx:=r.len
 have lv:L9 (.slice vb 0 [] A7 0 1 (some 1))=some (nat 1):=rfl
 have ev:∀ {G:A3},G[vb]?=some ⟨.node [B0 e],0,.own⟩→C7 A7 (.slice vb 0 [] A7 0 1 (some 1)) G=some (.node ([e].map B0)):=fun hG=>M3 (xs:=[e]) (t:=A7) (off:=0) (n:=1) hG (by simp)
 obtain ⟨y0,f0,_⟩:=rr.suf (n:=i) (by simpa using hi)
 refine G1i fun env g0 g1 g2=>?_
 by_cases hin:i=l.length
 ·subst hin
  have ff:=aI6 g0 g1 g2 lx lv f0
  refine A0g (x:=?_)
  clear ff
  refine A7b (E:=B0) (t:=A7) (z:=(⟨ci0,0#8,0#32⟩:Seat)) s8 (fun _ => rfl) r (ev hv) hl ?_ fun x' H' κ' w1 w2=>?_
  ·decide
  have ff:=g0
  refine A0g (x:=?_)
  clear ff
  refine ⟨x',H',κ',rfl,?_,w2⟩
  rw [List.take_length,List.drop_length];exact w1
 have hi':i < l.length:=by omega
 obtain ⟨_,⟨rfl,_⟩|⟨b,c,xs,hk,rfl,hb,hc,h0,ht⟩⟩:=r
 ·simp at hi'
 have hle:l.length≤c:=by
  have:=congrArg List.length ht
  rw [List.length_take] at this;omega
 have hlt:=(List.getElem?_eq_some_iff.1 hb).1
 have hvl:=(List.getElem?_eq_some_iff.1 hv).1
 have hvb:vb≠b:=fun q=>hvk (by rw [q];exact hk)
 have cx:A0B (.slice b 0 [] A7 0 l.length (some c))=some (nat c):=rfl
 have ad:C6 .add (nat l.length) (nat 1)=some (nat (l.length+1)):=Q0 (by omega)
 have ad2:C6 .add (nat i) (nat 1)=some (nat (i+1)):=Q0 (by omega)
 by_cases hroom:c < l.length+1
 ·-- a new block
  have sb:C6 .sub (nat (l.length+1)) (nat i)=some (nat (l.length+1 - i)):=S2 (by omega) (by omega)
  obtain ⟨y2,f2,k2⟩:∃ y,C9 A7 (.slice b 0 [] A7 0 l.length (some c)) none (some (nat i)) none=some y∧y=.slice b 0 [] A7 0 i (some c):=⟨_,T6 (by omega),rfl⟩
  obtain ⟨y3,f3,k3⟩:∃ y,C9 A7 (.slice b 0 [] A7 0 l.length (some c)) (some (nat i)) none none=some y∧y=.slice b 0 [] A7 (0+i) (l.length - i) (some (c - i)):=⟨_,K2 (by omega),rfl⟩
  have ff:=F8 g0 g1 g2 lx lv f2 f3 hin cx hroom ad sb
  refine A0g (x:=?_)
  clear ff
  rw [k2]
  refine A7c (E:=B0) (t:=A7) (z:=(⟨ci0,0#8,0#32⟩:Seat)) (fun _ => rfl) hb hc (by omega) (by omega) (by omega) (by omega) (by omega) fun c' hc'=>?_
  rw [show i+(l.length+1 - i)=l.length+1 by omega] at hc' ⊢
  obtain ⟨us,hus⟩:∃ us,us=xs.take i++List.replicate (c' - i) (⟨ci0,0#8,0#32⟩:Seat):=⟨_,rfl⟩
  have hul:us.length=c':=by rw [hus];simp;omega
  obtain ⟨H1,h1⟩:∃ H1,H1=H++[⟨.node (us.map B0),0,.own⟩]:=⟨_,rfl⟩
  obtain ⟨x2,hx2⟩:∃ x2,x2=AV.slice H.length 0 [] A7 0 (l.length+1) (some c'):=⟨_,rfl⟩
  rw [←hus,←h1,←hx2]
  have hb1:H1[H.length]?=some ⟨.node (us.map B0),0,.own⟩:=by rw [h1];simp
  obtain ⟨y4,f4,k4⟩:∃ y,C9 A7 x2 (some (nat i)) none none=some y∧y=.slice H.length 0 [] A7 (0+i) (l.length+1 - i) (some (c' - i)):=⟨_,by rw [hx2];exact K2 (by omega),rfl⟩
  obtain ⟨y5,f5,k5⟩:∃ y,C9 A7 x2 (some (nat (i+1))) none none=some y∧y=.slice H.length 0 [] A7 (0+(i+1)) (l.length+1 - (i+1)) (some (c' - (i+1))):=⟨_,by rw [hx2];exact K2 (by omega),rfl⟩
  obtain ⟨H2,f6,k6⟩:∃ G,M8 A7 y4 (.slice vb 0 [] A7 0 1 (some 1)) H1=some (nat (min [e].length (l.length+1 - i)),G)∧G=H1.set H.length ⟨.node ((us.take (0+i)++[e].take (min [e].length (l.length+1 - i))++us.drop (0+i+min [e].length (l.length+1 - i))).map B0),0,.own⟩:=⟨_,by rw [k4];exact P6 hb1 (ev (by rw [h1,List.getElem?_append_left hvl];exact hv)) (by simp only [List.length_singleton];omega),rfl⟩
  have hm1:min [e].length (l.length+1 - i)=1:=by simp only [List.length_singleton];omega
  rw [hm1,Nat.zero_add] at k6
  rw [hm1] at f6
  obtain ⟨us2,hus2⟩:∃ us2,us2=us.take i++[e].take 1++us.drop (i+1):=⟨_,rfl⟩
  rw [←hus2] at k6
  have hul2:us2.length=c':=by rw [hus2];simp;omega
  have hb2:H2[H.length]?=some ⟨.node (us2.map B0),0,.own⟩:=by rw [k6,List.getElem?_set_self (by rw [h1];simp)]
  have hbo:H2[b]?=some ⟨.node (xs.map B0),0,.own⟩:=by rw [k6,List.getElem?_set_ne (by omega),h1,List.getElem?_append_left hlt];exact hb
  have hdl:(l.drop i).length=l.length - i:=List.length_drop ..
  obtain ⟨H3,f7,k7⟩:∃ G,M8 A7 y5 y3 H2=some (nat (min (l.drop i).length (l.length+1 - (i+1))),G)∧G=H2.set H.length ⟨.node ((us2.take (0+(i+1))++(l.drop i).take (min (l.drop i).length (l.length+1 - (i+1)))++us2.drop (0+(i+1)+min (l.drop i).length (l.length+1 - (i+1)))).map B0),0,.own⟩:=⟨_,by rw [k5,k3];exact P6 hb2 (by rw [M3 hbo (by omega),Nat.zero_add,Z3 ht]) (by rw [hdl];omega),rfl⟩
  have hm2:min (l.drop i).length (l.length+1 - (i+1))=l.length - i:=by rw [hdl];omega
  have tt:(l.drop i).take (l.length - i)=l.drop i:=List.take_of_length_le (by omega)
  rw [hm2,Nat.zero_add,tt] at k7
  have ff:=D8 g0 g1 g2 lx lv f3 f4 f5 f6 f7 ad2
  refine A0g (x:=?_)
  clear ff
  refine ⟨x2,H3,fun j=>if j=H.length then k else κ j,rfl,?_⟩
  obtain ⟨us3,hus3⟩:∃ us3,us3=us2.take (i+1)++l.drop i++us2.drop (i+1+(l.length - i)):=⟨_,rfl⟩
  rw [←hus3] at k7
  have e1:us2.take (i+1)=l.take i++[e]:=by
   have hq:(l.take i++[e]).length=i+1:=by simp;omega
   have h0:us.take i=l.take i:=by rw [hus,List.take_left' (by simp;omega),Z0 ht (by omega)]
   have h1:[e].take 1=[e]:=rfl
   rw [hus2,h0,h1]
   exact List.take_left' hq
  have e2:us3=(l.take i++e::l.drop i)++us2.drop (i+1+(l.length - i)):=by rw [hus3,e1];simp
  obtain ⟨e3,e4⟩:=A0s (c:=c) (B:=us2.drop (i+1+(l.length - i))) hi ht e
  have:=A1E (κ:=κ) (k:=k) (t:=A7) (E:=B0) (H:=H) (l:=l.take i++e::l.drop i) (xs:=us3) (c:=c') (by omega) (by rw [e2];simp;omega) (by omega) (by rw [e3,e2];exact e4)
  rw [e3,←hx2] at this
  have e5:H3=H++[⟨.node (us3.map B0),0,.own⟩]:=by
   rw [k7,k6,h1,List.set_set];simp
  rw [e5];exact this
 ·-- in place
  have hroom':l.length+1≤c:=by omega
  obtain ⟨x3,f1,k1⟩:∃ y,C9 A7 (.slice b 0 [] A7 0 l.length (some c)) none (some (nat (l.length+1))) none=some y∧y=.slice b 0 [] A7 0 (l.length+1) (some c):=⟨_,T6 hroom',rfl⟩
  obtain ⟨y4,f4,k4⟩:∃ y,C9 A7 x3 (some (nat (i+1))) none none=some y∧y=.slice b 0 [] A7 (0+(i+1)) (l.length+1 - (i+1)) (some (c - (i+1))):=⟨_,by rw [k1];exact K2 (by omega),rfl⟩
  obtain ⟨y5,f5,k5⟩:∃ y,C9 A7 x3 (some (nat i)) none none=some y∧y=.slice b 0 [] A7 (0+i) (l.length+1 - i) (some (c - i)):=⟨_,by rw [k1];exact K2 (by omega),rfl⟩
  obtain ⟨y6,f6,k6⟩:∃ y,C9 A7 x3 (some (nat l.length)) none none=some y∧y=.slice b 0 [] A7 (0+l.length) (l.length+1 - l.length) (some (c - l.length)):=⟨_,by rw [k1];exact K2 (by omega),rfl⟩
  have fin:∀ {H3:A3} {B:List Seat},H3=H.set b ⟨.node (((l.take i++e::l.drop i)++B).map B0),0,.own⟩→B.length=c - (l.length+1)→KRow κ k A7 B0 H3 x3 (l.take i++e::l.drop i)∧Chg κ k H κ H3:=by
   intro H3 B hH3 hB
   obtain ⟨e3,e4⟩:=A0s (c:=c) (B:=B) hi ht e
   have:=g9 (κ:=κ) (k:=k) (t:=A7) (E:=B0) (H:=H) (b:=b) (l:=l.take i++e::l.drop i) (xs:=xs) (xs':=(l.take i++e::l.drop i)++B) (c:=c) hk hb (by omega) (by rw [List.length_append,e3];omega) h0 (by rw [e3];exact e4)
   rw [e3,←k1,←hH3] at this
   exact this
  have ff:=H7 g0 g1 g2 lx lv f0 f1 f4 hin cx hroom ad ad2
  refine A0g (x:=?_)
  clear ff
  refine SpecQ.step (G1S hv hb hvb k4 (ev hv) (M3 hb (by omega)) (by omega) (by omega)) ?_
  rintro _ ⟨v,rfl⟩
  cases v
  ·obtain ⟨H1,f7,k7⟩:∃ G,M8 A7 y4 y5 H=some (nat (min ((xs.drop (0+i)).take (l.length+1 - i)).length (l.length+1 - (i+1))),G)∧G=H.set b ⟨.node ((xs.take (0+(i+1))++((xs.drop (0+i)).take (l.length+1 - i)).take (min ((xs.drop (0+i)).take (l.length+1 - i)).length (l.length+1 - (i+1)))++xs.drop (0+(i+1)+min ((xs.drop (0+i)).take (l.length+1 - i)).length (l.length+1 - (i+1)))).map B0),0,.own⟩:=⟨_,by rw [k4,k5];exact P6 hb (M3 hb (by omega)) (by simp;omega),rfl⟩
   have hm:min ((xs.drop (0+i)).take (l.length+1 - i)).length (l.length+1 - (i+1))=l.length - i:=by simp;omega
   rw [hm,Nat.zero_add,Nat.zero_add,List.take_take,Nat.min_eq_left (by omega),Z3 ht] at k7
   obtain ⟨us,hus⟩:∃ us,us=xs.take (i+1)++l.drop i++xs.drop (i+1+(l.length - i)):=⟨_,rfl⟩
   rw [←hus] at k7
   have hul:us.length=c:=by rw [hus];simp;omega
   have hb1:H1[b]?=some ⟨.node (us.map B0),0,.own⟩:=by rw [k7,List.getElem?_set_self hlt]
   have hv1:H1[vb]?=some ⟨.node [B0 e],0,.own⟩:=by rw [k7,List.getElem?_set_ne (fun q=>hvb q.symm)];exact hv
   obtain ⟨H2,f8,k8⟩:∃ G,M8 A7 y5 (.slice vb 0 [] A7 0 1 (some 1)) H1=some (nat (min [e].length (l.length+1 - i)),G)∧G=H1.set b ⟨.node ((us.take (0+i)++[e].take (min [e].length (l.length+1 - i))++us.drop (0+i+min [e].length (l.length+1 - i))).map B0),0,.own⟩:=⟨_,by rw [k5];exact P6 hb1 (ev hv1) (by simp only [List.length_singleton];omega),rfl⟩
   have hm1:min [e].length (l.length+1 - i)=1:=by simp only [List.length_singleton];omega
   rw [hm1,Nat.zero_add] at k8
   have ff:=E3 g0 g1 g2 lx lv f4 f5 f7 f8 ad2
   refine A0g (x:=?_)
   clear ff
   refine ⟨x3,H2,κ,rfl,fin (B:=xs.drop (i+1+(l.length - i))) ?_ (by simp;omega)⟩
   rw [k8,k7,List.set_set]
   have e1:us.take i=l.take i:=by
    rw [hus,List.append_assoc,List.take_append_of_le_length (by simp;omega),List.take_take,Nat.min_eq_left (by omega),Z0 ht (by omega)]
   have e2:us.drop (i+1)=l.drop i++xs.drop (i+1+(l.length - i)):=by
    rw [hus,List.append_assoc];exact List.drop_left' (by simp;omega)
   rw [e1,e2];simp
  ·obtain ⟨H1,f7,k7⟩:∃ G,M8 A7 y6 (.slice vb 0 [] A7 0 1 (some 1)) H=some (nat (min [e].length (l.length+1 - l.length)),G)∧G=H.set b ⟨.node ((xs.take (0+l.length)++[e].take (min [e].length (l.length+1 - l.length))++xs.drop (0+l.length+min [e].length (l.length+1 - l.length))).map B0),0,.own⟩:=⟨_,by rw [k6];exact P6 hb (ev hv) (by simp only [List.length_singleton];omega),rfl⟩
   have hm1:min [e].length (l.length+1 - l.length)=1:=by simp only [List.length_singleton];omega
   rw [hm1,Nat.zero_add,ht] at k7
   have ff:=E3 g0 g1 g2 lx lv f4 f5 f6 f7 ad2
   refine A0g (x:=?_)
   clear ff
   have hb1:H1[b]?=some ⟨.node ((l.take i++(l.drop i++[e])++xs.drop (l.length+1)).map B0),0,.own⟩:=by
    rw [k7,List.getElem?_set_self hlt]
    have:l++[e].take 1++xs.drop (l.length+1)=l.take i++(l.drop i++[e])++xs.drop (l.length+1):=by rw [←List.append_assoc (l.take i),List.take_append_drop];simp
    rw [this]
   rw [k5,Nat.zero_add]
   refine SpecQ.step (G1U hb1 (by simp;omega) (by simp;omega) (by simp;omega) (by omega) (by omega)) ?_
   rintro _ ⟨v,rfl⟩
   obtain ⟨H2,h2⟩:∃ G,G=H1.set b ⟨.node ((l.take i++(e::l.drop i)++xs.drop (l.length+1)).map B0),0,.own⟩:=⟨_,rfl⟩
   rw [←h2]
   have ff:=aI3 g0 g1 g2
   refine A0g (x:=?_)
   clear ff
   exact ⟨x3,H2,κ,rfl,fin (B:=xs.drop (l.length+1)) (by rw [h2,k7,List.set_set]) (by simp;omega)⟩
theorem G1o {κ:Nat→Nat} {k:Nat} {H:A3} {x:AV} {l:List Inv} {i:Nat} (r:KRow κ k B1 B7 H x l) (hi:i < l.length):SpecQ Tryz.prog 100 [x,nat i,nat (i+1)] H fun r=>∃ x' H',r=(x',H')∧KRow κ k B1 B7 H' x' (l.take i++l.drop (i+1))∧Chg κ k H κ H':=by
 obtain ⟨hl,⟨rfl,_⟩|⟨b,c,xs,hk,rfl,hb,hc,h0,ht⟩⟩:=r
 ·simp at hi
 have hle:l.length≤c:=by
  have:=congrArg List.length ht
  rw [List.length_take] at this;omega
 have hlt:=(List.getElem?_eq_some_iff.1 hb).1
 refine G1f fun env g0 g1 g2=>?_
 have lx:L9 (.slice b 0 [] B1 0 l.length (some c))=some (nat l.length):=rfl
 have hii:¬ i=i+1:=by omega
 obtain ⟨y1,f1,k1⟩:∃ y,C9 B1 (.slice b 0 [] B1 0 l.length (some c)) (some (nat i)) (some (nat (i+1))) (some (nat l.length))=some y∧y=.slice b 0 [] B1 (0+i) (i+1 - i) (some (l.length - i)):=⟨_,A7Z (by omega) (by omega) hle,rfl⟩
 obtain ⟨y2,f2,k2⟩:∃ y,C9 B1 (.slice b 0 [] B1 0 l.length (some c)) none (some (nat i)) none=some y∧y=.slice b 0 [] B1 0 i (some c):=⟨_,T6 (by omega),rfl⟩
 obtain ⟨y3,f3,k3⟩:∃ y,C9 B1 (.slice b 0 [] B1 0 l.length (some c)) (some (nat (i+1))) none none=some y∧y=.slice b 0 [] B1 (0+(i+1)) (l.length - (i+1)) (some (c - (i+1))):=⟨_,K2 (by omega),rfl⟩
 have ff:=aI8 g0 g1 g2 lx hii f1 f2 f3
 refine D86 (x:=?_)
 clear ff
 rw [k2,k3]
 have hd:(l.drop (i+1)).length=l.length - (i+1):=List.length_drop ..
 refine A31 (ms:=l.drop (i+1)) hb (by rw [M3 hb (by omega),Nat.zero_add,Z3 ht]) hc (by rw [hd];omega) ?_
 rw [hd,show i+(l.length - (i+1))=l.length - 1 by omega]
 obtain ⟨xs1,hx1⟩:∃ xs1,xs1=xs.take i++l.drop (i+1)++xs.drop (l.length - 1):=⟨_,rfl⟩
 have hxl:xs1.length=c:=by rw [hx1];simp;omega
 obtain ⟨H1,h1⟩:∃ H1,H1=H.set b ⟨.node (xs1.map B7),0,.own⟩:=⟨_,rfl⟩
 rw [←hx1,←h1]
 have hb1:H1[b]?=some ⟨.node (xs1.map B7),0,.own⟩:=by rw [h1,List.getElem?_set_self hlt]
 obtain ⟨x2,hx2⟩:∃ x2,x2=AV.slice b 0 [] B1 0 (l.length - 1) (some c):=⟨_,rfl⟩
 rw [←hx2]
 have lx2:L9 x2=some (nat (l.length - 1)):=by rw [hx2];rfl
 obtain ⟨y4,f4,k4⟩:∃ y,C9 B1 x2 (some (nat (l.length - 1))) (some (nat l.length)) none=some y∧y=.slice b 0 [] B1 (0+(l.length - 1)) (l.length - (l.length - 1)) (some (c - (l.length - 1))):=⟨_,by rw [hx2];exact A7a (by omega) (by omega),rfl⟩
 obtain ⟨H2,f5,k5⟩:∃ G,Z6 B1 (B7 (⟨ci0,0#8,ci0⟩:Inv)) y4 H1=some (.tuple [],G)∧G=H1.set b ⟨.node ((xs1.take (0+(l.length - 1))++List.replicate (l.length - (l.length - 1)) (⟨ci0,0#8,ci0⟩:Inv)++xs1.drop (0+(l.length - 1)+(l.length - (l.length - 1)))).map B7),0,.own⟩:=⟨_,by rw [k4];exact A5c (fun _ => rfl) hb1 (by omega) (by omega),rfl⟩
 have ff:=aI6 g0 g1 g2 lx2 f4 f5
 refine D86 (x:=?_)
 clear ff
 refine ⟨_,H2,rfl,?_⟩
 have hll:(l.take i++l.drop (i+1)).length=l.length - 1:=by simp;omega
 have ht2:xs1.take (l.length - 1)=l.take i++l.drop (i+1):=by
  rw [hx1,Z0 ht (by omega)]
  exact List.take_left' hll
 have:=g9 (κ:=κ) (k:=k) (t:=B1) (E:=B7) (H:=H) (b:=b) (l:=l.take i++l.drop (i+1)) (xs:=xs) (xs':=xs1.take (0+(l.length - 1))++List.replicate (l.length - (l.length - 1)) (⟨ci0,0#8,ci0⟩:Inv)++xs1.drop (0+(l.length - 1)+(l.length - (l.length - 1)))) (c:=c) hk hb (by omega) (by simp;omega) h0 (by
  rw [hll,List.append_assoc,Nat.zero_add,ht2];exact List.take_left' hll)
 rw [hll,←hx2] at this
 rw [k5,h1,List.set_set]
 exact this
theorem G1p {κ:Nat→Nat} {k:Nat} {H:A3} {x:AV} {l:List Inv} {i vb:Nat} {e:Inv} (r:KRow κ k B1 B7 H x l) (hi:i≤l.length) (hl:l.length < 1000) (hv:H[vb]?=some ⟨.node [B7 e],0,.own⟩) (hvk:κ vb≠k):SpecQ Tryz.prog 104 [x,nat i,.slice vb 0 [] B1 0 1 (some 1)] H fun r=>∃ x' H' κ',r=(x',H')∧KRow κ' k B1 B7 H' x' (l.take i++e::l.drop i)∧Chg κ k H κ' H':=by
 have rr:Row B1 H x (l.map B7):=r.row
 have lx:=r.len
 have lv:L9 (.slice vb 0 [] B1 0 1 (some 1))=some (nat 1):=rfl
 have ev:∀ {G:A3},G[vb]?=some ⟨.node [B7 e],0,.own⟩→C7 B1 (.slice vb 0 [] B1 0 1 (some 1)) G=some (.node ([e].map B7)):=fun hG=>M3 (xs:=[e]) (t:=B1) (off:=0) (n:=1) hG (by simp)
 obtain ⟨y0,f0,_⟩:=rr.suf (n:=i) (by simpa using hi)
 refine G1j fun env g0 g1 g2=>?_
 by_cases hin:i=l.length
 ·subst hin
  have ff:=aI6 g0 g1 g2 lx lv f0
  refine A0h (x:=?_)
  clear ff
  refine A7b (E:=B7) (t:=B1) (z:=(⟨ci0,0#8,ci0⟩:Inv)) a9 (fun _ => rfl) r (ev hv) hl ?_ fun x' H' κ' w1 w2=>?_
  ·decide
  have ff:=g0
  refine A0h (x:=?_)
  clear ff
  refine ⟨x',H',κ',rfl,?_,w2⟩
  rw [List.take_length,List.drop_length];exact w1
 have hi':i < l.length:=by omega
 obtain ⟨_,⟨rfl,_⟩|⟨b,c,xs,hk,rfl,hb,hc,h0,ht⟩⟩:=r
 ·simp at hi'
 have hle:l.length≤c:=by
  have:=congrArg List.length ht
  rw [List.length_take] at this;omega
 have hlt:=(List.getElem?_eq_some_iff.1 hb).1
 have hvl:=(List.getElem?_eq_some_iff.1 hv).1
 have hvb:vb≠b:=fun q=>hvk (by rw [q];exact hk)
 have cx:A0B (.slice b 0 [] B1 0 l.length (some c))=some (nat c):=rfl
 have ad:C6 .add (nat l.length) (nat 1)=some (nat (l.length+1)):=Q0 (by omega)
 have ad2:C6 .add (nat i) (nat 1)=some (nat (i+1)):=Q0 (by omega)
 by_cases hroom:c < l.length+1
 ·-- a new block
  have sb:C6 .sub (nat (l.length+1)) (nat i)=some (nat (l.length+1 - i)):=S2 (by omega) (by omega)
  obtain ⟨y2,f2,k2⟩:∃ y,C9 B1 (.slice b 0 [] B1 0 l.length (some c)) none (some (nat i)) none=some y∧y=.slice b 0 [] B1 0 i (some c):=⟨_,T6 (by omega),rfl⟩
  obtain ⟨y3,f3,k3⟩:∃ y,C9 B1 (.slice b 0 [] B1 0 l.length (some c)) (some (nat i)) none none=some y∧y=.slice b 0 [] B1 (0+i) (l.length - i) (some (c - i)):=⟨_,K2 (by omega),rfl⟩
  have ff:=F8 g0 g1 g2 lx lv f2 f3 hin cx hroom ad sb
  refine A0h (x:=?_)
  clear ff
  rw [k2]
  refine A7c (E:=B7) (t:=B1) (z:=(⟨ci0,0#8,ci0⟩:Inv)) (fun _ => rfl) hb hc (by omega) (by omega) (by omega) (by omega) (by omega) fun c' hc'=>?_
  rw [show i+(l.length+1 - i)=l.length+1 by omega] at hc' ⊢
  obtain ⟨us,hus⟩:∃ us,us=xs.take i++List.replicate (c' - i) (⟨ci0,0#8,ci0⟩:Inv):=⟨_,rfl⟩
  have hul:us.length=c':=by rw [hus];simp;omega
  obtain ⟨H1,h1⟩:∃ H1,H1=H++[⟨.node (us.map B7),0,.own⟩]:=⟨_,rfl⟩
  obtain ⟨x2,hx2⟩:∃ x2,x2=AV.slice H.length 0 [] B1 0 (l.length+1) (some c'):=⟨_,rfl⟩
  rw [←hus,←h1,←hx2]
  have hb1:H1[H.length]?=some ⟨.node (us.map B7),0,.own⟩:=by rw [h1];simp
  obtain ⟨y4,f4,k4⟩:∃ y,C9 B1 x2 (some (nat i)) none none=some y∧y=.slice H.length 0 [] B1 (0+i) (l.length+1 - i) (some (c' - i)):=⟨_,by rw [hx2];exact K2 (by omega),rfl⟩
  obtain ⟨y5,f5,k5⟩:∃ y,C9 B1 x2 (some (nat (i+1))) none none=some y∧y=.slice H.length 0 [] B1 (0+(i+1)) (l.length+1 - (i+1)) (some (c' - (i+1))):=⟨_,by rw [hx2];exact K2 (by omega),rfl⟩
  obtain ⟨H2,f6,k6⟩:∃ G,M8 B1 y4 (.slice vb 0 [] B1 0 1 (some 1)) H1=some (nat (min [e].length (l.length+1 - i)),G)∧G=H1.set H.length ⟨.node ((us.take (0+i)++[e].take (min [e].length (l.length+1 - i))++us.drop (0+i+min [e].length (l.length+1 - i))).map B7),0,.own⟩:=⟨_,by rw [k4];exact P6 hb1 (ev (by rw [h1,List.getElem?_append_left hvl];exact hv)) (by simp only [List.length_singleton];omega),rfl⟩
  have hm1:min [e].length (l.length+1 - i)=1:=by simp only [List.length_singleton];omega
  rw [hm1,Nat.zero_add] at k6
  rw [hm1] at f6
  obtain ⟨us2,hus2⟩:∃ us2,us2=us.take i++[e].take 1++us.drop (i+1):=⟨_,rfl⟩
  rw [←hus2] at k6
  have hul2:us2.length=c':=by rw [hus2];simp;omega
  have hb2:H2[H.length]?=some ⟨.node (us2.map B7),0,.own⟩:=by rw [k6,List.getElem?_set_self (by rw [h1];simp)]
  have hbo:H2[b]?=some ⟨.node (xs.map B7),0,.own⟩:=by rw [k6,List.getElem?_set_ne (by omega),h1,List.getElem?_append_left hlt];exact hb
  have hdl:(l.drop i).length=l.length - i:=List.length_drop ..
  obtain ⟨H3,f7,k7⟩:∃ G,M8 B1 y5 y3 H2=some (nat (min (l.drop i).length (l.length+1 - (i+1))),G)∧G=H2.set H.length ⟨.node ((us2.take (0+(i+1))++(l.drop i).take (min (l.drop i).length (l.length+1 - (i+1)))++us2.drop (0+(i+1)+min (l.drop i).length (l.length+1 - (i+1)))).map B7),0,.own⟩:=⟨_,by rw [k5,k3];exact P6 hb2 (by rw [M3 hbo (by omega),Nat.zero_add,Z3 ht]) (by rw [hdl];omega),rfl⟩
  have hm2:min (l.drop i).length (l.length+1 - (i+1))=l.length - i:=by rw [hdl];omega
  have tt:(l.drop i).take (l.length - i)=l.drop i:=List.take_of_length_le (by omega)
  rw [hm2,Nat.zero_add,tt] at k7
  have ff:=D8 g0 g1 g2 lx lv f3 f4 f5 f6 f7 ad2
  refine A0h (x:=?_)
  clear ff
  refine ⟨x2,H3,fun j=>if j=H.length then k else κ j,rfl,?_⟩
  obtain ⟨us3,hus3⟩:∃ us3,us3=us2.take (i+1)++l.drop i++us2.drop (i+1+(l.length - i)):=⟨_,rfl⟩
  rw [←hus3] at k7
  have e1:us2.take (i+1)=l.take i++[e]:=by
   have hq:(l.take i++[e]).length=i+1:=by simp;omega
   have h0:us.take i=l.take i:=by rw [hus,List.take_left' (by simp;omega),Z0 ht (by omega)]
   have h1:[e].take 1=[e]:=rfl
   rw [hus2,h0,h1]
   exact List.take_left' hq
  have e2:us3=(l.take i++e::l.drop i)++us2.drop (i+1+(l.length - i)):=by rw [hus3,e1];simp
  obtain ⟨e3,e4⟩:=A0s (c:=c) (B:=us2.drop (i+1+(l.length - i))) hi ht e
  have:=A1E (κ:=κ) (k:=k) (t:=B1) (E:=B7) (H:=H) (l:=l.take i++e::l.drop i) (xs:=us3) (c:=c') (by omega) (by rw [e2];simp;omega) (by omega) (by rw [e3,e2];exact e4)
  rw [e3,←hx2] at this
  have e5:H3=H++[⟨.node (us3.map B7),0,.own⟩]:=by
   rw [k7,k6,h1,List.set_set];simp
  rw [e5];exact this
 ·-- in place
  have hroom':l.length+1≤c:=by omega
  obtain ⟨x3,f1,k1⟩:∃ y,C9 B1 (.slice b 0 [] B1 0 l.length (some c)) none (some (nat (l.length+1))) none=some y∧y=.slice b 0 [] B1 0 (l.length+1) (some c):=⟨_,T6 hroom',rfl⟩
  obtain ⟨y4,f4,k4⟩:∃ y,C9 B1 x3 (some (nat (i+1))) none none=some y∧y=.slice b 0 [] B1 (0+(i+1)) (l.length+1 - (i+1)) (some (c - (i+1))):=⟨_,by rw [k1];exact K2 (by omega),rfl⟩
  obtain ⟨y5,f5,k5⟩:∃ y,C9 B1 x3 (some (nat i)) none none=some y∧y=.slice b 0 [] B1 (0+i) (l.length+1 - i) (some (c - i)):=⟨_,by rw [k1];exact K2 (by omega),rfl⟩
  obtain ⟨y6,f6,k6⟩:∃ y,C9 B1 x3 (some (nat l.length)) none none=some y∧y=.slice b 0 [] B1 (0+l.length) (l.length+1 - l.length) (some (c - l.length)):=⟨_,by rw [k1];exact K2 (by omega),rfl⟩
  have fin:∀ {H3:A3} {B:List Inv},H3=H.set b ⟨.node (((l.take i++e::l.drop i)++B).map B7),0,.own⟩→B.length=c - (l.length+1)→KRow κ k B1 B7 H3 x3 (l.take i++e::l.drop i)∧Chg κ k H κ H3:=by
   intro H3 B hH3 hB
   obtain ⟨e3,e4⟩:=A0s (c:=c) (B:=B) hi ht e
   have:=g9 (κ:=κ) (k:=k) (t:=B1) (E:=B7) (H:=H) (b:=b) (l:=l.take i++e::l.drop i) (xs:=xs) (xs':=(l.take i++e::l.drop i)++B) (c:=c) hk hb (by omega) (by rw [List.length_append,e3];omega) h0 (by rw [e3];exact e4)
   rw [e3,←k1,←hH3] at this
   exact this
  have ff:=H7 g0 g1 g2 lx lv f0 f1 f4 hin cx hroom ad ad2
  refine A0h (x:=?_)
  clear ff
  refine SpecQ.step (G1V hv hb hvb k4 (ev hv) (M3 hb (by omega)) (by omega) (by omega)) ?_
  rintro _ ⟨v,rfl⟩
  cases v
  ·obtain ⟨H1,f7,k7⟩:∃ G,M8 B1 y4 y5 H=some (nat (min ((xs.drop (0+i)).take (l.length+1 - i)).length (l.length+1 - (i+1))),G)∧G=H.set b ⟨.node ((xs.take (0+(i+1))++((xs.drop (0+i)).take (l.length+1 - i)).take (min ((xs.drop (0+i)).take (l.length+1 - i)).length (l.length+1 - (i+1)))++xs.drop (0+(i+1)+min ((xs.drop (0+i)).take (l.length+1 - i)).length (l.length+1 - (i+1)))).map B7),0,.own⟩:=⟨_,by rw [k4,k5];exact P6 hb (M3 hb (by omega)) (by simp;omega),rfl⟩
   have hm:min ((xs.drop (0+i)).take (l.length+1 - i)).length (l.length+1 - (i+1))=l.length - i:=by simp;omega
   rw [hm,Nat.zero_add,Nat.zero_add,List.take_take,Nat.min_eq_left (by omega),Z3 ht] at k7
   obtain ⟨us,hus⟩:∃ us,us=xs.take (i+1)++l.drop i++xs.drop (i+1+(l.length - i)):=⟨_,rfl⟩
   rw [←hus] at k7
   have hul:us.length=c:=by rw [hus];simp;omega
   have hb1:H1[b]?=some ⟨.node (us.map B7),0,.own⟩:=by rw [k7,List.getElem?_set_self hlt]
   have hv1:H1[vb]?=some ⟨.node [B7 e],0,.own⟩:=by rw [k7,List.getElem?_set_ne (fun q=>hvb q.symm)];exact hv
   obtain ⟨H2,f8,k8⟩:∃ G,M8 B1 y5 (.slice vb 0 [] B1 0 1 (some 1)) H1=some (nat (min [e].length (l.length+1 - i)),G)∧G=H1.set b ⟨.node ((us.take (0+i)++[e].take (min [e].length (l.length+1 - i))++us.drop (0+i+min [e].length (l.length+1 - i))).map B7),0,.own⟩:=⟨_,by rw [k5];exact P6 hb1 (ev hv1) (by simp only [List.length_singleton];omega),rfl⟩
   have hm1:min [e].length (l.length+1 - i)=1:=by simp only [List.length_singleton];omega
   rw [hm1,Nat.zero_add] at k8
   have ff:=E3 g0 g1 g2 lx lv f4 f5 f7 f8 ad2
   refine A0h (x:=?_)
   clear ff
   refine ⟨x3,H2,κ,rfl,fin (B:=xs.drop (i+1+(l.length - i))) ?_ (by simp;omega)⟩
   rw [k8,k7,List.set_set]
   have e1:us.take i=l.take i:=by
    rw [hus,List.append_assoc,List.take_append_of_le_length (by simp;omega),List.take_take,Nat.min_eq_left (by omega),Z0 ht (by omega)]
   have e2:us.drop (i+1)=l.drop i++xs.drop (i+1+(l.length - i)):=by
    rw [hus,List.append_assoc];exact List.drop_left' (by simp;omega)
   rw [e1,e2];simp
  ·obtain ⟨H1,f7,k7⟩:∃ G,M8 B1 y6 (.slice vb 0 [] B1 0 1 (some 1)) H=some (nat (min [e].length (l.length+1 - l.length)),G)∧G=H.set b ⟨.node ((xs.take (0+l.length)++[e].take (min [e].length (l.length+1 - l.length))++xs.drop (0+l.length+min [e].length (l.length+1 - l.length))).map B7),0,.own⟩:=⟨_,by rw [k6];exact P6 hb (ev hv) (by simp only [List.length_singleton];omega),rfl⟩
   have hm1:min [e].length (l.length+1 - l.length)=1:=by simp only [List.length_singleton];omega
   rw [hm1,Nat.zero_add,ht] at k7
   have ff:=E3 g0 g1 g2 lx lv f4 f5 f6 f7 ad2
   refine A0h (x:=?_)
   clear ff
   have hb1:H1[b]?=some ⟨.node ((l.take i++(l.drop i++[e])++xs.drop (l.length+1)).map B7),0,.own⟩:=by
    rw [k7,List.getElem?_set_self hlt]
    have:l++[e].take 1++xs.drop (l.length+1)=l.take i++(l.drop i++[e])++xs.drop (l.length+1):=by rw [←List.append_assoc (l.take i),List.take_append_drop];simp
    rw [this]
   rw [k5,Nat.zero_add]
   refine SpecQ.step (G1X hb1 (by simp;omega) (by simp;omega) (by simp;omega) (by omega) (by omega)) ?_
   rintro _ ⟨v,rfl⟩
   obtain ⟨H2,h2⟩:∃ G,G=H1.set b ⟨.node ((l.take i++(e::l.drop i)++xs.drop (l.length+1)).map B7),0,.own⟩:=⟨_,rfl⟩
   rw [←h2]
   have ff:=aI3 g0 g1 g2
   refine A0h (x:=?_)
   clear ff
   exact ⟨x3,H2,κ,rfl,fin (B:=xs.drop (l.length+1)) (by rw [h2,k7,List.set_set]) (by simp;omega)⟩
theorem G1q {κ:Nat→Nat} {k:Nat} {H:A3} {x:AV} {l:List Ask} {i:Nat} (r:KRow κ k B5 B9 H x l) (hi:i < l.length):SpecQ Tryz.prog 102 [x,nat i,nat (i+1)] H fun r=>∃ x' H',r=(x',H')∧KRow κ k B5 B9 H' x' (l.take i++l.drop (i+1))∧Chg κ k H κ H':=by
 obtain ⟨hl,⟨rfl,_⟩|⟨b,c,xs,hk,rfl,hb,hc,h0,ht⟩⟩:=r
 ·simp at hi
 have hle:l.length≤c:=by
  have:=congrArg List.length ht
  rw [List.length_take] at this;omega
 have hlt:=(List.getElem?_eq_some_iff.1 hb).1
 refine G1g fun env g0 g1 g2=>?_
 have lx:L9 (.slice b 0 [] B5 0 l.length (some c))=some (nat l.length):=rfl
 have hii:¬ i=i+1:=by omega
 obtain ⟨y1,f1,k1⟩:∃ y,C9 B5 (.slice b 0 [] B5 0 l.length (some c)) (some (nat i)) (some (nat (i+1))) (some (nat l.length))=some y∧y=.slice b 0 [] B5 (0+i) (i+1 - i) (some (l.length - i)):=⟨_,A7Z (by omega) (by omega) hle,rfl⟩
 obtain ⟨y2,f2,k2⟩:∃ y,C9 B5 (.slice b 0 [] B5 0 l.length (some c)) none (some (nat i)) none=some y∧y=.slice b 0 [] B5 0 i (some c):=⟨_,T6 (by omega),rfl⟩
 obtain ⟨y3,f3,k3⟩:∃ y,C9 B5 (.slice b 0 [] B5 0 l.length (some c)) (some (nat (i+1))) none none=some y∧y=.slice b 0 [] B5 (0+(i+1)) (l.length - (i+1)) (some (c - (i+1))):=⟨_,K2 (by omega),rfl⟩
 have ff:=aI8 g0 g1 g2 lx hii f1 f2 f3
 refine D87 (x:=?_)
 clear ff
 rw [k2,k3]
 have hd:(l.drop (i+1)).length=l.length - (i+1):=List.length_drop ..
 refine A31 (ms:=l.drop (i+1)) hb (by rw [M3 hb (by omega),Nat.zero_add,Z3 ht]) hc (by rw [hd];omega) ?_
 rw [hd,show i+(l.length - (i+1))=l.length - 1 by omega]
 obtain ⟨xs1,hx1⟩:∃ xs1,xs1=xs.take i++l.drop (i+1)++xs.drop (l.length - 1):=⟨_,rfl⟩
 have hxl:xs1.length=c:=by rw [hx1];simp;omega
 obtain ⟨H1,h1⟩:∃ H1,H1=H.set b ⟨.node (xs1.map B9),0,.own⟩:=⟨_,rfl⟩
 rw [←hx1,←h1]
 have hb1:H1[b]?=some ⟨.node (xs1.map B9),0,.own⟩:=by rw [h1,List.getElem?_set_self hlt]
 obtain ⟨x2,hx2⟩:∃ x2,x2=AV.slice b 0 [] B5 0 (l.length - 1) (some c):=⟨_,rfl⟩
 rw [←hx2]
 have lx2:L9 x2=some (nat (l.length - 1)):=by rw [hx2];rfl
 obtain ⟨y4,f4,k4⟩:∃ y,C9 B5 x2 (some (nat (l.length - 1))) (some (nat l.length)) none=some y∧y=.slice b 0 [] B5 (0+(l.length - 1)) (l.length - (l.length - 1)) (some (c - (l.length - 1))):=⟨_,by rw [hx2];exact A7a (by omega) (by omega),rfl⟩
 obtain ⟨H2,f5,k5⟩:∃ G,Z6 B5 (B9 (⟨ci0,0#32⟩:Ask)) y4 H1=some (.tuple [],G)∧G=H1.set b ⟨.node ((xs1.take (0+(l.length - 1))++List.replicate (l.length - (l.length - 1)) (⟨ci0,0#32⟩:Ask)++xs1.drop (0+(l.length - 1)+(l.length - (l.length - 1)))).map B9),0,.own⟩:=⟨_,by rw [k4];exact A5c (fun _ => rfl) hb1 (by omega) (by omega),rfl⟩
 have ff:=aI6 g0 g1 g2 lx2 f4 f5
 refine D87 (x:=?_)
 clear ff
 refine ⟨_,H2,rfl,?_⟩
 have hll:(l.take i++l.drop (i+1)).length=l.length - 1:=by simp;omega
 have ht2:xs1.take (l.length - 1)=l.take i++l.drop (i+1):=by
  rw [hx1,Z0 ht (by omega)]
  exact List.take_left' hll
 have:=g9 (κ:=κ) (k:=k) (t:=B5) (E:=B9) (H:=H) (b:=b) (l:=l.take i++l.drop (i+1)) (xs:=xs) (xs':=xs1.take (0+(l.length - 1))++List.replicate (l.length - (l.length - 1)) (⟨ci0,0#32⟩:Ask)++xs1.drop (0+(l.length - 1)+(l.length - (l.length - 1)))) (c:=c) hk hb (by omega) (by simp;omega) h0 (by
  rw [hll,List.append_assoc,Nat.zero_add,ht2];exact List.take_left' hll)
 rw [hll,←hx2] at this
 rw [k5,h1,List.set_set]
 exact this
theorem G1r {κ:Nat→Nat} {k:Nat} {H:A3} {x:AV} {l:List Ask} {i vb:Nat} {e:Ask} (r:KRow κ k B5 B9 H x l) (hi:i≤l.length) (hl:l.length < 1000) (hv:H[vb]?=some ⟨.node [B9 e],0,.own⟩) (hvk:κ vb≠k):SpecQ Tryz.prog 105 [x,nat i,.slice vb 0 [] B5 0 1 (some 1)] H fun r=>∃ x' H' κ',r=(x',H')∧KRow κ' k B5 B9 H' x' (l.take i++e::l.drop i)∧Chg κ k H κ' H':=by
 have rr:Row B5 H x (l.map B9):=r.row
 have lx:=r.len
 have lv:L9 (.slice vb 0 [] B5 0 1 (some 1))=some (nat 1):=rfl
 have ev:∀ {G:A3},G[vb]?=some ⟨.node [B9 e],0,.own⟩→C7 B5 (.slice vb 0 [] B5 0 1 (some 1)) G=some (.node ([e].map B9)):=fun hG=>M3 (xs:=[e]) (t:=B5) (off:=0) (n:=1) hG (by simp)
 obtain ⟨y0,f0,_⟩:=rr.suf (n:=i) (by simpa using hi)
 refine G1k fun env g0 g1 g2=>?_
 by_cases hin:i=l.length
 ·subst hin
  have ff:=aI6 g0 g1 g2 lx lv f0
  refine A0i (x:=?_)
  clear ff
  refine A7b (E:=B9) (t:=B5) (z:=(⟨ci0,0#32⟩:Ask)) i9 (fun _ => rfl) r (ev hv) hl ?_ fun x' H' κ' w1 w2=>?_
  ·decide
  have ff:=g0
  refine A0i (x:=?_)
  clear ff
  refine ⟨x',H',κ',rfl,?_,w2⟩
  rw [List.take_length,List.drop_length];exact w1
 have hi':i < l.length:=by omega
 obtain ⟨_,⟨rfl,_⟩|⟨b,c,xs,hk,rfl,hb,hc,h0,ht⟩⟩:=r
 ·simp at hi'
 have hle:l.length≤c:=by
  have:=congrArg List.length ht
  rw [List.length_take] at this;omega
 have hlt:=(List.getElem?_eq_some_iff.1 hb).1
 have hvl:=(List.getElem?_eq_some_iff.1 hv).1
 have hvb:vb≠b:=fun q=>hvk (by rw [q];exact hk)
 have cx:A0B (.slice b 0 [] B5 0 l.length (some c))=some (nat c):=rfl
 have ad:C6 .add (nat l.length) (nat 1)=some (nat (l.length+1)):=Q0 (by omega)
 have ad2:C6 .add (nat i) (nat 1)=some (nat (i+1)):=Q0 (by omega)
 by_cases hroom:c < l.length+1
 ·-- a new block
  have sb:C6 .sub (nat (l.length+1)) (nat i)=some (nat (l.length+1 - i)):=S2 (by omega) (by omega)
  obtain ⟨y2,f2,k2⟩:∃ y,C9 B5 (.slice b 0 [] B5 0 l.length (some c)) none (some (nat i)) none=some y∧y=.slice b 0 [] B5 0 i (some c):=⟨_,T6 (by omega),rfl⟩
  obtain ⟨y3,f3,k3⟩:∃ y,C9 B5 (.slice b 0 [] B5 0 l.length (some c)) (some (nat i)) none none=some y∧y=.slice b 0 [] B5 (0+i) (l.length - i) (some (c - i)):=⟨_,K2 (by omega),rfl⟩
  have ff:=F8 g0 g1 g2 lx lv f2 f3 hin cx hroom ad sb
  refine A0i (x:=?_)
  clear ff
  rw [k2]
  refine A7c (E:=B9) (t:=B5) (z:=(⟨ci0,0#32⟩:Ask)) (fun _ => rfl) hb hc (by omega) (by omega) (by omega) (by omega) (by omega) fun c' hc'=>?_
  rw [show i+(l.length+1 - i)=l.length+1 by omega] at hc' ⊢
  obtain ⟨us,hus⟩:∃ us,us=xs.take i++List.replicate (c' - i) (⟨ci0,0#32⟩:Ask):=⟨_,rfl⟩
  have hul:us.length=c':=by rw [hus];simp;omega
  obtain ⟨H1,h1⟩:∃ H1,H1=H++[⟨.node (us.map B9),0,.own⟩]:=⟨_,rfl⟩
  obtain ⟨x2,hx2⟩:∃ x2,x2=AV.slice H.length 0 [] B5 0 (l.length+1) (some c'):=⟨_,rfl⟩
  rw [←hus,←h1,←hx2]
  have hb1:H1[H.length]?=some ⟨.node (us.map B9),0,.own⟩:=by rw [h1];simp
  obtain ⟨y4,f4,k4⟩:∃ y,C9 B5 x2 (some (nat i)) none none=some y∧y=.slice H.length 0 [] B5 (0+i) (l.length+1 - i) (some (c' - i)):=⟨_,by rw [hx2];exact K2 (by omega),rfl⟩
  obtain ⟨y5,f5,k5⟩:∃ y,C9 B5 x2 (some (nat (i+1))) none none=some y∧y=.slice H.length 0 [] B5 (0+(i+1)) (l.length+1 - (i+1)) (some (c' - (i+1))):=⟨_,by rw [hx2];exact K2 (by omega),rfl⟩
  obtain ⟨H2,f6,k6⟩:∃ G,M8 B5 y4 (.slice vb 0 [] B5 0 1 (some 1)) H1=some (nat (min [e].length (l.length+1 - i)),G)∧G=H1.set H.length ⟨.node ((us.take (0+i)++[e].take (min [e].length (l.length+1 - i))++us.drop (0+i+min [e].length (l.length+1 - i))).map B9),0,.own⟩:=⟨_,by rw [k4];exact P6 hb1 (ev (by rw [h1,List.getElem?_append_left hvl];exact hv)) (by simp only [List.length_singleton];omega),rfl⟩
  have hm1:min [e].length (l.length+1 - i)=1:=by simp only [List.length_singleton];omega
  rw [hm1,Nat.zero_add] at k6
  rw [hm1] at f6
  obtain ⟨us2,hus2⟩:∃ us2,us2=us.take i++[e].take 1++us.drop (i+1):=⟨_,rfl⟩
  rw [←hus2] at k6
  have hul2:us2.length=c':=by rw [hus2];simp;omega
  have hb2:H2[H.length]?=some ⟨.node (us2.map B9),0,.own⟩:=by rw [k6,List.getElem?_set_self (by rw [h1];simp)]
  have hbo:H2[b]?=some ⟨.node (xs.map B9),0,.own⟩:=by rw [k6,List.getElem?_set_ne (by omega),h1,List.getElem?_append_left hlt];exact hb
  have hdl:(l.drop i).length=l.length - i:=List.length_drop ..
  obtain ⟨H3,f7,k7⟩:∃ G,M8 B5 y5 y3 H2=some (nat (min (l.drop i).length (l.length+1 - (i+1))),G)∧G=H2.set H.length ⟨.node ((us2.take (0+(i+1))++(l.drop i).take (min (l.drop i).length (l.length+1 - (i+1)))++us2.drop (0+(i+1)+min (l.drop i).length (l.length+1 - (i+1)))).map B9),0,.own⟩:=⟨_,by rw [k5,k3];exact P6 hb2 (by rw [M3 hbo (by omega),Nat.zero_add,Z3 ht]) (by rw [hdl];omega),rfl⟩
  have hm2:min (l.drop i).length (l.length+1 - (i+1))=l.length - i:=by rw [hdl];omega
  have tt:(l.drop i).take (l.length - i)=l.drop i:=List.take_of_length_le (by omega)
  rw [hm2,Nat.zero_add,tt] at k7
  have ff:=D8 g0 g1 g2 lx lv f3 f4 f5 f6 f7 ad2
  refine A0i (x:=?_)
  clear ff
  refine ⟨x2,H3,fun j=>if j=H.length then k else κ j,rfl,?_⟩
  obtain ⟨us3,hus3⟩:∃ us3,us3=us2.take (i+1)++l.drop i++us2.drop (i+1+(l.length - i)):=⟨_,rfl⟩
  rw [←hus3] at k7
  have e1:us2.take (i+1)=l.take i++[e]:=by
   have hq:(l.take i++[e]).length=i+1:=by simp;omega
   have h0:us.take i=l.take i:=by rw [hus,List.take_left' (by simp;omega),Z0 ht (by omega)]
   have h1:[e].take 1=[e]:=rfl
   rw [hus2,h0,h1]
   exact List.take_left' hq
  have e2:us3=(l.take i++e::l.drop i)++us2.drop (i+1+(l.length - i)):=by rw [hus3,e1];simp
  obtain ⟨e3,e4⟩:=A0s (c:=c) (B:=us2.drop (i+1+(l.length - i))) hi ht e
  have:=A1E (κ:=κ) (k:=k) (t:=B5) (E:=B9) (H:=H) (l:=l.take i++e::l.drop i) (xs:=us3) (c:=c') (by omega) (by rw [e2];simp;omega) (by omega) (by rw [e3,e2];exact e4)
  rw [e3,←hx2] at this
  have e5:H3=H++[⟨.node (us3.map B9),0,.own⟩]:=by
   rw [k7,k6,h1,List.set_set];simp
  rw [e5];exact this
 ·-- in place
  have hroom':l.length+1≤c:=by omega
  obtain ⟨x3,f1,k1⟩:∃ y,C9 B5 (.slice b 0 [] B5 0 l.length (some c)) none (some (nat (l.length+1))) none=some y∧y=.slice b 0 [] B5 0 (l.length+1) (some c):=⟨_,T6 hroom',rfl⟩
  obtain ⟨y4,f4,k4⟩:∃ y,C9 B5 x3 (some (nat (i+1))) none none=some y∧y=.slice b 0 [] B5 (0+(i+1)) (l.length+1 - (i+1)) (some (c - (i+1))):=⟨_,by rw [k1];exact K2 (by omega),rfl⟩
  obtain ⟨y5,f5,k5⟩:∃ y,C9 B5 x3 (some (nat i)) none none=some y∧y=.slice b 0 [] B5 (0+i) (l.length+1 - i) (some (c - i)):=⟨_,by rw [k1];exact K2 (by omega),rfl⟩
  obtain ⟨y6,f6,k6⟩:∃ y,C9 B5 x3 (some (nat l.length)) none none=some y∧y=.slice b 0 [] B5 (0+l.length) (l.length+1 - l.length) (some (c - l.length)):=⟨_,by rw [k1];exact K2 (by omega),rfl⟩
  have fin:∀ {H3:A3} {B:List Ask},H3=H.set b ⟨.node (((l.take i++e::l.drop i)++B).map B9),0,.own⟩→B.length=c - (l.length+1)→KRow κ k B5 B9 H3 x3 (l.take i++e::l.drop i)∧Chg κ k H κ H3:=by
   intro H3 B hH3 hB
   obtain ⟨e3,e4⟩:=A0s (c:=c) (B:=B) hi ht e
   have:=g9 (κ:=κ) (k:=k) (t:=B5) (E:=B9) (H:=H) (b:=b) (l:=l.take i++e::l.drop i) (xs:=xs) (xs':=(l.take i++e::l.drop i)++B) (c:=c) hk hb (by omega) (by rw [List.length_append,e3];omega) h0 (by rw [e3];exact e4)
   rw [e3,←k1,←hH3] at this
   exact this
  have ff:=H7 g0 g1 g2 lx lv f0 f1 f4 hin cx hroom ad ad2
  refine A0i (x:=?_)
  clear ff
  refine SpecQ.step (G1Y hv hb hvb k4 (ev hv) (M3 hb (by omega)) (by omega) (by omega)) ?_
  rintro _ ⟨v,rfl⟩
  cases v
  ·obtain ⟨H1,f7,k7⟩:∃ G,M8 B5 y4 y5 H=some (nat (min ((xs.drop (0+i)).take (l.length+1 - i)).length (l.length+1 - (i+1))),G)∧G=H.set b ⟨.node ((xs.take (0+(i+1))++((xs.drop (0+i)).take (l.length+1 - i)).take (min ((xs.drop (0+i)).take (l.length+1 - i)).length (l.length+1 - (i+1)))++xs.drop (0+(i+1)+min ((xs.drop (0+i)).take (l.length+1 - i)).length (l.length+1 - (i+1)))).map B9),0,.own⟩:=⟨_,by rw [k4,k5];exact P6 hb (M3 hb (by omega)) (by simp;omega),rfl⟩
   have hm:min ((xs.drop (0+i)).take (l.length+1 - i)).length (l.length+1 - (i+1))=l.length - i:=by simp;omega
   rw [hm,Nat.zero_add,Nat.zero_add,List.take_take,Nat.min_eq_left (by omega),Z3 ht] at k7
   obtain ⟨us,hus⟩:∃ us,us=xs.take (i+1)++l.drop i++xs.drop (i+1+(l.length - i)):=⟨_,rfl⟩
   rw [←hus] at k7
   have hul:us.length=c:=by rw [hus];simp;omega
   have hb1:H1[b]?=some ⟨.node (us.map B9),0,.own⟩:=by rw [k7,List.getElem?_set_self hlt]
   have hv1:H1[vb]?=some ⟨.node [B9 e],0,.own⟩:=by rw [k7,List.getElem?_set_ne (fun q=>hvb q.symm)];exact hv
   obtain ⟨H2,f8,k8⟩:∃ G,M8 B5 y5 (.slice vb 0 [] B5 0 1 (some 1)) H1=some (nat (min [e].length (l.length+1 - i)),G)∧G=H1.set b ⟨.node ((us.take (0+i)++[e].take (min [e].length (l.length+1 - i))++us.drop (0+i+min [e].length (l.length+1 - i))).map B9),0,.own⟩:=⟨_,by rw [k5];exact P6 hb1 (ev hv1) (by simp only [List.length_singleton];omega),rfl⟩
   have hm1:min [e].length (l.length+1 - i)=1:=by simp only [List.length_singleton];omega
   rw [hm1,Nat.zero_add] at k8
   have ff:=E3 g0 g1 g2 lx lv f4 f5 f7 f8 ad2
   refine A0i (x:=?_)
   clear ff
   refine ⟨x3,H2,κ,rfl,fin (B:=xs.drop (i+1+(l.length - i))) ?_ (by simp;omega)⟩
   rw [k8,k7,List.set_set]
   have e1:us.take i=l.take i:=by
    rw [hus,List.append_assoc,List.take_append_of_le_length (by simp;omega),List.take_take,Nat.min_eq_left (by omega),Z0 ht (by omega)]
   have e2:us.drop (i+1)=l.drop i++xs.drop (i+1+(l.length - i)):=by
    rw [hus,List.append_assoc];exact List.drop_left' (by simp;omega)
   rw [e1,e2];simp
  ·obtain ⟨H1,f7,k7⟩:∃ G,M8 B5 y6 (.slice vb 0 [] B5 0 1 (some 1)) H=some (nat (min [e].length (l.length+1 - l.length)),G)∧G=H.set b ⟨.node ((xs.take (0+l.length)++[e].take (min [e].length (l.length+1 - l.length))++xs.drop (0+l.length+min [e].length (l.length+1 - l.length))).map B9),0,.own⟩:=⟨_,by rw [k6];exact P6 hb (ev hv) (by simp only [List.length_singleton];omega),rfl⟩
   have hm1:min [e].length (l.length+1 - l.length)=1:=by simp only [List.length_singleton];omega
   rw [hm1,Nat.zero_add,ht] at k7
   have ff:=E3 g0 g1 g2 lx lv f4 f5 f6 f7 ad2
   refine A0i (x:=?_)
   clear ff
   have hb1:H1[b]?=some ⟨.node ((l.take i++(l.drop i++[e])++xs.drop (l.length+1)).map B9),0,.own⟩:=by
    rw [k7,List.getElem?_set_self hlt]
    have:l++[e].take 1++xs.drop (l.length+1)=l.take i++(l.drop i++[e])++xs.drop (l.length+1):=by rw [←List.append_assoc (l.take i),List.take_append_drop];simp
    rw [this]
   rw [k5,Nat.zero_add]
   refine SpecQ.step (G1a hb1 (by simp;omega) (by simp;omega) (by simp;omega) (by omega) (by omega)) ?_
   rintro _ ⟨v,rfl⟩
   obtain ⟨H2,h2⟩:∃ G,G=H1.set b ⟨.node ((l.take i++(e::l.drop i)++xs.drop (l.length+1)).map B9),0,.own⟩:=⟨_,rfl⟩
   rw [←h2]
   have ff:=aI3 g0 g1 g2
   refine A0i (x:=?_)
   clear ff
   exact ⟨x3,H2,κ,rfl,fin (B:=xs.drop (l.length+1)) (by rw [h2,k7,List.set_set]) (by simp;omega)⟩
theorem G1s {κ:Nat→Nat} {k:Nat} {H:A3} {x:AV} {l:List Ban} {i:Nat} (r:KRow κ k B4 B2 H x l) (hi:i < l.length):SpecQ Tryz.prog 128 [x,nat i,nat (i+1)] H fun r=>∃ x' H',r=(x',H')∧KRow κ k B4 B2 H' x' (l.take i++l.drop (i+1))∧Chg κ k H κ H':=by
 obtain ⟨hl,⟨rfl,_⟩|⟨b,c,xs,hk,rfl,hb,hc,h0,ht⟩⟩:=r
 ·simp at hi
 have hle:l.length≤c:=by
  have:=congrArg List.length ht
  rw [List.length_take] at this;omega
 have hlt:=(List.getElem?_eq_some_iff.1 hb).1
 refine G1h fun env g0 g1 g2=>?_
 have lx:L9 (.slice b 0 [] B4 0 l.length (some c))=some (nat l.length):=rfl
 have hii:¬ i=i+1:=by omega
 obtain ⟨y1,f1,k1⟩:∃ y,C9 B4 (.slice b 0 [] B4 0 l.length (some c)) (some (nat i)) (some (nat (i+1))) (some (nat l.length))=some y∧y=.slice b 0 [] B4 (0+i) (i+1 - i) (some (l.length - i)):=⟨_,A7Z (by omega) (by omega) hle,rfl⟩
 obtain ⟨y2,f2,k2⟩:∃ y,C9 B4 (.slice b 0 [] B4 0 l.length (some c)) none (some (nat i)) none=some y∧y=.slice b 0 [] B4 0 i (some c):=⟨_,T6 (by omega),rfl⟩
 obtain ⟨y3,f3,k3⟩:∃ y,C9 B4 (.slice b 0 [] B4 0 l.length (some c)) (some (nat (i+1))) none none=some y∧y=.slice b 0 [] B4 (0+(i+1)) (l.length - (i+1)) (some (c - (i+1))):=⟨_,K2 (by omega),rfl⟩
 have ff:=aI8 g0 g1 g2 lx hii f1 f2 f3
 refine D88 (x:=?_)
 clear ff
 rw [k2,k3]
 have hd:(l.drop (i+1)).length=l.length - (i+1):=List.length_drop ..
 refine A31 (ms:=l.drop (i+1)) hb (by rw [M3 hb (by omega),Nat.zero_add,Z3 ht]) hc (by rw [hd];omega) ?_
 rw [hd,show i+(l.length - (i+1))=l.length - 1 by omega]
 obtain ⟨xs1,hx1⟩:∃ xs1,xs1=xs.take i++l.drop (i+1)++xs.drop (l.length - 1):=⟨_,rfl⟩
 have hxl:xs1.length=c:=by rw [hx1];simp;omega
 obtain ⟨H1,h1⟩:∃ H1,H1=H.set b ⟨.node (xs1.map B2),0,.own⟩:=⟨_,rfl⟩
 rw [←hx1,←h1]
 have hb1:H1[b]?=some ⟨.node (xs1.map B2),0,.own⟩:=by rw [h1,List.getElem?_set_self hlt]
 obtain ⟨x2,hx2⟩:∃ x2,x2=AV.slice b 0 [] B4 0 (l.length - 1) (some c):=⟨_,rfl⟩
 rw [←hx2]
 have lx2:L9 x2=some (nat (l.length - 1)):=by rw [hx2];rfl
 obtain ⟨y4,f4,k4⟩:∃ y,C9 B4 x2 (some (nat (l.length - 1))) (some (nat l.length)) none=some y∧y=.slice b 0 [] B4 (0+(l.length - 1)) (l.length - (l.length - 1)) (some (c - (l.length - 1))):=⟨_,by rw [hx2];exact A7a (by omega) (by omega),rfl⟩
 obtain ⟨H2,f5,k5⟩:∃ G,Z6 B4 (B2 (⟨ci0,ci0⟩:Ban)) y4 H1=some (.tuple [],G)∧G=H1.set b ⟨.node ((xs1.take (0+(l.length - 1))++List.replicate (l.length - (l.length - 1)) (⟨ci0,ci0⟩:Ban)++xs1.drop (0+(l.length - 1)+(l.length - (l.length - 1)))).map B2),0,.own⟩:=⟨_,by rw [k4];exact A5c (fun _ => rfl) hb1 (by omega) (by omega),rfl⟩
 have ff:=aI6 g0 g1 g2 lx2 f4 f5
 refine D88 (x:=?_)
 clear ff
 refine ⟨_,H2,rfl,?_⟩
 have hll:(l.take i++l.drop (i+1)).length=l.length - 1:=by simp;omega
 have ht2:xs1.take (l.length - 1)=l.take i++l.drop (i+1):=by
  rw [hx1,Z0 ht (by omega)]
  exact List.take_left' hll
 have:=g9 (κ:=κ) (k:=k) (t:=B4) (E:=B2) (H:=H) (b:=b) (l:=l.take i++l.drop (i+1)) (xs:=xs) (xs':=xs1.take (0+(l.length - 1))++List.replicate (l.length - (l.length - 1)) (⟨ci0,ci0⟩:Ban)++xs1.drop (0+(l.length - 1)+(l.length - (l.length - 1)))) (c:=c) hk hb (by omega) (by simp;omega) h0 (by
  rw [hll,List.append_assoc,Nat.zero_add,ht2];exact List.take_left' hll)
 rw [hll,←hx2] at this
 rw [k5,h1,List.set_set]
 exact this
theorem G1t {κ:Nat→Nat} {k:Nat} {H:A3} {x:AV} {l:List Ban} {i vb:Nat} {e:Ban} (r:KRow κ k B4 B2 H x l) (hi:i≤l.length) (hl:l.length < 1000) (hv:H[vb]?=some ⟨.node [B2 e],0,.own⟩) (hvk:κ vb≠k):SpecQ Tryz.prog 129 [x,nat i,.slice vb 0 [] B4 0 1 (some 1)] H fun r=>∃ x' H' κ',r=(x',H')∧KRow κ' k B4 B2 H' x' (l.take i++e::l.drop i)∧Chg κ k H κ' H':=by
 have rr:Row B4 H x (l.map B2):=r.row
 have lx:=r.len
 have lv:L9 (.slice vb 0 [] B4 0 1 (some 1))=some (nat 1):=rfl
 have ev:∀ {G:A3},G[vb]?=some ⟨.node [B2 e],0,.own⟩→C7 B4 (.slice vb 0 [] B4 0 1 (some 1)) G=some (.node ([e].map B2)):=fun hG=>M3 (xs:=[e]) (t:=B4) (off:=0) (n:=1) hG (by simp)
 obtain ⟨y0,f0,_⟩:=rr.suf (n:=i) (by simpa using hi)
 refine G1l fun env g0 g1 g2=>?_
 by_cases hin:i=l.length
 ·subst hin
  have ff:=aI6 g0 g1 g2 lx lv f0
  refine A0j (x:=?_)
  clear ff
  refine A7b (E:=B2) (t:=B4) (z:=(⟨ci0,ci0⟩:Ban)) j0 (fun _ => rfl) r (ev hv) hl ?_ fun x' H' κ' w1 w2=>?_
  ·decide
  have ff:=g0
  refine A0j (x:=?_)
  clear ff
  refine ⟨x',H',κ',rfl,?_,w2⟩
  rw [List.take_length,List.drop_length];exact w1
 have hi':i < l.length:=by omega
 obtain ⟨_,⟨rfl,_⟩|⟨b,c,xs,hk,rfl,hb,hc,h0,ht⟩⟩:=r
 ·simp at hi'
 have hle:l.length≤c:=by
  have:=congrArg List.length ht
  rw [List.length_take] at this;omega
 have hlt:=(List.getElem?_eq_some_iff.1 hb).1
 have hvl:=(List.getElem?_eq_some_iff.1 hv).1
 have hvb:vb≠b:=fun q=>hvk (by rw [q];exact hk)
 have cx:A0B (.slice b 0 [] B4 0 l.length (some c))=some (nat c):=rfl
 have ad:C6 .add (nat l.length) (nat 1)=some (nat (l.length+1)):=Q0 (by omega)
 have ad2:C6 .add (nat i) (nat 1)=some (nat (i+1)):=Q0 (by omega)
 by_cases hroom:c < l.length+1
 ·-- a new block
  have sb:C6 .sub (nat (l.length+1)) (nat i)=some (nat (l.length+1 - i)):=S2 (by omega) (by omega)
  obtain ⟨y2,f2,k2⟩:∃ y,C9 B4 (.slice b 0 [] B4 0 l.length (some c)) none (some (nat i)) none=some y∧y=.slice b 0 [] B4 0 i (some c):=⟨_,T6 (by omega),rfl⟩
  obtain ⟨y3,f3,k3⟩:∃ y,C9 B4 (.slice b 0 [] B4 0 l.length (some c)) (some (nat i)) none none=some y∧y=.slice b 0 [] B4 (0+i) (l.length - i) (some (c - i)):=⟨_,K2 (by omega),rfl⟩
  have ff:=F8 g0 g1 g2 lx lv f2 f3 hin cx hroom ad sb
  refine A0j (x:=?_)
  clear ff
  rw [k2]
  refine A7c (E:=B2) (t:=B4) (z:=(⟨ci0,ci0⟩:Ban)) (fun _ => rfl) hb hc (by omega) (by omega) (by omega) (by omega) (by omega) fun c' hc'=>?_
  rw [show i+(l.length+1 - i)=l.length+1 by omega] at hc' ⊢
  obtain ⟨us,hus⟩:∃ us,us=xs.take i++List.replicate (c' - i) (⟨ci0,ci0⟩:Ban):=⟨_,rfl⟩
  have hul:us.length=c':=by rw [hus];simp;omega
  obtain ⟨H1,h1⟩:∃ H1,H1=H++[⟨.node (us.map B2),0,.own⟩]:=⟨_,rfl⟩
  obtain ⟨x2,hx2⟩:∃ x2,x2=AV.slice H.length 0 [] B4 0 (l.length+1) (some c'):=⟨_,rfl⟩
  rw [←hus,←h1,←hx2]
  have hb1:H1[H.length]?=some ⟨.node (us.map B2),0,.own⟩:=by rw [h1];simp
  obtain ⟨y4,f4,k4⟩:∃ y,C9 B4 x2 (some (nat i)) none none=some y∧y=.slice H.length 0 [] B4 (0+i) (l.length+1 - i) (some (c' - i)):=⟨_,by rw [hx2];exact K2 (by omega),rfl⟩
  obtain ⟨y5,f5,k5⟩:∃ y,C9 B4 x2 (some (nat (i+1))) none none=some y∧y=.slice H.length 0 [] B4 (0+(i+1)) (l.length+1 - (i+1)) (some (c' - (i+1))):=⟨_,by rw [hx2];exact K2 (by omega),rfl⟩
  obtain ⟨H2,f6,k6⟩:∃ G,M8 B4 y4 (.slice vb 0 [] B4 0 1 (some 1)) H1=some (nat (min [e].length (l.length+1 - i)),G)∧G=H1.set H.length ⟨.node ((us.take (0+i)++[e].take (min [e].length (l.length+1 - i))++us.drop (0+i+min [e].length (l.length+1 - i))).map B2),0,.own⟩:=⟨_,by rw [k4];exact P6 hb1 (ev (by rw [h1,List.getElem?_append_left hvl];exact hv)) (by simp only [List.length_singleton];omega),rfl⟩
  have hm1:min [e].length (l.length+1 - i)=1:=by simp only [List.length_singleton];omega
  rw [hm1,Nat.zero_add] at k6
  rw [hm1] at f6
  obtain ⟨us2,hus2⟩:∃ us2,us2=us.take i++[e].take 1++us.drop (i+1):=⟨_,rfl⟩
  rw [←hus2] at k6
  have hul2:us2.length=c':=by rw [hus2];simp;omega
  have hb2:H2[H.length]?=some ⟨.node (us2.map B2),0,.own⟩:=by rw [k6,List.getElem?_set_self (by rw [h1];simp)]
  have hbo:H2[b]?=some ⟨.node (xs.map B2),0,.own⟩:=by rw [k6,List.getElem?_set_ne (by omega),h1,List.getElem?_append_left hlt];exact hb
  have hdl:(l.drop i).length=l.length - i:=List.length_drop ..
  obtain ⟨H3,f7,k7⟩:∃ G,M8 B4 y5 y3 H2=some (nat (min (l.drop i).length (l.length+1 - (i+1))),G)∧G=H2.set H.length ⟨.node ((us2.take (0+(i+1))++(l.drop i).take (min (l.drop i).length (l.length+1 - (i+1)))++us2.drop (0+(i+1)+min (l.drop i).length (l.length+1 - (i+1)))).map B2),0,.own⟩:=⟨_,by rw [k5,k3];exact P6 hb2 (by rw [M3 hbo (by omega),Nat.zero_add,Z3 ht]) (by rw [hdl];omega),rfl⟩
  have hm2:min (l.drop i).length (l.length+1 - (i+1))=l.length - i:=by rw [hdl];omega
  have tt:(l.drop i).take (l.length - i)=l.drop i:=List.take_of_length_le (by omega)
  rw [hm2,Nat.zero_add,tt] at k7
  have ff:=D8 g0 g1 g2 lx lv f3 f4 f5 f6 f7 ad2
  refine A0j (x:=?_)
  clear ff
  refine ⟨x2,H3,fun j=>if j=H.length then k else κ j,rfl,?_⟩
  obtain ⟨us3,hus3⟩:∃ us3,us3=us2.take (i+1)++l.drop i++us2.drop (i+1+(l.length - i)):=⟨_,rfl⟩
  rw [←hus3] at k7
  have e1:us2.take (i+1)=l.take i++[e]:=by
   have hq:(l.take i++[e]).length=i+1:=by simp;omega
   have h0:us.take i=l.take i:=by rw [hus,List.take_left' (by simp;omega),Z0 ht (by omega)]
   have h1:[e].take 1=[e]:=rfl
   rw [hus2,h0,h1]
   exact List.take_left' hq
  have e2:us3=(l.take i++e::l.drop i)++us2.drop (i+1+(l.length - i)):=by rw [hus3,e1];simp
  obtain ⟨e3,e4⟩:=A0s (c:=c) (B:=us2.drop (i+1+(l.length - i))) hi ht e
  have:=A1E (κ:=κ) (k:=k) (t:=B4) (E:=B2) (H:=H) (l:=l.take i++e::l.drop i) (xs:=us3) (c:=c') (by omega) (by rw [e2];simp;omega) (by omega) (by rw [e3,e2];exact e4)
  rw [e3,←hx2] at this
  have e5:H3=H++[⟨.node (us3.map B2),0,.own⟩]:=by
   rw [k7,k6,h1,List.set_set];simp
  rw [e5];exact this
 ·-- in place
  have hroom':l.length+1≤c:=by omega
  obtain ⟨x3,f1,k1⟩:∃ y,C9 B4 (.slice b 0 [] B4 0 l.length (some c)) none (some (nat (l.length+1))) none=some y∧y=.slice b 0 [] B4 0 (l.length+1) (some c):=⟨_,T6 hroom',rfl⟩
  obtain ⟨y4,f4,k4⟩:∃ y,C9 B4 x3 (some (nat (i+1))) none none=some y∧y=.slice b 0 [] B4 (0+(i+1)) (l.length+1 - (i+1)) (some (c - (i+1))):=⟨_,by rw [k1];exact K2 (by omega),rfl⟩
  obtain ⟨y5,f5,k5⟩:∃ y,C9 B4 x3 (some (nat i)) none none=some y∧y=.slice b 0 [] B4 (0+i) (l.length+1 - i) (some (c - i)):=⟨_,by rw [k1];exact K2 (by omega),rfl⟩
  obtain ⟨y6,f6,k6⟩:∃ y,C9 B4 x3 (some (nat l.length)) none none=some y∧y=.slice b 0 [] B4 (0+l.length) (l.length+1 - l.length) (some (c - l.length)):=⟨_,by rw [k1];exact K2 (by omega),rfl⟩
  have fin:∀ {H3:A3} {B:List Ban},H3=H.set b ⟨.node (((l.take i++e::l.drop i)++B).map B2),0,.own⟩→B.length=c - (l.length+1)→KRow κ k B4 B2 H3 x3 (l.take i++e::l.drop i)∧Chg κ k H κ H3:=by
   intro H3 B hH3 hB
   obtain ⟨e3,e4⟩:=A0s (c:=c) (B:=B) hi ht e
   have:=g9 (κ:=κ) (k:=k) (t:=B4) (E:=B2) (H:=H) (b:=b) (l:=l.take i++e::l.drop i) (xs:=xs) (xs':=(l.take i++e::l.drop i)++B) (c:=c) hk hb (by omega) (by rw [List.length_append,e3];omega) h0 (by rw [e3];exact e4)
   rw [e3,←k1,←hH3] at this
   exact this
  have ff:=H7 g0 g1 g2 lx lv f0 f1 f4 hin cx hroom ad ad2
  refine A0j (x:=?_)
  clear ff
  refine SpecQ.step (G1b hv hb hvb k4 (ev hv) (M3 hb (by omega)) (by omega) (by omega)) ?_
  rintro _ ⟨v,rfl⟩
  cases v
  ·obtain ⟨H1,f7,k7⟩:∃ G,M8 B4 y4 y5 H=some (nat (min ((xs.drop (0+i)).take (l.length+1 - i)).length (l.length+1 - (i+1))),G)∧G=H.set b ⟨.node ((xs.take (0+(i+1))++((xs.drop (0+i)).take (l.length+1 - i)).take (min ((xs.drop (0+i)).take (l.length+1 - i)).length (l.length+1 - (i+1)))++xs.drop (0+(i+1)+min ((xs.drop (0+i)).take (l.length+1 - i)).length (l.length+1 - (i+1)))).map B2),0,.own⟩:=⟨_,by rw [k4,k5];exact P6 hb (M3 hb (by omega)) (by simp;omega),rfl⟩
   have hm:min ((xs.drop (0+i)).take (l.length+1 - i)).length (l.length+1 - (i+1))=l.length - i:=by simp;omega
   rw [hm,Nat.zero_add,Nat.zero_add,List.take_take,Nat.min_eq_left (by omega),Z3 ht] at k7
   obtain ⟨us,hus⟩:∃ us,us=xs.take (i+1)++l.drop i++xs.drop (i+1+(l.length - i)):=⟨_,rfl⟩
   rw [←hus] at k7
   have hul:us.length=c:=by rw [hus];simp;omega
   have hb1:H1[b]?=some ⟨.node (us.map B2),0,.own⟩:=by rw [k7,List.getElem?_set_self hlt]
   have hv1:H1[vb]?=some ⟨.node [B2 e],0,.own⟩:=by rw [k7,List.getElem?_set_ne (fun q=>hvb q.symm)];exact hv
   obtain ⟨H2,f8,k8⟩:∃ G,M8 B4 y5 (.slice vb 0 [] B4 0 1 (some 1)) H1=some (nat (min [e].length (l.length+1 - i)),G)∧G=H1.set b ⟨.node ((us.take (0+i)++[e].take (min [e].length (l.length+1 - i))++us.drop (0+i+min [e].length (l.length+1 - i))).map B2),0,.own⟩:=⟨_,by rw [k5];exact P6 hb1 (ev hv1) (by simp only [List.length_singleton];omega),rfl⟩
   have hm1:min [e].length (l.length+1 - i)=1:=by simp only [List.length_singleton];omega
   rw [hm1,Nat.zero_add] at k8
   have ff:=E3 g0 g1 g2 lx lv f4 f5 f7 f8 ad2
   refine A0j (x:=?_)
   clear ff
   refine ⟨x3,H2,κ,rfl,fin (B:=xs.drop (i+1+(l.length - i))) ?_ (by simp;omega)⟩
   rw [k8,k7,List.set_set]
   have e1:us.take i=l.take i:=by
    rw [hus,List.append_assoc,List.take_append_of_le_length (by simp;omega),List.take_take,Nat.min_eq_left (by omega),Z0 ht (by omega)]
   have e2:us.drop (i+1)=l.drop i++xs.drop (i+1+(l.length - i)):=by
    rw [hus,List.append_assoc];exact List.drop_left' (by simp;omega)
   rw [e1,e2];simp
  ·obtain ⟨H1,f7,k7⟩:∃ G,M8 B4 y6 (.slice vb 0 [] B4 0 1 (some 1)) H=some (nat (min [e].length (l.length+1 - l.length)),G)∧G=H.set b ⟨.node ((xs.take (0+l.length)++[e].take (min [e].length (l.length+1 - l.length))++xs.drop (0+l.length+min [e].length (l.length+1 - l.length))).map B2),0,.own⟩:=⟨_,by rw [k6];exact P6 hb (ev hv) (by simp only [List.length_singleton];omega),rfl⟩
   have hm1:min [e].length (l.length+1 - l.length)=1:=by simp only [List.length_singleton];omega
   rw [hm1,Nat.zero_add,ht] at k7
   have ff:=E3 g0 g1 g2 lx lv f4 f5 f6 f7 ad2
   refine A0j (x:=?_)
   clear ff
   have hb1:H1[b]?=some ⟨.node ((l.take i++(l.drop i++[e])++xs.drop (l.length+1)).map B2),0,.own⟩:=by
    rw [k7,List.getElem?_set_self hlt]
    have:l++[e].take 1++xs.drop (l.length+1)=l.take i++(l.drop i++[e])++xs.drop (l.length+1):=by rw [←List.append_assoc (l.take i),List.take_append_drop];simp
    rw [this]
   rw [k5,Nat.zero_add]
   refine SpecQ.step (G1d hb1 (by simp;omega) (by simp;omega) (by simp;omega) (by omega) (by omega)) ?_
   rintro _ ⟨v,rfl⟩
   obtain ⟨H2,h2⟩:∃ G,G=H1.set b ⟨.node ((l.take i++(e::l.drop i)++xs.drop (l.length+1)).map B2),0,.own⟩:=⟨_,rfl⟩
   rw [←h2]
   have ff:=aI3 g0 g1 g2
   refine A0j (x:=?_)
   clear ff
   exact ⟨x3,H2,κ,rfl,fin (B:=xs.drop (l.length+1)) (by rw [h2,k7,List.set_set]) (by simp;omega)⟩
end Go.Vab

namespace Go.Vab
open Go Go.Proofs
noncomputable section
def F2a:Ctx:=⟨fun _ _ _ => none,TT,7,[3,4,5,6]⟩
def D1I:=B8 Tryz.f63
def D1J:=cR D1I
def F0L:=cR D1J
def q63:=zQ1 F2a 63 Tryz.f63 D1I fun s=>(bnd (D6 K9 (s.env.get 2) s.heap) fun v=>bnd (some []) fun vs=>some (v::vs))
def G1u:=B3 F2a [[F0L],[F0L,D1J],[D1J,D1I]]
end
end Go.Vab

namespace Go.Vab
open Go Go.Proofs
noncomputable section
def F2b:Ctx:=⟨fun _ _ _ => none,TT,7,[3,4,5,6]⟩
def D1K:=B8 Tryz.f64
def D1L:=cR D1K
def F0M:=cR D1L
def q64:=zQ1 F2b 64 Tryz.f64 D1K fun s=>(bnd (D6 K8 (s.env.get 2) s.heap) fun v=>bnd (some []) fun vs=>some (v::vs))
def G1v:=B3 F2b [[F0M],[F0M,D1L],[D1L,D1K]]
end
end Go.Vab

namespace Go.Vab
open Go Go.Proofs
noncomputable section
def F2c:Ctx:=⟨fun _ _ _ => none,TT,7,[3,4,5,6]⟩
def D1M:=B8 Tryz.f65
def D1N:=cR D1M
def F0N:=cR D1N
def q65:=zQ1 F2c 65 Tryz.f65 D1M fun s=>(bnd (D6 L0 (s.env.get 2) s.heap) fun v=>bnd (some []) fun vs=>some (v::vs))
def G1w:=B3 F2c [[F0N],[F0N,D1N],[D1N,D1M]]
end
end Go.Vab

namespace Go.Vab
open Go Go.Proofs
noncomputable section
def F2d:Ctx:=⟨fun _ _ _ => none,TT,7,[3,4,5,6]⟩
def D1O:=B8 Tryz.f94
def D1P:=cR D1O
def F0O:=cR D1P
def q94:=zQ1 F2d 94 Tryz.f94 D1O fun s=>(bnd (D6 M7 (s.env.get 2) s.heap) fun v=>bnd (some []) fun vs=>some (v::vs))
def G1x:=B3 F2d [[F0O],[F0O,D1P],[D1P,D1O]]
end
end Go.Vab

namespace Go.Vab
open Go Go.Proofs
noncomputable section
def F2e:Ctx:=⟨fun _ _ _ => none,TT,6,[3,4,5]⟩
def D1Q:=B8 Tryz.f91
def D1R:=cR D1Q
def F0P:=cR D1R
def q91:=zQ1 F2e 91 Tryz.f91 D1Q fun s=>(bnd (some (s.env.get 2)) fun v=>bnd (some []) fun vs=>some (v::vs))
def G1y:=B3 F2e [[F0P],[F0P,D1R],[D1R,D1Q]]
end
end Go.Vab

namespace Go.Vab
open Go Go.Proofs
noncomputable section
def F2f:Ctx:=⟨fun _ _ _ => none,TT,6,[3,4,5]⟩
def D1S:=B8 Tryz.f92
def D1T:=cR D1S
def F0Q:=cR D1T
def q92:=zQ1 F2f 92 Tryz.f92 D1S fun s=>(bnd (some (s.env.get 2)) fun v=>bnd (some []) fun vs=>some (v::vs))
def G1z:=B3 F2f [[F0Q],[F0Q,D1T],[D1T,D1S]]
end
end Go.Vab

namespace Go.Vab
open Go Go.Proofs
noncomputable section
def F2g:Ctx:=⟨fun _ _ _ => none,TT,6,[3,4,5]⟩
def D1U:=B8 Tryz.f93
def D1V:=cR D1U
def F0R:=cR D1V
def q93:=zQ1 F2g 93 Tryz.f93 D1U fun s=>(bnd (some (s.env.get 2)) fun v=>bnd (some []) fun vs=>some (v::vs))
def G10:=B3 F2g [[F0R],[F0R,D1V],[D1V,D1U]]
end
end Go.Vab

namespace Go.Vab
open Go Go.Proofs
noncomputable section
def F0S:Ctx:=⟨fun _ _ _ => none,TT,6,[3,4,5]⟩
def C2O:=B8 Tryz.f117
def C2P:=cR C2O
def E3W:=cR C2P
def G11:=zQ1 F0S 117 Tryz.f117 C2O fun s=>(bnd (some (s.env.get 2)) fun v=>bnd (some []) fun vs=>some (v::vs))
def G0G:=B3 F0S [[E3W],[E3W,C2P],[C2P,C2O]]
end
end Go.Vab

namespace Go.Vab
open Go Go.Proofs
theorem F6c {G X:Prop} (f:Hd X→G:=by
 intro xX
 repeat' (first|refine stp (x:=?_)|(simp (decide:=true) only [G1u,snB,if_true,if_false]))
 exact xX.get) (x:X):G:=f ⟨x⟩
theorem F6d {G X:Prop} (f:Hd X→G:=by
 intro xX
 repeat' (first|refine stp (x:=?_)|(simp (decide:=true) only [G1y,snB,if_true,if_false]))
 exact xX.get) (x:X):G:=f ⟨x⟩
theorem F6e {G X:Prop} (f:Hd X→G:=by
 intro xX
 repeat' (first|refine stp (x:=?_)|(simp (decide:=true) only [G1v,snB,if_true,if_false]))
 exact xX.get) (x:X):G:=f ⟨x⟩
theorem F6f {G X:Prop} (f:Hd X→G:=by
 intro xX
 repeat' (first|refine stp (x:=?_)|(simp (decide:=true) only [G1z,snB,if_true,if_false]))
 exact xX.get) (x:X):G:=f ⟨x⟩
theorem F6g {G X:Prop} (f:Hd X→G:=by
 intro xX
 repeat' (first|refine stp (x:=?_)|(simp (decide:=true) only [G1w,snB,if_true,if_false]))
 exact xX.get) (x:X):G:=f ⟨x⟩
theorem F6h {G X:Prop} (f:Hd X→G:=by
 intro xX
 repeat' (first|refine stp (x:=?_)|(simp (decide:=true) only [G10,snB,if_true,if_false]))
 exact xX.get) (x:X):G:=f ⟨x⟩
theorem F6i {G X:Prop} (f:Hd X→G:=by
 intro xX
 repeat' (first|refine stp (x:=?_)|(simp (decide:=true) only [G1x,snB,if_true,if_false]))
 exact xX.get) (x:X):G:=f ⟨x⟩
theorem F6j {G X:Prop} (f:Hd X→G:=by
 intro xX
 repeat' (first|refine stp (x:=?_)|(simp (decide:=true) only [G0G,snB,if_true,if_false]))
 exact xX.get) (x:X):G:=f ⟨x⟩
attribute [local irreducible] E9 Evs gW D9 E8 G5
@[simp] theorem G52:A4 .nilfn .cell=true:=rfl
@[simp] theorem G6X:A4 .nilptr .cell=true:=rfl
@[simp] theorem G7m (k:Nat) (l:List AV):A4 (.fn k l) .cell=true:=rfl
@[simp] theorem G6Y (b v:Nat) (p:List Nat) (t:Ty):A4 (.ptr b v p t) .cell=true:=rfl
@[simp] theorem G5E (b v k:Nat) (p:List Nat) (t:Ty) (l:List AV):G4 K9 (.node [.nilptr,.nilfn]) [(0,.ptr b v p t),(1,.fn k l)]=some (.node [.ptr b v p t,.fn k l]):=by simp [G4]
theorem c63 {h:A3} {b:Nat} (hb:b < h.length):SpecQ Tryz.prog 63 [.ptr b 0 [] A6] h fun r=>r=(.node [.ptr b 0 [5] .cell,.fn 91 []],h):=by
 refine SpecQ.drop1 (by simp [AV.under,AV.unders,hb]) (q63 fun env g0=>?_)
 have ff:=g0
 refine F6c (x:=?_)
 clear ff
 exact ⟨_,rfl⟩
theorem c91 {h:A3} {b:Nat} {pp:List Nat}:SpecQ Tryz.prog 91 [.ptr b 0 pp A7] h fun r=>r=(.ptr b 0 (pp++[0]) C3,h):=by
 refine q91 fun env g0=>?_
 have ff:=g0
 refine F6d (x:=?_)
 clear ff
 rfl
@[simp] theorem G4e (b v k:Nat) (p:List Nat) (t:Ty) (l:List AV):G4 K8 (.node [.nilptr,.nilfn]) [(0,.ptr b v p t),(1,.fn k l)]=some (.node [.ptr b v p t,.fn k l]):=by simp [G4]
theorem c64 {h:A3} {b:Nat} (hb:b < h.length):SpecQ Tryz.prog 64 [.ptr b 0 [] A6] h fun r=>r=(.node [.ptr b 0 [6] .cell,.fn 92 []],h):=by
 refine SpecQ.drop1 (by simp [AV.under,AV.unders,hb]) (q64 fun env g0=>?_)
 have ff:=g0
 refine F6e (x:=?_)
 clear ff
 exact ⟨_,rfl⟩
theorem c92 {h:A3} {b:Nat} {pp:List Nat}:SpecQ Tryz.prog 92 [.ptr b 0 pp B1] h fun r=>r=(.ptr b 0 (pp++[0]) C3,h):=by
 refine q92 fun env g0=>?_
 have ff:=g0
 refine F6f (x:=?_)
 clear ff
 rfl
@[simp] theorem G5T (b v k:Nat) (p:List Nat) (t:Ty) (l:List AV):G4 L0 (.node [.nilptr,.nilfn]) [(0,.ptr b v p t),(1,.fn k l)]=some (.node [.ptr b v p t,.fn k l]):=by simp [G4]
theorem c65 {h:A3} {b:Nat} (hb:b < h.length):SpecQ Tryz.prog 65 [.ptr b 0 [] A6] h fun r=>r=(.node [.ptr b 0 [7] .cell,.fn 93 []],h):=by
 refine SpecQ.drop1 (by simp [AV.under,AV.unders,hb]) (q65 fun env g0=>?_)
 have ff:=g0
 refine F6g (x:=?_)
 clear ff
 exact ⟨_,rfl⟩
theorem c93 {h:A3} {b:Nat} {pp:List Nat}:SpecQ Tryz.prog 93 [.ptr b 0 pp B5] h fun r=>r=(.ptr b 0 (pp++[0]) C3,h):=by
 refine q93 fun env g0=>?_
 have ff:=g0
 refine F6h (x:=?_)
 clear ff
 rfl
@[simp] theorem G5U (b v k:Nat) (p:List Nat) (t:Ty) (l:List AV):G4 M7 (.node [.nilptr,.nilfn]) [(0,.ptr b v p t),(1,.fn k l)]=some (.node [.ptr b v p t,.fn k l]):=by simp [G4]
theorem c94 {h:A3} {b:Nat} (hb:b < h.length):SpecQ Tryz.prog 94 [.ptr b 0 [] A6] h fun r=>r=(.node [.ptr b 0 [8] .cell,.fn 117 []],h):=by
 refine SpecQ.drop1 (by simp [AV.under,AV.unders,hb]) (q94 fun env g0=>?_)
 have ff:=g0
 refine F6i (x:=?_)
 clear ff
 exact ⟨_,rfl⟩
theorem A4U {h:A3} {b:Nat} {pp:List Nat}:SpecQ Tryz.prog 117 [.ptr b 0 pp B4] h fun r=>r=(.ptr b 0 (pp++[0]) C3,h):=by
 refine G11 fun env g0=>?_
 have ff:=g0
 refine F6j (x:=?_)
 clear ff
 rfl
end Go.Vab

namespace Go.Vab
open Go Go.Proofs
theorem F8J:A1Z Tryz.prog 92:=F79 Z8 (k:=24) (e:=3) (b:=5) (by kernel_rfl) (by kernel_rfl) (by kernel_rfl) (el:=⟨.int .i64,8,nat 0,none,some .i64,false,none,false⟩) (by kernel_rfl) (by kernel_rfl) (by rfl) (of_decide_eq_true (by kernel_rfl)) (by kernel_rfl) (by kernel_rfl) (by kernel_rfl) (by kernel_rfl)
@[simp] theorem G9D {α:Type} (x:Option α):ifT Tryz.prog 92 x=x:=F7x F8J x
theorem G12 {h:A3} {x y:AV} {a b:Bs} (hx:BytL h x a) (hy:BytL h y b):SpecQ Tryz.prog 116 [x,y] h fun r=>r=(.int .i64 (E7 a b),h) :=
 F6M (fn:=Tryz.f116) (by kernel_rfl) (by kernel_rfl) (by kernel_rfl) (by rfl) (by rfl) hx hy
end Go.Vab

namespace Go.Vab
open Go Go.Proofs
noncomputable section
def F2h:Ctx:=⟨fun _ _ _ => none,TT,8,[5,6,7]⟩
def D1W:=B8 Tryz.f88
def D1X:=cR D1W
def F0T:=cR D1X
def q88:=zQ2 F2h 88 Tryz.f88 D1W fun s=>(bnd (some (s.env.get 4)) fun v=>bnd (some []) fun vs=>some (v::vs))
def G13:=B3 F2h [[F0T],[F0T,D1X],[D1X,D1W]]
end
end Go.Vab

namespace Go.Vab
open Go Go.Proofs
noncomputable section
def D6M:Ctx:=⟨fun _ _ _ => none,TT,46,[11,12,18,19,20,21,22,23,24,25,26,27,28,29,30,31,32,33,34,35,36,37,38,40,41,42,43,44,45]⟩
def D1Y:=B8 Tryz.f45
def B35:=cR D1Y
def D1Z:=cL B35
def B36:=cR D1Z
def D1a:=cL B36
def F0U:=cR D1a
def F0V:=cR B36
def D1b:=cR B35
def B37:=cR D1b
def D1c:=cL B37
def C2Q:=cR D1c
def C2R:=cB C2Q
def C2S:=cB C2R
def A8L:=cR C2S
def A8M:=cL A8L
def E3X:=cL A8M
def E3Y:=cR A8M
def A8N:=cR A8L
def C2T:=cL A8N
def C2U:=cB C2T
def C2V:=cR C2U
def A8O:=cR C2V
def C2W:=cL A8O
def A8P:=cR C2W
def C2X:=cL A8P
def E3Z:=cR C2X
def E3a:=cR A8P
def C2Y:=cR A8O
def E3b:=cR C2Y
def E3c:=cR A8N
def C2Z:=cR B37
def E3d:=cR C2Z
def q45:=zQ3 D6M 45 Tryz.f45 D1Y fun s=>(bnd (some (s.env.get 6)) fun v=>bnd (some []) fun vs=>some (v::vs))
def B65:=zDr D6M [A8P,C2W] [] [0,0,2,7,15,31,63,127,255,511,511,1535,4095,8191,16383,32767] [0,1,2,3,4,5,6,7,8,9,10,11,12,13,14,15] .f
def D6N:=B3 D6M [[F0U],[F0U,D1a],[F0V],[D1a,F0V,B36],[B36,D1Z],[E3X],[E3Y],[E3X,E3Y,A8M],[E3Z],[E3Z,C2X],[E3a],[C2X,E3a,A8P],[E3b],[E3b,C2Y],[C2W,C2Y,A8O],[A8O,C2V],[C2V,C2U],[C2U,C2T],[E3c],[C2T,E3c,A8N],[A8M,A8N,A8L],[A8L,C2S],[C2S,C2R],[C2R,C2Q],[C2Q,D1c],[E3d],[E3d,C2Z],[D1c,C2Z,B37],[B37,D1b],[D1Z,D1b,B35],[B35,D1Y]]
end
end Go.Vab

namespace Go.Vab
open Go Go.Proofs
noncomputable section
def D6O:Ctx:=⟨fun _ _ _ => none,TT,46,[11,12,18,19,20,21,22,23,24,25,26,27,28,29,30,31,32,33,34,35,36,37,38,40,41,42,43,44,45]⟩
def D1d:=B8 Tryz.f47
def B38:=cR D1d
def D1e:=cL B38
def B39:=cR D1e
def D1f:=cL B39
def F0W:=cR D1f
def F0X:=cR B39
def D1g:=cR B38
def B4A:=cR D1g
def D1h:=cL B4A
def C2a:=cR D1h
def C2b:=cB C2a
def C2c:=cB C2b
def A8Q:=cR C2c
def A8R:=cL A8Q
def E3e:=cL A8R
def E3f:=cR A8R
def A8S:=cR A8Q
def C2d:=cL A8S
def C2e:=cB C2d
def C2f:=cR C2e
def A8T:=cR C2f
def C2g:=cL A8T
def A8U:=cR C2g
def C2h:=cL A8U
def E3g:=cR C2h
def E3h:=cR A8U
def C2i:=cR A8T
def E3i:=cR C2i
def E3j:=cR A8S
def C2j:=cR B4A
def E3k:=cR C2j
def q47:=zQ3 D6O 47 Tryz.f47 D1d fun s=>(bnd (some (s.env.get 6)) fun v=>bnd (some []) fun vs=>some (v::vs))
def B66:=zDr D6O [A8U,C2g] [] [0,0,2,7,15,31,63,127,255,511,511,1535,4095,8191,16383,32767] [0,1,2,3,4,5,6,7,8,9,10,11,12,13,14,15] .f
def D6P:=B3 D6O [[F0W],[F0W,D1f],[F0X],[D1f,F0X,B39],[B39,D1e],[E3e],[E3f],[E3e,E3f,A8R],[E3g],[E3g,C2h],[E3h],[C2h,E3h,A8U],[E3i],[E3i,C2i],[C2g,C2i,A8T],[A8T,C2f],[C2f,C2e],[C2e,C2d],[E3j],[C2d,E3j,A8S],[A8R,A8S,A8Q],[A8Q,C2c],[C2c,C2b],[C2b,C2a],[C2a,D1h],[E3k],[E3k,C2j],[D1h,C2j,B4A],[B4A,D1g],[D1e,D1g,B38],[B38,D1d]]
end
end Go.Vab

namespace Go.Vab
open Go Go.Proofs
noncomputable section
def D6Q:Ctx:=⟨fun _ _ _ => none,TT,46,[11,12,18,19,20,21,22,23,24,25,26,27,28,29,30,31,32,33,34,35,36,37,38,40,41,42,43,44,45]⟩
def D1i:=B8 Tryz.f49
def B4B:=cR D1i
def D1j:=cL B4B
def B4C:=cR D1j
def D1k:=cL B4C
def F0Y:=cR D1k
def F0Z:=cR B4C
def D1l:=cR B4B
def B4D:=cR D1l
def D1m:=cL B4D
def C2k:=cR D1m
def C2l:=cB C2k
def C2m:=cB C2l
def A8V:=cR C2m
def A8W:=cL A8V
def E3l:=cL A8W
def E3m:=cR A8W
def A8X:=cR A8V
def C2n:=cL A8X
def C2o:=cB C2n
def C2p:=cR C2o
def A8Y:=cR C2p
def C2q:=cL A8Y
def A8Z:=cR C2q
def C2r:=cL A8Z
def E3n:=cR C2r
def E3o:=cR A8Z
def C2s:=cR A8Y
def E3p:=cR C2s
def E3q:=cR A8X
def C2t:=cR B4D
def E3r:=cR C2t
def q49:=zQ3 D6Q 49 Tryz.f49 D1i fun s=>(bnd (some (s.env.get 6)) fun v=>bnd (some []) fun vs=>some (v::vs))
def B67:=zDr D6Q [A8Z,C2q] [] [0,0,2,7,15,31,63,127,255,511,511,1535,4095,8191,16383,32767] [0,1,2,3,4,5,6,7,8,9,10,11,12,13,14,15] .f
def D6R:=B3 D6Q [[F0Y],[F0Y,D1k],[F0Z],[D1k,F0Z,B4C],[B4C,D1j],[E3l],[E3m],[E3l,E3m,A8W],[E3n],[E3n,C2r],[E3o],[C2r,E3o,A8Z],[E3p],[E3p,C2s],[C2q,C2s,A8Y],[A8Y,C2p],[C2p,C2o],[C2o,C2n],[E3q],[C2n,E3q,A8X],[A8W,A8X,A8V],[A8V,C2m],[C2m,C2l],[C2l,C2k],[C2k,D1m],[E3r],[E3r,C2t],[D1m,C2t,B4D],[B4D,D1l],[D1j,D1l,B4B],[B4B,D1i]]
end
end Go.Vab

namespace Go.Vab
open Go Go.Proofs
noncomputable section
def D6S:Ctx:=⟨fun _ _ _ => none,TT,46,[11,12,18,19,20,21,22,23,24,25,26,27,28,29,30,31,32,33,34,35,36,37,38,40,41,42,43,44,45]⟩
def D1n:=B8 Tryz.f51
def B4E:=cR D1n
def D1o:=cL B4E
def B4F:=cR D1o
def D1p:=cL B4F
def F0a:=cR D1p
def F0b:=cR B4F
def D1q:=cR B4E
def B4G:=cR D1q
def D1r:=cL B4G
def C2u:=cR D1r
def C2v:=cB C2u
def C2w:=cB C2v
def A8a:=cR C2w
def A8b:=cL A8a
def E3s:=cL A8b
def E3t:=cR A8b
def A8c:=cR A8a
def C2x:=cL A8c
def C2y:=cB C2x
def C2z:=cR C2y
def A8d:=cR C2z
def C20:=cL A8d
def A8e:=cR C20
def C21:=cL A8e
def E3u:=cR C21
def E3v:=cR A8e
def C22:=cR A8d
def E3w:=cR C22
def E3x:=cR A8c
def C23:=cR B4G
def E3y:=cR C23
def q51:=zQ3 D6S 51 Tryz.f51 D1n fun s=>(bnd (some (s.env.get 6)) fun v=>bnd (some []) fun vs=>some (v::vs))
def B68:=zDr D6S [A8e,C20] [] [0,0,2,7,15,31,63,127,255,511,511,1535,4095,8191,16383,32767] [0,1,2,3,4,5,6,7,8,9,10,11,12,13,14,15] .f
def D6T:=B3 D6S [[F0a],[F0a,D1p],[F0b],[D1p,F0b,B4F],[B4F,D1o],[E3s],[E3t],[E3s,E3t,A8b],[E3u],[E3u,C21],[E3v],[C21,E3v,A8e],[E3w],[E3w,C22],[C20,C22,A8d],[A8d,C2z],[C2z,C2y],[C2y,C2x],[E3x],[C2x,E3x,A8c],[A8b,A8c,A8a],[A8a,C2w],[C2w,C2v],[C2v,C2u],[C2u,D1r],[E3y],[E3y,C23],[D1r,C23,B4G],[B4G,D1q],[D1o,D1q,B4E],[B4E,D1n]]
end
end Go.Vab

namespace Go.Vab
open Go Go.Proofs
noncomputable section
def F2i:Ctx:=⟨fun _ _ _ => none,TT,5,[3,4]⟩
def D1s:=B8 Tryz.f46
def D1t:=cR D1s
def F0c:=cR D1t
def q46:=zQ1 F2i 46 Tryz.f46 D1s fun s=>(bnd (D6 C3 (s.env.get 2) s.heap) fun v=>bnd (some []) fun vs=>some (v::vs))
def G14:=B3 F2i [[F0c],[F0c,D1t],[D1t,D1s]]
end
end Go.Vab

namespace Go.Vab
open Go Go.Proofs
noncomputable section
def F2j:Ctx:=⟨fun _ _ _ => none,TT,5,[3,4]⟩
def D1u:=B8 Tryz.f48
def D1v:=cR D1u
def F0d:=cR D1v
def q48:=zQ1 F2j 48 Tryz.f48 D1u fun s=>(bnd (D6 C3 (s.env.get 2) s.heap) fun v=>bnd (some []) fun vs=>some (v::vs))
def G15:=B3 F2j [[F0d],[F0d,D1v],[D1v,D1u]]
end
end Go.Vab

namespace Go.Vab
open Go Go.Proofs
noncomputable section
def F2k:Ctx:=⟨fun _ _ _ => none,TT,5,[3,4]⟩
def D1w:=B8 Tryz.f50
def D1x:=cR D1w
def F0e:=cR D1x
def q50:=zQ1 F2k 50 Tryz.f50 D1w fun s=>(bnd (D6 C3 (s.env.get 2) s.heap) fun v=>bnd (some []) fun vs=>some (v::vs))
def G16:=B3 F2k [[F0e],[F0e,D1x],[D1x,D1w]]
end
end Go.Vab

namespace Go.Vab
open Go Go.Proofs
noncomputable section
def F2l:Ctx:=⟨fun _ _ _ => none,TT,5,[3,4]⟩
def D1y:=B8 Tryz.f52
def D1z:=cR D1y
def F0f:=cR D1z
def q52:=zQ1 F2l 52 Tryz.f52 D1y fun s=>(bnd (D6 C3 (s.env.get 2) s.heap) fun v=>bnd (some []) fun vs=>some (v::vs))
def G17:=B3 F2l [[F0f],[F0f,D1z],[D1z,D1y]]
end
end Go.Vab

namespace Go.Vab
open Go Go.Proofs
theorem F5G {G X:Prop} (f:Hd X→G:=by
 intro xX
 repeat' (first|refine stp (x:=?_)|(with_reducible refine SpecQ.step (G12 hx hy) ?_;rintro _ rfl;try dsimp only)|(simp (decide:=true) only [G13,snB,if_true,if_false]))
 exact xX.get) (x:X):G:=f ⟨x⟩
theorem F5H {G X:Prop} (f:Hd X→G:=by
 intro xX
 repeat' (first|refine stp (x:=?_)|(simp (decide:=true) only [G14,snB,if_true,if_false]))
 exact xX.get) (x:X):G:=f ⟨x⟩
theorem A1r {G X:Prop} (f:Hd X→G:=by
 intro xX
 repeat' (first|refine stp (x:=?_)|(simp (decide:=true) only [D6N,snB,if_true,if_false])|(with_reducible refine B65 _ _ _ ?_))
 exact xX.get) (x:X):G:=f ⟨x⟩
theorem F5I {G X:Prop} (f:Hd X→G:=by
 intro xX
 repeat' (first|refine stp (x:=?_)|(with_reducible refine A5 (c46) ?_;try dsimp only)|(with_reducible refine SpecQ.step (c46) ?_;rintro _ rfl;try dsimp only)|(simp (decide:=true) only [D6N,snB,if_true,if_false])|(with_reducible refine B65 _ _ _ ?_))
 exact xX.get) (x:X):G:=f ⟨x⟩
theorem B6l {G X:Prop} (f:Hd X→G:=by
 intro xX
 repeat' (first|refine stp (x:=?_)|(with_reducible refine A5 (c46) ?_;try dsimp only)|(with_reducible refine SpecQ.step (c46) ?_;rintro _ rfl;try dsimp only)|(with_reducible refine A5 (c88 (M0 (p:=last) (by simp)) (M0 (p:=l[i].who.e) (by simp))) ?_;try dsimp only)|(with_reducible refine SpecQ.step (c88 (M0 (p:=last) (by simp)) (M0 (p:=l[i].who.e) (by simp))) ?_;rintro _ rfl;try dsimp only)|(simp (decide:=true) only [D6N,snB,if_true,if_false])|(with_reducible refine B65 _ _ _ ?_))
 exact xX.get) (x:X):G:=f ⟨x⟩
theorem F5J {G X:Prop} (f:Hd X→G:=by
 intro xX
 repeat' (first|refine stp (x:=?_)|(simp (decide:=true) only [G15,snB,if_true,if_false]))
 exact xX.get) (x:X):G:=f ⟨x⟩
theorem A1s {G X:Prop} (f:Hd X→G:=by
 intro xX
 repeat' (first|refine stp (x:=?_)|(simp (decide:=true) only [D6P,snB,if_true,if_false])|(with_reducible refine B66 _ _ _ ?_))
 exact xX.get) (x:X):G:=f ⟨x⟩
theorem F5K {G X:Prop} (f:Hd X→G:=by
 intro xX
 repeat' (first|refine stp (x:=?_)|(with_reducible refine A5 (c48) ?_;try dsimp only)|(with_reducible refine SpecQ.step (c48) ?_;rintro _ rfl;try dsimp only)|(simp (decide:=true) only [D6P,snB,if_true,if_false])|(with_reducible refine B66 _ _ _ ?_))
 exact xX.get) (x:X):G:=f ⟨x⟩
theorem B6m {G X:Prop} (f:Hd X→G:=by
 intro xX
 repeat' (first|refine stp (x:=?_)|(with_reducible refine A5 (c48) ?_;try dsimp only)|(with_reducible refine SpecQ.step (c48) ?_;rintro _ rfl;try dsimp only)|(with_reducible refine A5 (c88 (M0 (p:=last) (by simp)) (M0 (p:=l[i].who.e) (by simp))) ?_;try dsimp only)|(with_reducible refine SpecQ.step (c88 (M0 (p:=last) (by simp)) (M0 (p:=l[i].who.e) (by simp))) ?_;rintro _ rfl;try dsimp only)|(simp (decide:=true) only [D6P,snB,if_true,if_false])|(with_reducible refine B66 _ _ _ ?_))
 exact xX.get) (x:X):G:=f ⟨x⟩
theorem F5L {G X:Prop} (f:Hd X→G:=by
 intro xX
 repeat' (first|refine stp (x:=?_)|(simp (decide:=true) only [G16,snB,if_true,if_false]))
 exact xX.get) (x:X):G:=f ⟨x⟩
theorem A1l {G X:Prop} (f:Hd X→G:=by
 intro xX
 repeat' (first|refine stp (x:=?_)|(simp (decide:=true) only [D6R,snB,if_true,if_false])|(with_reducible refine B67 _ _ _ ?_))
 exact xX.get) (x:X):G:=f ⟨x⟩
theorem F4V {G X:Prop} (f:Hd X→G:=by
 intro xX
 repeat' (first|refine stp (x:=?_)|(with_reducible refine A5 (c50) ?_;try dsimp only)|(with_reducible refine SpecQ.step (c50) ?_;rintro _ rfl;try dsimp only)|(simp (decide:=true) only [D6R,snB,if_true,if_false])|(with_reducible refine B67 _ _ _ ?_))
 exact xX.get) (x:X):G:=f ⟨x⟩
theorem B6Z {G X:Prop} (f:Hd X→G:=by
 intro xX
 repeat' (first|refine stp (x:=?_)|(with_reducible refine A5 (c50) ?_;try dsimp only)|(with_reducible refine SpecQ.step (c50) ?_;rintro _ rfl;try dsimp only)|(with_reducible refine A5 (c88 (M0 (p:=last) (by simp)) (M0 (p:=l[i].who.e) (by simp))) ?_;try dsimp only)|(with_reducible refine SpecQ.step (c88 (M0 (p:=last) (by simp)) (M0 (p:=l[i].who.e) (by simp))) ?_;rintro _ rfl;try dsimp only)|(simp (decide:=true) only [D6R,snB,if_true,if_false])|(with_reducible refine B67 _ _ _ ?_))
 exact xX.get) (x:X):G:=f ⟨x⟩
theorem F4W {G X:Prop} (f:Hd X→G:=by
 intro xX
 repeat' (first|refine stp (x:=?_)|(simp (decide:=true) only [G17,snB,if_true,if_false]))
 exact xX.get) (x:X):G:=f ⟨x⟩
theorem A1m {G X:Prop} (f:Hd X→G:=by
 intro xX
 repeat' (first|refine stp (x:=?_)|(simp (decide:=true) only [D6T,snB,if_true,if_false])|(with_reducible refine B68 _ _ _ ?_))
 exact xX.get) (x:X):G:=f ⟨x⟩
theorem F4X {G X:Prop} (f:Hd X→G:=by
 intro xX
 repeat' (first|refine stp (x:=?_)|(with_reducible refine A5 (c52) ?_;try dsimp only)|(with_reducible refine SpecQ.step (c52) ?_;rintro _ rfl;try dsimp only)|(simp (decide:=true) only [D6T,snB,if_true,if_false])|(with_reducible refine B68 _ _ _ ?_))
 exact xX.get) (x:X):G:=f ⟨x⟩
theorem B6a {G X:Prop} (f:Hd X→G:=by
 intro xX
 repeat' (first|refine stp (x:=?_)|(with_reducible refine A5 (c52) ?_;try dsimp only)|(with_reducible refine SpecQ.step (c52) ?_;rintro _ rfl;try dsimp only)|(with_reducible refine A5 (c88 (M0 (p:=last) (by simp)) (M0 (p:=l[i].who.e) (by simp))) ?_;try dsimp only)|(with_reducible refine SpecQ.step (c88 (M0 (p:=last) (by simp)) (M0 (p:=l[i].who.e) (by simp))) ?_;rintro _ rfl;try dsimp only)|(simp (decide:=true) only [D6T,snB,if_true,if_false])|(with_reducible refine B68 _ _ _ ?_))
 exact xX.get) (x:X):G:=f ⟨x⟩
attribute [local irreducible] E9 Evs gW D9 E8 G5
theorem c88 {h:A3} {x y:AV} {a b:Bs} (hx:BytL h x a) (hy:BytL h y b):SpecQ Tryz.prog 88 [x,y] h fun r=>r=(.int .i64 (E7 a b),h):=by
 refine SpecQ.drop1 rfl (q88 fun env g0 g1=>?_)
 have ff:=aI g0 g1
 refine F5G (x:=?_)
 clear ff
 exact ⟨[],by simp [C8]⟩
theorem c46 {h:A3} {s:Seat}:SpecQ Tryz.prog 46 [B0 s] h fun r=>r=(eCi s.who,h):=by
 refine SpecQ.drop1 rfl (q46 fun env g0=>?_)
 have ff:=g0
 refine F5H (x:=?_)
 clear ff
 exact ⟨_,rfl⟩
theorem c45 {h : A3} {x : AV} {l : List Seat} {m : Nat} {seen : List Pt} (hx : Row A7 h x (l.map B0)) (hm : h[m]? = some ⟨.node (seen.map pt), 0, .mp⟩) :
  SpecQ Tryz.prog 45 [x,.fn 46 [],.map m] h fun r=>∃ seen',r=(.bool (decide (l.length≤40)&&I9 seen (l.map (·.who.e))),h.set m ⟨.node (seen'.map pt),0,.mp⟩)∧(l.length≤40→I9 seen (l.map (·.who.e))=true→seen'=seen++l.map (·.who.e)):=by
 have lx:=hx.len
 have bx:=hx.bound
 rw [List.length_map] at lx bx
 have hself:h.set m ⟨.node (seen.map pt),0,.mp⟩=h:=by
  apply List.ext_getElem?
  intro i
  rw [List.getElem?_set]
  split
  ·rename_i e;subst e;rw [if_pos (List.getElem?_eq_some_iff.1 hm).1,hm]
  ·rfl
 have hps:∀ (i:Nat) (hi:i < l.length),(l.map (·.who.e)).getD i pt0=l[i].who.e:=fun i hi=>by
  rw [List.getD_eq_getElem?_getD,List.getElem?_map,List.getElem?_eq_getElem hi];rfl
 have hpl:(l.map (·.who.e)).length=l.length:=List.length_map _
 generalize hP:l.map (·.who.e)=ps at hps hpl ⊢
 refine SpecQ.drop (K:=fun r=>∃ seen' t,r=(.bool (decide (l.length≤40)&&I9 seen ps),h.set m ⟨.node (seen'.map pt),0,.mp⟩++t)∧(l.length≤40→I9 seen ps=true→seen'=seen++ps)) (q45 fun env g0 g1 g2=>?_) _ ?_
 ·by_cases h40:l.length≤40
  ·have ff:=aI5 g0 g1 g2 lx h40
   refine A1r (x:=?_)
   clear ff
   refine G0 l.length (fun i st=>∃ env' last t,st=⟨env',h.set m ⟨.node ((seen++ps.take i).map pt),0,.mp⟩++(⟨pt last,0,.own⟩::t)⟩∧env'.get 1=.fn 46 []∧env'.get 2=.map m∧env'.get 7=.ptr h.length 0 [] (.arr 32 (.int .u8))∧env'.get 14=x∧env'.get 15=nat l.length∧env'.get 16=nat i ∧
    (0 < i→last=ps.getD (i - 1) pt0)∧∀ j,j < i→M5 seen ps j=true) ?_ ?_ ⟨_,pt0,[],(by simp [hself];rfl),by simp [g1],by simp [g2],by simp,by simp [g0],by simp,by simp,fun h=>absurd h (by omega),fun j hj=>absurd hj (by omega)⟩
   ·rintro i st hi ⟨env',last,t,rfl,e1,e2,e7,e14,e15,e16,hlast,hgood⟩
    have hx':Row A7 (h.set m ⟨.node ((seen++ps.take i).map pt),0,.mp⟩) x (l.map B0):=hx.setm hm rfl
    obtain ⟨p,p1,p2⟩:=hx'.idx (i:=i) (by simpa using hi)
    rw [List.getElem?_map,List.getElem?_eq_getElem hi] at p2
    simp only [Option.map_some] at p2
    have hmm:(h.set m ⟨.node ((seen++ps.take i).map pt),0,.mp⟩)[m]?=some ⟨.node ((seen++ps.take i).map pt),0,.mp⟩:=List.getElem?_set_self (List.getElem?_eq_some_iff.1 hm).1
    have hma:=A4m hmm
    have hms:=g8 hmm
    have hg:M5 seen ps i=(!decide (l[i].who.e∈seen++ps.take i)&&(decide (i=0)||decide (E7 last.l l[i].who.e.l < 0))):=by
     unfold M5
     rw [hps i hi]
     by_cases h0:i=0
     ·simp [h0]
     ·rw [←hlast (by omega)]
    have hS1:seen++ps.take (i+1)=seen++ps.take i++[l[i].who.e]:=by
     rw [List.append_assoc,List.take_add_one,←hps i hi,List.getD_eq_getElem?_getD,List.getElem?_eq_getElem (by omega)]
     rfl
    rw [hS1]
    generalize seen++ps.take i=S at *
    by_cases hmem:l[i].who.e∈S
    ·have hno:=A0c (seen:=seen) (by rw [hpl];exact hi) (by rw [hg];simp [hmem])
     have ff:=D8 e1 e2 e7 e14 e15 e16 p1 p2 hma hms hmem
     refine F5I (x:=?_)
     clear ff
     refine .inr ⟨by simp,?_⟩
     have ff:=e1
     refine A1r (x:=?_)
     clear ff
     exact ⟨S,_,(by simp [C8,hno];rfl),fun _ h=>by rw [hno] at h;cases h⟩
    ·by_cases h0:i=0
     ·have hyes:M5 seen ps i=true:=by rw [hg,decide_eq_true h0];simp [hmem]
      have hz:¬ (0 < i):=by omega
      have ff:=F8 e1 e2 e7 e14 e15 e16 p1 p2 hma hms hmem hz
      refine B6l (x:=?_)
      clear ff
      refine .inl ⟨by simp,_,l[i].who.e,_,(by simp;exact ⟨rfl,rfl⟩),by simp [e1],by simp [e2],by simp [e7],by simp [e14],by simp [e15],by simp,fun _ => (by rw [Nat.add_sub_cancel];exact (hps i hi).symm),fun j hj=>?_⟩
      by_cases hji:j=i
      ·rw [hji];exact hyes
      ·exact hgood j (by omega)
     ·have hz:0 < i:=by omega
      by_cases hc:E7 last.l l[i].who.e.l < 0
      ·have hyes:M5 seen ps i=true:=by rw [hg];simp [hmem,hc]
       have hc':¬ (0≤E7 last.l l[i].who.e.l):=by omega
       have ff:=H7 e1 e2 e7 e14 e15 e16 p1 p2 hma hms hmem hz hc'
       refine B6l (x:=?_)
       clear ff
       refine .inl ⟨by simp,_,l[i].who.e,_,(by simp;exact ⟨rfl,rfl⟩),by simp [e1],by simp [e2],by simp [e7],by simp [e14],by simp [e15],by simp,fun _ => (by rw [Nat.add_sub_cancel];exact (hps i hi).symm),fun j hj=>?_⟩
       by_cases hji:j=i
       ·rw [hji];exact hyes
       ·exact hgood j (by omega)
      ·have hno:=A0c (seen:=seen) (by rw [hpl];exact hi) (by rw [hg];simp [h0,hc])
       have hc':0≤E7 last.l l[i].who.e.l:=by omega
       have ff:=H7 e1 e2 e7 e14 e15 e16 p1 p2 hma hms hmem hz hc'
       refine B6l (x:=?_)
       clear ff
       refine .inr ⟨by simp,?_⟩
       have ff:=e1
       refine A1r (x:=?_)
       clear ff
       exact ⟨S,_,(by simp [C8,hno];rfl),fun _ h=>by rw [hno] at h;cases h⟩
   ·rintro st ⟨env',last,t,rfl,e1,e2,e7,e14,e15,e16,hlast,hgood⟩
    have hyes:=A4n (seen:=seen) (ps:=ps) (fun i hi=>hgood i (by omega))
    have htk:ps.take l.length=ps:=by rw [←hpl];exact List.take_length
    rw [htk]
    generalize hS:seen++ps=S at *
    have ff:=aI3 e1 e15 e16
    refine A1r (x:=?_)
    clear ff
    refine ⟨by simp,?_⟩
    have ff:=aI3 e1 e15 e16
    refine A1r (x:=?_)
    clear ff
    exact ⟨S,_,(by simp [C8,hyes,h40];rfl),fun _ _ => rfl⟩
  ·have ff:=aI3 g0 lx h40
   refine A1r (x:=?_)
   clear ff
   exact ⟨seen,[],by simp [C8,h40,hself],fun h=>absurd h h40⟩
 ·rintro r ⟨seen',t,rfl,hs⟩
  refine ⟨_,t,rfl,by simp,fun i b hb=>?_,rfl,seen',rfl,hs⟩
  rw [List.getElem?_set] at hb
  split at hb
  ·split at hb
   ·cases hb
    exact .inr (by simp [AV.under,A3A])
   ·cases hb
  ·exact .inl ⟨b,hb,rfl⟩
theorem c48 {h:A3} {s:Inv}:SpecQ Tryz.prog 48 [B7 s] h fun r=>r=(eCi s.who,h):=by
 refine SpecQ.drop1 rfl (q48 fun env g0=>?_)
 have ff:=g0
 refine F5J (x:=?_)
 clear ff
 exact ⟨_,rfl⟩
theorem c47 {h : A3} {x : AV} {l : List Inv} {m : Nat} {seen : List Pt} (hx : Row B1 h x (l.map B7)) (hm : h[m]? = some ⟨.node (seen.map pt), 0, .mp⟩) :
  SpecQ Tryz.prog 47 [x,.fn 48 [],.map m] h fun r=>∃ seen',r=(.bool (decide (l.length≤40)&&I9 seen (l.map (·.who.e))),h.set m ⟨.node (seen'.map pt),0,.mp⟩)∧(l.length≤40→I9 seen (l.map (·.who.e))=true→seen'=seen++l.map (·.who.e)):=by
 have lx:=hx.len
 have bx:=hx.bound
 rw [List.length_map] at lx bx
 have hself:h.set m ⟨.node (seen.map pt),0,.mp⟩=h:=by
  apply List.ext_getElem?
  intro i
  rw [List.getElem?_set]
  split
  ·rename_i e;subst e;rw [if_pos (List.getElem?_eq_some_iff.1 hm).1,hm]
  ·rfl
 have hps:∀ (i:Nat) (hi:i < l.length),(l.map (·.who.e)).getD i pt0=l[i].who.e:=fun i hi=>by
  rw [List.getD_eq_getElem?_getD,List.getElem?_map,List.getElem?_eq_getElem hi];rfl
 have hpl:(l.map (·.who.e)).length=l.length:=List.length_map _
 generalize hP:l.map (·.who.e)=ps at hps hpl ⊢
 refine SpecQ.drop (K:=fun r=>∃ seen' t,r=(.bool (decide (l.length≤40)&&I9 seen ps),h.set m ⟨.node (seen'.map pt),0,.mp⟩++t)∧(l.length≤40→I9 seen ps=true→seen'=seen++ps)) (q47 fun env g0 g1 g2=>?_) _ ?_
 ·by_cases h40:l.length≤40
  ·have ff:=aI5 g0 g1 g2 lx h40
   refine A1s (x:=?_)
   clear ff
   refine G0 l.length (fun i st=>∃ env' last t,st=⟨env',h.set m ⟨.node ((seen++ps.take i).map pt),0,.mp⟩++(⟨pt last,0,.own⟩::t)⟩∧env'.get 1=.fn 48 []∧env'.get 2=.map m∧env'.get 7=.ptr h.length 0 [] (.arr 32 (.int .u8))∧env'.get 14=x∧env'.get 15=nat l.length∧env'.get 16=nat i ∧
    (0 < i→last=ps.getD (i - 1) pt0)∧∀ j,j < i→M5 seen ps j=true) ?_ ?_ ⟨_,pt0,[],(by simp [hself];rfl),by simp [g1],by simp [g2],by simp,by simp [g0],by simp,by simp,fun h=>absurd h (by omega),fun j hj=>absurd hj (by omega)⟩
   ·rintro i st hi ⟨env',last,t,rfl,e1,e2,e7,e14,e15,e16,hlast,hgood⟩
    have hx':Row B1 (h.set m ⟨.node ((seen++ps.take i).map pt),0,.mp⟩) x (l.map B7):=hx.setm hm rfl
    obtain ⟨p,p1,p2⟩:=hx'.idx (i:=i) (by simpa using hi)
    rw [List.getElem?_map,List.getElem?_eq_getElem hi] at p2
    simp only [Option.map_some] at p2
    have hmm:(h.set m ⟨.node ((seen++ps.take i).map pt),0,.mp⟩)[m]?=some ⟨.node ((seen++ps.take i).map pt),0,.mp⟩:=List.getElem?_set_self (List.getElem?_eq_some_iff.1 hm).1
    have hma:=A4m hmm
    have hms:=g8 hmm
    have hg:M5 seen ps i=(!decide (l[i].who.e∈seen++ps.take i)&&(decide (i=0)||decide (E7 last.l l[i].who.e.l < 0))):=by
     unfold M5
     rw [hps i hi]
     by_cases h0:i=0
     ·simp [h0]
     ·rw [←hlast (by omega)]
    have hS1:seen++ps.take (i+1)=seen++ps.take i++[l[i].who.e]:=by
     rw [List.append_assoc,List.take_add_one,←hps i hi,List.getD_eq_getElem?_getD,List.getElem?_eq_getElem (by omega)]
     rfl
    rw [hS1]
    generalize seen++ps.take i=S at *
    by_cases hmem:l[i].who.e∈S
    ·have hno:=A0c (seen:=seen) (by rw [hpl];exact hi) (by rw [hg];simp [hmem])
     have ff:=D8 e1 e2 e7 e14 e15 e16 p1 p2 hma hms hmem
     refine F5K (x:=?_)
     clear ff
     refine .inr ⟨by simp,?_⟩
     have ff:=e1
     refine A1s (x:=?_)
     clear ff
     exact ⟨S,_,(by simp [C8,hno];rfl),fun _ h=>by rw [hno] at h;cases h⟩
    ·by_cases h0:i=0
     ·have hyes:M5 seen ps i=true:=by rw [hg,decide_eq_true h0];simp [hmem]
      have hz:¬ (0 < i):=by omega
      have ff:=F8 e1 e2 e7 e14 e15 e16 p1 p2 hma hms hmem hz
      refine B6m (x:=?_)
      clear ff
      refine .inl ⟨by simp,_,l[i].who.e,_,(by simp;exact ⟨rfl,rfl⟩),by simp [e1],by simp [e2],by simp [e7],by simp [e14],by simp [e15],by simp,fun _ => (by rw [Nat.add_sub_cancel];exact (hps i hi).symm),fun j hj=>?_⟩
      by_cases hji:j=i
      ·rw [hji];exact hyes
      ·exact hgood j (by omega)
     ·have hz:0 < i:=by omega
      by_cases hc:E7 last.l l[i].who.e.l < 0
      ·have hyes:M5 seen ps i=true:=by rw [hg];simp [hmem,hc]
       have hc':¬ (0≤E7 last.l l[i].who.e.l):=by omega
       have ff:=H7 e1 e2 e7 e14 e15 e16 p1 p2 hma hms hmem hz hc'
       refine B6m (x:=?_)
       clear ff
       refine .inl ⟨by simp,_,l[i].who.e,_,(by simp;exact ⟨rfl,rfl⟩),by simp [e1],by simp [e2],by simp [e7],by simp [e14],by simp [e15],by simp,fun _ => (by rw [Nat.add_sub_cancel];exact (hps i hi).symm),fun j hj=>?_⟩
       by_cases hji:j=i
       ·rw [hji];exact hyes
       ·exact hgood j (by omega)
      ·have hno:=A0c (seen:=seen) (by rw [hpl];exact hi) (by rw [hg];simp [h0,hc])
       have hc':0≤E7 last.l l[i].who.e.l:=by omega
       have ff:=H7 e1 e2 e7 e14 e15 e16 p1 p2 hma hms hmem hz hc'
       refine B6m (x:=?_)
       clear ff
       refine .inr ⟨by simp,?_⟩
       have ff:=e1
       refine A1s (x:=?_)
       clear ff
       exact ⟨S,_,(by simp [C8,hno];rfl),fun _ h=>by rw [hno] at h;cases h⟩
   ·rintro st ⟨env',last,t,rfl,e1,e2,e7,e14,e15,e16,hlast,hgood⟩
    have hyes:=A4n (seen:=seen) (ps:=ps) (fun i hi=>hgood i (by omega))
    have htk:ps.take l.length=ps:=by rw [←hpl];exact List.take_length
    rw [htk]
    generalize hS:seen++ps=S at *
    have ff:=aI3 e1 e15 e16
    refine A1s (x:=?_)
    clear ff
    refine ⟨by simp,?_⟩
    have ff:=aI3 e1 e15 e16
    refine A1s (x:=?_)
    clear ff
    exact ⟨S,_,(by simp [C8,hyes,h40];rfl),fun _ _ => rfl⟩
  ·have ff:=aI3 g0 lx h40
   refine A1s (x:=?_)
   clear ff
   exact ⟨seen,[],by simp [C8,h40,hself],fun h=>absurd h h40⟩
 ·rintro r ⟨seen',t,rfl,hs⟩
  refine ⟨_,t,rfl,by simp,fun i b hb=>?_,rfl,seen',rfl,hs⟩
  rw [List.getElem?_set] at hb
  split at hb
  ·split at hb
   ·cases hb
    exact .inr (by simp [AV.under,A3A])
   ·cases hb
  ·exact .inl ⟨b,hb,rfl⟩
theorem c50 {h:A3} {s:Ask}:SpecQ Tryz.prog 50 [B9 s] h fun r=>r=(eCi s.who,h):=by
 refine SpecQ.drop1 rfl (q50 fun env g0=>?_)
 have ff:=g0
 refine F5L (x:=?_)
 clear ff
 exact ⟨_,rfl⟩
theorem c49 {h : A3} {x : AV} {l : List Ask} {m : Nat} {seen : List Pt} (hx : Row B5 h x (l.map B9)) (hm : h[m]? = some ⟨.node (seen.map pt), 0, .mp⟩) :
  SpecQ Tryz.prog 49 [x,.fn 50 [],.map m] h fun r=>∃ seen',r=(.bool (decide (l.length≤40)&&I9 seen (l.map (·.who.e))),h.set m ⟨.node (seen'.map pt),0,.mp⟩)∧(l.length≤40→I9 seen (l.map (·.who.e))=true→seen'=seen++l.map (·.who.e)):=by
 have lx:=hx.len
 have bx:=hx.bound
 rw [List.length_map] at lx bx
 have hself:h.set m ⟨.node (seen.map pt),0,.mp⟩=h:=by
  apply List.ext_getElem?
  intro i
  rw [List.getElem?_set]
  split
  ·rename_i e;subst e;rw [if_pos (List.getElem?_eq_some_iff.1 hm).1,hm]
  ·rfl
 have hps:∀ (i:Nat) (hi:i < l.length),(l.map (·.who.e)).getD i pt0=l[i].who.e:=fun i hi=>by
  rw [List.getD_eq_getElem?_getD,List.getElem?_map,List.getElem?_eq_getElem hi];rfl
 have hpl:(l.map (·.who.e)).length=l.length:=List.length_map _
 generalize hP:l.map (·.who.e)=ps at hps hpl ⊢
 refine SpecQ.drop (K:=fun r=>∃ seen' t,r=(.bool (decide (l.length≤40)&&I9 seen ps),h.set m ⟨.node (seen'.map pt),0,.mp⟩++t)∧(l.length≤40→I9 seen ps=true→seen'=seen++ps)) (q49 fun env g0 g1 g2=>?_) _ ?_
 ·by_cases h40:l.length≤40
  ·have ff:=aI5 g0 g1 g2 lx h40
   refine A1l (x:=?_)
   clear ff
   refine G0 l.length (fun i st=>∃ env' last t,st=⟨env',h.set m ⟨.node ((seen++ps.take i).map pt),0,.mp⟩++(⟨pt last,0,.own⟩::t)⟩∧env'.get 1=.fn 50 []∧env'.get 2=.map m∧env'.get 7=.ptr h.length 0 [] (.arr 32 (.int .u8))∧env'.get 14=x∧env'.get 15=nat l.length∧env'.get 16=nat i ∧
    (0 < i→last=ps.getD (i - 1) pt0)∧∀ j,j < i→M5 seen ps j=true) ?_ ?_ ⟨_,pt0,[],(by simp [hself];rfl),by simp [g1],by simp [g2],by simp,by simp [g0],by simp,by simp,fun h=>absurd h (by omega),fun j hj=>absurd hj (by omega)⟩
   ·rintro i st hi ⟨env',last,t,rfl,e1,e2,e7,e14,e15,e16,hlast,hgood⟩
    have hx':Row B5 (h.set m ⟨.node ((seen++ps.take i).map pt),0,.mp⟩) x (l.map B9):=hx.setm hm rfl
    obtain ⟨p,p1,p2⟩:=hx'.idx (i:=i) (by simpa using hi)
    rw [List.getElem?_map,List.getElem?_eq_getElem hi] at p2
    simp only [Option.map_some] at p2
    have hmm:(h.set m ⟨.node ((seen++ps.take i).map pt),0,.mp⟩)[m]?=some ⟨.node ((seen++ps.take i).map pt),0,.mp⟩:=List.getElem?_set_self (List.getElem?_eq_some_iff.1 hm).1
    have hma:=A4m hmm
    have hms:=g8 hmm
    have hg:M5 seen ps i=(!decide (l[i].who.e∈seen++ps.take i)&&(decide (i=0)||decide (E7 last.l l[i].who.e.l < 0))):=by
     unfold M5
     rw [hps i hi]
     by_cases h0:i=0
     ·simp [h0]
     ·rw [←hlast (by omega)]
    have hS1:seen++ps.take (i+1)=seen++ps.take i++[l[i].who.e]:=by
     rw [List.append_assoc,List.take_add_one,←hps i hi,List.getD_eq_getElem?_getD,List.getElem?_eq_getElem (by omega)]
     rfl
    rw [hS1]
    generalize seen++ps.take i=S at *
    by_cases hmem:l[i].who.e∈S
    ·have hno:=A0c (seen:=seen) (by rw [hpl];exact hi) (by rw [hg];simp [hmem])
     have ff:=D8 e1 e2 e7 e14 e15 e16 p1 p2 hma hms hmem
     refine F4V (x:=?_)
     clear ff
     refine .inr ⟨by simp,?_⟩
     have ff:=e1
     refine A1l (x:=?_)
     clear ff
     exact ⟨S,_,(by simp [C8,hno];rfl),fun _ h=>by rw [hno] at h;cases h⟩
    ·by_cases h0:i=0
     ·have hyes:M5 seen ps i=true:=by rw [hg,decide_eq_true h0];simp [hmem]
      have hz:¬ (0 < i):=by omega
      have ff:=F8 e1 e2 e7 e14 e15 e16 p1 p2 hma hms hmem hz
      refine B6Z (x:=?_)
      clear ff
      refine .inl ⟨by simp,_,l[i].who.e,_,(by simp;exact ⟨rfl,rfl⟩),by simp [e1],by simp [e2],by simp [e7],by simp [e14],by simp [e15],by simp,fun _ => (by rw [Nat.add_sub_cancel];exact (hps i hi).symm),fun j hj=>?_⟩
      by_cases hji:j=i
      ·rw [hji];exact hyes
      ·exact hgood j (by omega)
     ·have hz:0 < i:=by omega
      by_cases hc:E7 last.l l[i].who.e.l < 0
      ·have hyes:M5 seen ps i=true:=by rw [hg];simp [hmem,hc]
       have hc':¬ (0≤E7 last.l l[i].who.e.l):=by omega
       have ff:=H7 e1 e2 e7 e14 e15 e16 p1 p2 hma hms hmem hz hc'
       refine B6Z (x:=?_)
       clear ff
       refine .inl ⟨by simp,_,l[i].who.e,_,(by simp;exact ⟨rfl,rfl⟩),by simp [e1],by simp [e2],by simp [e7],by simp [e14],by simp [e15],by simp,fun _ => (by rw [Nat.add_sub_cancel];exact (hps i hi).symm),fun j hj=>?_⟩
       by_cases hji:j=i
       ·rw [hji];exact hyes
       ·exact hgood j (by omega)
      ·have hno:=A0c (seen:=seen) (by rw [hpl];exact hi) (by rw [hg];simp [h0,hc])
       have hc':0≤E7 last.l l[i].who.e.l:=by omega
       have ff:=H7 e1 e2 e7 e14 e15 e16 p1 p2 hma hms hmem hz hc'
       refine B6Z (x:=?_)
       clear ff
       refine .inr ⟨by simp,?_⟩
       have ff:=e1
       refine A1l (x:=?_)
       clear ff
       exact ⟨S,_,(by simp [C8,hno];rfl),fun _ h=>by rw [hno] at h;cases h⟩
   ·rintro st ⟨env',last,t,rfl,e1,e2,e7,e14,e15,e16,hlast,hgood⟩
    have hyes:=A4n (seen:=seen) (ps:=ps) (fun i hi=>hgood i (by omega))
    have htk:ps.take l.length=ps:=by rw [←hpl];exact List.take_length
    rw [htk]
    generalize hS:seen++ps=S at *
    have ff:=aI3 e1 e15 e16
    refine A1l (x:=?_)
    clear ff
    refine ⟨by simp,?_⟩
    have ff:=aI3 e1 e15 e16
    refine A1l (x:=?_)
    clear ff
    exact ⟨S,_,(by simp [C8,hyes,h40];rfl),fun _ _ => rfl⟩
  ·have ff:=aI3 g0 lx h40
   refine A1l (x:=?_)
   clear ff
   exact ⟨seen,[],by simp [C8,h40,hself],fun h=>absurd h h40⟩
 ·rintro r ⟨seen',t,rfl,hs⟩
  refine ⟨_,t,rfl,by simp,fun i b hb=>?_,rfl,seen',rfl,hs⟩
  rw [List.getElem?_set] at hb
  split at hb
  ·split at hb
   ·cases hb
    exact .inr (by simp [AV.under,A3A])
   ·cases hb
  ·exact .inl ⟨b,hb,rfl⟩
theorem c52 {h:A3} {s:Ban}:SpecQ Tryz.prog 52 [B2 s] h fun r=>r=(eCi s.who,h):=by
 refine SpecQ.drop1 rfl (q52 fun env g0=>?_)
 have ff:=g0
 refine F4W (x:=?_)
 clear ff
 exact ⟨_,rfl⟩
theorem c51 {h : A3} {x : AV} {l : List Ban} {m : Nat} {seen : List Pt} (hx : Row B4 h x (l.map B2)) (hm : h[m]? = some ⟨.node (seen.map pt), 0, .mp⟩) :
  SpecQ Tryz.prog 51 [x,.fn 52 [],.map m] h fun r=>∃ seen',r=(.bool (decide (l.length≤40)&&I9 seen (l.map (·.who.e))),h.set m ⟨.node (seen'.map pt),0,.mp⟩)∧(l.length≤40→I9 seen (l.map (·.who.e))=true→seen'=seen++l.map (·.who.e)):=by
 have lx:=hx.len
 have bx:=hx.bound
 rw [List.length_map] at lx bx
 have hself:h.set m ⟨.node (seen.map pt),0,.mp⟩=h:=by
  apply List.ext_getElem?
  intro i
  rw [List.getElem?_set]
  split
  ·rename_i e;subst e;rw [if_pos (List.getElem?_eq_some_iff.1 hm).1,hm]
  ·rfl
 have hps:∀ (i:Nat) (hi:i < l.length),(l.map (·.who.e)).getD i pt0=l[i].who.e:=fun i hi=>by
  rw [List.getD_eq_getElem?_getD,List.getElem?_map,List.getElem?_eq_getElem hi];rfl
 have hpl:(l.map (·.who.e)).length=l.length:=List.length_map _
 generalize hP:l.map (·.who.e)=ps at hps hpl ⊢
 refine SpecQ.drop (K:=fun r=>∃ seen' t,r=(.bool (decide (l.length≤40)&&I9 seen ps),h.set m ⟨.node (seen'.map pt),0,.mp⟩++t)∧(l.length≤40→I9 seen ps=true→seen'=seen++ps)) (q51 fun env g0 g1 g2=>?_) _ ?_
 ·by_cases h40:l.length≤40
  ·have ff:=aI5 g0 g1 g2 lx h40
   refine A1m (x:=?_)
   clear ff
   refine G0 l.length (fun i st=>∃ env' last t,st=⟨env',h.set m ⟨.node ((seen++ps.take i).map pt),0,.mp⟩++(⟨pt last,0,.own⟩::t)⟩∧env'.get 1=.fn 52 []∧env'.get 2=.map m∧env'.get 7=.ptr h.length 0 [] (.arr 32 (.int .u8))∧env'.get 14=x∧env'.get 15=nat l.length∧env'.get 16=nat i ∧
    (0 < i→last=ps.getD (i - 1) pt0)∧∀ j,j < i→M5 seen ps j=true) ?_ ?_ ⟨_,pt0,[],(by simp [hself];rfl),by simp [g1],by simp [g2],by simp,by simp [g0],by simp,by simp,fun h=>absurd h (by omega),fun j hj=>absurd hj (by omega)⟩
   ·rintro i st hi ⟨env',last,t,rfl,e1,e2,e7,e14,e15,e16,hlast,hgood⟩
    have hx':Row B4 (h.set m ⟨.node ((seen++ps.take i).map pt),0,.mp⟩) x (l.map B2):=hx.setm hm rfl
    obtain ⟨p,p1,p2⟩:=hx'.idx (i:=i) (by simpa using hi)
    rw [List.getElem?_map,List.getElem?_eq_getElem hi] at p2
    simp only [Option.map_some] at p2
    have hmm:(h.set m ⟨.node ((seen++ps.take i).map pt),0,.mp⟩)[m]?=some ⟨.node ((seen++ps.take i).map pt),0,.mp⟩:=List.getElem?_set_self (List.getElem?_eq_some_iff.1 hm).1
    have hma:=A4m hmm
    have hms:=g8 hmm
    have hg:M5 seen ps i=(!decide (l[i].who.e∈seen++ps.take i)&&(decide (i=0)||decide (E7 last.l l[i].who.e.l < 0))):=by
     unfold M5
     rw [hps i hi]
     by_cases h0:i=0
     ·simp [h0]
     ·rw [←hlast (by omega)]
    have hS1:seen++ps.take (i+1)=seen++ps.take i++[l[i].who.e]:=by
     rw [List.append_assoc,List.take_add_one,←hps i hi,List.getD_eq_getElem?_getD,List.getElem?_eq_getElem (by omega)]
     rfl
    rw [hS1]
    generalize seen++ps.take i=S at *
    by_cases hmem:l[i].who.e∈S
    ·have hno:=A0c (seen:=seen) (by rw [hpl];exact hi) (by rw [hg];simp [hmem])
     have ff:=D8 e1 e2 e7 e14 e15 e16 p1 p2 hma hms hmem
     refine F4X (x:=?_)
     clear ff
     refine .inr ⟨by simp,?_⟩
     have ff:=e1
     refine A1m (x:=?_)
     clear ff
     exact ⟨S,_,(by simp [C8,hno];rfl),fun _ h=>by rw [hno] at h;cases h⟩
    ·by_cases h0:i=0
     ·have hyes:M5 seen ps i=true:=by rw [hg,decide_eq_true h0];simp [hmem]
      have hz:¬ (0 < i):=by omega
      have ff:=F8 e1 e2 e7 e14 e15 e16 p1 p2 hma hms hmem hz
      refine B6a (x:=?_)
      clear ff
      refine .inl ⟨by simp,_,l[i].who.e,_,(by simp;exact ⟨rfl,rfl⟩),by simp [e1],by simp [e2],by simp [e7],by simp [e14],by simp [e15],by simp,fun _ => (by rw [Nat.add_sub_cancel];exact (hps i hi).symm),fun j hj=>?_⟩
      by_cases hji:j=i
      ·rw [hji];exact hyes
      ·exact hgood j (by omega)
     ·have hz:0 < i:=by omega
      by_cases hc:E7 last.l l[i].who.e.l < 0
      ·have hyes:M5 seen ps i=true:=by rw [hg];simp [hmem,hc]
       have hc':¬ (0≤E7 last.l l[i].who.e.l):=by omega
       have ff:=H7 e1 e2 e7 e14 e15 e16 p1 p2 hma hms hmem hz hc'
       refine B6a (x:=?_)
       clear ff
       refine .inl ⟨by simp,_,l[i].who.e,_,(by simp;exact ⟨rfl,rfl⟩),by simp [e1],by simp [e2],by simp [e7],by simp [e14],by simp [e15],by simp,fun _ => (by rw [Nat.add_sub_cancel];exact (hps i hi).symm),fun j hj=>?_⟩
       by_cases hji:j=i
       ·rw [hji];exact hyes
       ·exact hgood j (by omega)
      ·have hno:=A0c (seen:=seen) (by rw [hpl];exact hi) (by rw [hg];simp [h0,hc])
       have hc':0≤E7 last.l l[i].who.e.l:=by omega
       have ff:=H7 e1 e2 e7 e14 e15 e16 p1 p2 hma hms hmem hz hc'
       refine B6a (x:=?_)
       clear ff
       refine .inr ⟨by simp,?_⟩
       have ff:=e1
       refine A1m (x:=?_)
       clear ff
       exact ⟨S,_,(by simp [C8,hno];rfl),fun _ h=>by rw [hno] at h;cases h⟩
   ·rintro st ⟨env',last,t,rfl,e1,e2,e7,e14,e15,e16,hlast,hgood⟩
    have hyes:=A4n (seen:=seen) (ps:=ps) (fun i hi=>hgood i (by omega))
    have htk:ps.take l.length=ps:=by rw [←hpl];exact List.take_length
    rw [htk]
    generalize hS:seen++ps=S at *
    have ff:=aI3 e1 e15 e16
    refine A1m (x:=?_)
    clear ff
    refine ⟨by simp,?_⟩
    have ff:=aI3 e1 e15 e16
    refine A1m (x:=?_)
    clear ff
    exact ⟨S,_,(by simp [C8,hyes,h40];rfl),fun _ _ => rfl⟩
  ·have ff:=aI3 g0 lx h40
   refine A1m (x:=?_)
   clear ff
   exact ⟨seen,[],by simp [C8,h40,hself],fun h=>absurd h h40⟩
 ·rintro r ⟨seen',t,rfl,hs⟩
  refine ⟨_,t,rfl,by simp,fun i b hb=>?_,rfl,seen',rfl,hs⟩
  rw [List.getElem?_set] at hb
  split at hb
  ·split at hb
   ·cases hb
    exact .inr (by simp [AV.under,A3A])
   ·cases hb
  ·exact .inl ⟨b,hb,rfl⟩
end Go.Vab

namespace Go.Vab
open Go Go.Proofs
noncomputable section
def D10:Ctx:=⟨fun _ _ _ => none,TT,16,[7,8,9,10,11,12,13,14,15]⟩
def C24:=B8 Tryz.f108
def C25:=cR C24
def C26:=cR C25
def E3z:=cR C26
def G18:=zQ3 D10 108 Tryz.f108 C24 fun s=>(bnd (some (s.env.get 5)) fun v=>bnd (some []) fun vs=>some (v::vs))
def F6k:=zDr D10 [E3z,C26] [] [0,0,3,7] [0,1,2,3] .f
def G0H:=B3 D10 [[E3z],[C26,C25],[C25,C24]]
end
end Go.Vab

namespace Go.Vab
open Go Go.Proofs
noncomputable section
def D11:Ctx:=⟨fun _ _ _ => none,TT,16,[7,8,9,10,11,12,13,14,15]⟩
def C27:=B8 Tryz.f120
def C28:=cR C27
def C29:=cR C28
def E30:=cR C29
def G19:=zQ3 D11 120 Tryz.f120 C27 fun s=>(bnd (some (s.env.get 5)) fun v=>bnd (some []) fun vs=>some (v::vs))
def F6l:=zDr D11 [E30,C29] [] [0,0,3,7] [0,1,2,3] .f
def G0I:=B3 D11 [[E30],[C29,C28],[C28,C27]]
end
end Go.Vab

namespace Go.Vab
open Go Go.Proofs
noncomputable section
def D12:Ctx:=⟨fun _ _ _ => none,TT,16,[7,8,9,10,11,12,13,14,15]⟩
def C3A:=B8 Tryz.f122
def C3B:=cR C3A
def C3C:=cR C3B
def E31:=cR C3C
def G2A:=zQ3 D12 122 Tryz.f122 C3A fun s=>(bnd (some (s.env.get 5)) fun v=>bnd (some []) fun vs=>some (v::vs))
def F6m:=zDr D12 [E31,C3C] [] [0,0,3,7] [0,1,2,3] .f
def G0J:=B3 D12 [[E31],[C3C,C3B],[C3B,C3A]]
end
end Go.Vab

namespace Go.Vab
open Go Go.Proofs
noncomputable section
def D13:Ctx:=⟨fun _ _ _ => none,TT,16,[7,8,9,10,11,12,13,14,15]⟩
def C3D:=B8 Tryz.f131
def C3E:=cR C3D
def C3F:=cR C3E
def E32:=cR C3F
def G2B:=zQ3 D13 131 Tryz.f131 C3D fun s=>(bnd (some (s.env.get 5)) fun v=>bnd (some []) fun vs=>some (v::vs))
def F6n:=zDr D13 [E32,C3F] [] [0,0,3,7] [0,1,2,3] .f
def G0K:=B3 D13 [[E32],[C3F,C3E],[C3E,C3D]]
end
end Go.Vab

namespace Go.Vab
open Go Go.Proofs
theorem F6o {G X:Prop} (f:Hd X→G:=by
 intro xX
 repeat' (first|refine stp (x:=?_)|(with_reducible refine A5 (c91) ?_;try dsimp only)|(with_reducible refine SpecQ.step (c91) ?_;rintro _ rfl;try dsimp only)|(with_reducible refine A5 (c88 (s1 _) (s2 _)) ?_;try dsimp only)|(with_reducible refine SpecQ.step (c88 (s1 _) (s2 _)) ?_;rintro _ rfl;try dsimp only)|(simp (decide:=true) only [G0H,snB,if_true,if_false])|(with_reducible refine F6k _ _ _ ?_))
 exact xX.get) (x:X):G:=f ⟨x⟩
theorem F6p {G X:Prop} (f:Hd X→G:=by
 intro xX
 repeat' (first|refine stp (x:=?_)|(with_reducible refine A5 (c92) ?_;try dsimp only)|(with_reducible refine SpecQ.step (c92) ?_;rintro _ rfl;try dsimp only)|(with_reducible refine A5 (c88 (s1 _) (s2 _)) ?_;try dsimp only)|(with_reducible refine SpecQ.step (c88 (s1 _) (s2 _)) ?_;rintro _ rfl;try dsimp only)|(simp (decide:=true) only [G0I,snB,if_true,if_false])|(with_reducible refine F6l _ _ _ ?_))
 exact xX.get) (x:X):G:=f ⟨x⟩
theorem F6q {G X:Prop} (f:Hd X→G:=by
 intro xX
 repeat' (first|refine stp (x:=?_)|(with_reducible refine A5 (c93) ?_;try dsimp only)|(with_reducible refine SpecQ.step (c93) ?_;rintro _ rfl;try dsimp only)|(with_reducible refine A5 (c88 (s1 _) (s2 _)) ?_;try dsimp only)|(with_reducible refine SpecQ.step (c88 (s1 _) (s2 _)) ?_;rintro _ rfl;try dsimp only)|(simp (decide:=true) only [G0J,snB,if_true,if_false])|(with_reducible refine F6m _ _ _ ?_))
 exact xX.get) (x:X):G:=f ⟨x⟩
theorem F6r {G X:Prop} (f:Hd X→G:=by
 intro xX
 repeat' (first|refine stp (x:=?_)|(with_reducible refine A5 (A4U) ?_;try dsimp only)|(with_reducible refine SpecQ.step (A4U) ?_;rintro _ rfl;try dsimp only)|(with_reducible refine A5 (c88 (s1 _) (s2 _)) ?_;try dsimp only)|(with_reducible refine SpecQ.step (c88 (s1 _) (s2 _)) ?_;rintro _ rfl;try dsimp only)|(simp (decide:=true) only [G0K,snB,if_true,if_false])|(with_reducible refine F6n _ _ _ ?_))
 exact xX.get) (x:X):G:=f ⟨x⟩
attribute [local irreducible] E9 Evs gW D9 E8 G5
theorem F2m {h:A3} {x:Seat} {e:Pt} {c:Nat} (hc:∀ l,D6 .cell (.ptr c 0 [1] .cell) (h++l)=some (.fn 91 [])):SpecQ Tryz.prog 108 [B0 x,pt e,.ptr c 0 [] K9] h fun r=>r=(.int .i64 (E7 x.who.e.l e.l),h):=by
 refine SpecQ.drop1 rfl (G18 fun env g0 g1 g2=>?_)
 have s1:=fun l=>(M0 (h:=h++⟨B0 x,0,.own⟩::⟨pt e,0,.own⟩::⟨pt x.who.e,0,.own⟩::l) (i:=h.length+2) (path:=[]) (p:=x.who.e) (by simp))
 have s2:=fun l=>(M0 (h:=h++⟨B0 x,0,.own⟩::⟨pt e,0,.own⟩::⟨pt x.who.e,0,.own⟩::l) (i:=h.length+1) (path:=[]) (p:=e) (by simp))
 have ff:=aI4 g0 g1 g2 hc
 refine F6o (x:=?_)
 clear ff
 exact ⟨_,rfl⟩
theorem F2n {h:A3} {x:Inv} {e:Pt} {c:Nat} (hc:∀ l,D6 .cell (.ptr c 0 [1] .cell) (h++l)=some (.fn 92 [])):SpecQ Tryz.prog 120 [B7 x,pt e,.ptr c 0 [] K8] h fun r=>r=(.int .i64 (E7 x.who.e.l e.l),h):=by
 refine SpecQ.drop1 rfl (G19 fun env g0 g1 g2=>?_)
 have s1:=fun l=>(M0 (h:=h++⟨B7 x,0,.own⟩::⟨pt e,0,.own⟩::⟨pt x.who.e,0,.own⟩::l) (i:=h.length+2) (path:=[]) (p:=x.who.e) (by simp))
 have s2:=fun l=>(M0 (h:=h++⟨B7 x,0,.own⟩::⟨pt e,0,.own⟩::⟨pt x.who.e,0,.own⟩::l) (i:=h.length+1) (path:=[]) (p:=e) (by simp))
 have ff:=aI4 g0 g1 g2 hc
 refine F6p (x:=?_)
 clear ff
 exact ⟨_,rfl⟩
theorem F2o {h:A3} {x:Ask} {e:Pt} {c:Nat} (hc:∀ l,D6 .cell (.ptr c 0 [1] .cell) (h++l)=some (.fn 93 [])):SpecQ Tryz.prog 122 [B9 x,pt e,.ptr c 0 [] L0] h fun r=>r=(.int .i64 (E7 x.who.e.l e.l),h):=by
 refine SpecQ.drop1 rfl (G2A fun env g0 g1 g2=>?_)
 have s1:=fun l=>(M0 (h:=h++⟨B9 x,0,.own⟩::⟨pt e,0,.own⟩::⟨pt x.who.e,0,.own⟩::l) (i:=h.length+2) (path:=[]) (p:=x.who.e) (by simp))
 have s2:=fun l=>(M0 (h:=h++⟨B9 x,0,.own⟩::⟨pt e,0,.own⟩::⟨pt x.who.e,0,.own⟩::l) (i:=h.length+1) (path:=[]) (p:=e) (by simp))
 have ff:=aI4 g0 g1 g2 hc
 refine F6q (x:=?_)
 clear ff
 exact ⟨_,rfl⟩
theorem F2p {h:A3} {x:Ban} {e:Pt} {c:Nat} (hc:∀ l,D6 .cell (.ptr c 0 [1] .cell) (h++l)=some (.fn 117 [])):SpecQ Tryz.prog 131 [B2 x,pt e,.ptr c 0 [] M7] h fun r=>r=(.int .i64 (E7 x.who.e.l e.l),h):=by
 refine SpecQ.drop1 rfl (G2B fun env g0 g1 g2=>?_)
 have s1:=fun l=>(M0 (h:=h++⟨B2 x,0,.own⟩::⟨pt e,0,.own⟩::⟨pt x.who.e,0,.own⟩::l) (i:=h.length+2) (path:=[]) (p:=x.who.e) (by simp))
 have s2:=fun l=>(M0 (h:=h++⟨B2 x,0,.own⟩::⟨pt e,0,.own⟩::⟨pt x.who.e,0,.own⟩::l) (i:=h.length+1) (path:=[]) (p:=e) (by simp))
 have ff:=aI4 g0 g1 g2 hc
 refine F6r (x:=?_)
 clear ff
 exact ⟨_,rfl⟩
end Go.Vab

namespace Go.Vab
open Go Go.Proofs
noncomputable section
def B4H:Ctx:=⟨fun _ _ _ => none,TT,49,[12,13,14,15,16,18,19,20,21,22,23,24,25,26,27,28,29,30,32,33,34,35,36,37,38,39,40,41,42,43,44,45,46,47,48]⟩
def C3G:=B8 Tryz.f107
def C3H:=cR C3G
def C3I:=cR C3H
def A8f:=cR C3I
def C3J:=cL A8f
def C3K:=cB C3J
def A8g:=cB C3K
def C3L:=cL A8g
def A8h:=cR C3L
def E33:=cL A8h
def E0Q:=cR A8h
def B8d:=cR A8g
def B8e:=cB B8d
def B8f:=cR B8e
def A54:=cR B8f
def E0R:=cL A54
def E0S:=cR A54
def B8g:=cR A8f
def E0T:=cR B8g
def G2C:=zQ3 B4H 107 Tryz.f107 C3G fun s=>(bnd (some (s.env.get 6)) fun v=>bnd (bnd (some (s.env.get 7)) fun v=>bnd (some []) fun vs=>some (v::vs)) fun vs=>some (v::vs))
def D8A:=zDr B4H [A54,B8f] [] [0,0,0,6,14,0,63,127] [0,1,2,3,4,5,6,7] .f
def D8B:=zDr B4H [E0T,B8g] [] [0,0,0,6,14,30,30,30,222,478,30,2046,4094,8190,4095,32767] [0,1,2,3,4,5,6,7,8,9,10,11,12,13,14,15] .f
def F0g:=B3 B4H [[E33],[E0Q],[E33,E0Q,A8h],[A8h,C3L],[E0R],[E0S],[E0R,E0S,A54],[B8f,B8e],[B8e,B8d],[C3L,B8d,A8g],[A8g,C3K],[C3K,C3J],[E0T],[C3J,B8g,A8f],[A8f,C3I],[C3I,C3H],[C3H,C3G]]
end
end Go.Vab

namespace Go.Vab
open Go Go.Proofs
noncomputable section
def B4I:Ctx:=⟨fun _ _ _ => none,TT,49,[12,13,14,15,16,18,19,20,21,22,23,24,25,26,27,28,29,30,32,33,34,35,36,37,38,39,40,41,42,43,44,45,46,47,48]⟩
def C3M:=B8 Tryz.f119
def C3N:=cR C3M
def C3O:=cR C3N
def A8i:=cR C3O
def C3P:=cL A8i
def C3Q:=cB C3P
def A8j:=cB C3Q
def C3R:=cL A8j
def A8k:=cR C3R
def E34:=cL A8k
def E0U:=cR A8k
def B8h:=cR A8j
def B8i:=cB B8h
def B8j:=cR B8i
def A55:=cR B8j
def E0V:=cL A55
def E0W:=cR A55
def B8k:=cR A8i
def E0X:=cR B8k
def G2D:=zQ3 B4I 119 Tryz.f119 C3M fun s=>(bnd (some (s.env.get 6)) fun v=>bnd (bnd (some (s.env.get 7)) fun v=>bnd (some []) fun vs=>some (v::vs)) fun vs=>some (v::vs))
def D8C:=zDr B4I [A55,B8j] [] [0,0,0,6,14,0,63,127] [0,1,2,3,4,5,6,7] .f
def D8D:=zDr B4I [E0X,B8k] [] [0,0,0,6,14,30,30,30,222,478,30,2046,4094,8190,4095,32767] [0,1,2,3,4,5,6,7,8,9,10,11,12,13,14,15] .f
def F0h:=B3 B4I [[E34],[E0U],[E34,E0U,A8k],[A8k,C3R],[E0V],[E0W],[E0V,E0W,A55],[B8j,B8i],[B8i,B8h],[C3R,B8h,A8j],[A8j,C3Q],[C3Q,C3P],[E0X],[C3P,B8k,A8i],[A8i,C3O],[C3O,C3N],[C3N,C3M]]
end
end Go.Vab

namespace Go.Vab
open Go Go.Proofs
noncomputable section
def B4J:Ctx:=⟨fun _ _ _ => none,TT,49,[12,13,14,15,16,18,19,20,21,22,23,24,25,26,27,28,29,30,32,33,34,35,36,37,38,39,40,41,42,43,44,45,46,47,48]⟩
def C3S:=B8 Tryz.f121
def C3T:=cR C3S
def C3U:=cR C3T
def A8l:=cR C3U
def C3V:=cL A8l
def C3W:=cB C3V
def A8m:=cB C3W
def C3X:=cL A8m
def A8n:=cR C3X
def E35:=cL A8n
def E0Y:=cR A8n
def B8l:=cR A8m
def B8m:=cB B8l
def B8n:=cR B8m
def A56:=cR B8n
def E0Z:=cL A56
def E0a:=cR A56
def B8o:=cR A8l
def E0b:=cR B8o
def G2E:=zQ3 B4J 121 Tryz.f121 C3S fun s=>(bnd (some (s.env.get 6)) fun v=>bnd (bnd (some (s.env.get 7)) fun v=>bnd (some []) fun vs=>some (v::vs)) fun vs=>some (v::vs))
def D8E:=zDr B4J [A56,B8n] [] [0,0,0,6,14,0,63,127] [0,1,2,3,4,5,6,7] .f
def D8F:=zDr B4J [E0b,B8o] [] [0,0,0,6,14,30,30,30,222,478,30,2046,4094,8190,4095,32767] [0,1,2,3,4,5,6,7,8,9,10,11,12,13,14,15] .f
def F0i:=B3 B4J [[E35],[E0Y],[E35,E0Y,A8n],[A8n,C3X],[E0Z],[E0a],[E0Z,E0a,A56],[B8n,B8m],[B8m,B8l],[C3X,B8l,A8m],[A8m,C3W],[C3W,C3V],[E0b],[C3V,B8o,A8l],[A8l,C3U],[C3U,C3T],[C3T,C3S]]
end
end Go.Vab

namespace Go.Vab
open Go Go.Proofs
noncomputable section
def B4K:Ctx:=⟨fun _ _ _ => none,TT,49,[12,13,14,15,16,18,19,20,21,22,23,24,25,26,27,28,29,30,32,33,34,35,36,37,38,39,40,41,42,43,44,45,46,47,48]⟩
def C3Y:=B8 Tryz.f130
def C3Z:=cR C3Y
def C3a:=cR C3Z
def A8o:=cR C3a
def C3b:=cL A8o
def C3c:=cB C3b
def A8p:=cB C3c
def C3d:=cL A8p
def A8q:=cR C3d
def E36:=cL A8q
def E0c:=cR A8q
def B8p:=cR A8p
def B8q:=cB B8p
def B8r:=cR B8q
def A57:=cR B8r
def E0d:=cL A57
def E0e:=cR A57
def B8s:=cR A8o
def E0f:=cR B8s
def G2F:=zQ3 B4K 130 Tryz.f130 C3Y fun s=>(bnd (some (s.env.get 6)) fun v=>bnd (bnd (some (s.env.get 7)) fun v=>bnd (some []) fun vs=>some (v::vs)) fun vs=>some (v::vs))
def D8G:=zDr B4K [A57,B8r] [] [0,0,0,6,14,0,63,127] [0,1,2,3,4,5,6,7] .f
def D8H:=zDr B4K [E0f,B8s] [] [0,0,0,6,14,30,30,30,222,478,30,2046,4094,8190,4095,32767] [0,1,2,3,4,5,6,7,8,9,10,11,12,13,14,15] .f
def F0j:=B3 B4K [[E36],[E0c],[E36,E0c,A8q],[A8q,C3d],[E0d],[E0e],[E0d,E0e,A57],[B8r,B8q],[B8q,B8p],[C3d,B8p,A8p],[A8p,C3c],[C3c,C3b],[E0f],[C3b,B8s,A8o],[A8o,C3a],[C3a,C3Z],[C3Z,C3Y]]
end
end Go.Vab

namespace Go.Vab
open Go Go.Proofs
theorem B69 {G X:Prop} (f:Hd X→G:=by
 intro xX
 repeat' (first|refine stp (x:=?_)|(simp (decide:=true) only [F0g,snB,if_true,if_false])|(with_reducible refine D8A _ _ _ ?_)|(with_reducible refine D8B _ _ _ ?_))
 exact xX.get) (x:X):G:=f ⟨x⟩
theorem B7A {G X:Prop} (f:Hd X→G:=by
 intro xX
 repeat' (first|refine stp (x:=?_)|(with_reducible refine A5 (F2m (hcc _)) ?_;try dsimp only)|(with_reducible refine SpecQ.step (F2m (hcc _)) ?_;rintro _ rfl;try dsimp only)|(simp (decide:=true) only [F0g,snB,if_true,if_false])|(with_reducible refine D8A _ _ _ ?_)|(with_reducible refine D8B _ _ _ ?_))
 exact xX.get) (x:X):G:=f ⟨x⟩
theorem B7B {G X:Prop} (f:Hd X→G:=by
 intro xX
 repeat' (first|refine stp (x:=?_)|(simp (decide:=true) only [F0h,snB,if_true,if_false])|(with_reducible refine D8C _ _ _ ?_)|(with_reducible refine D8D _ _ _ ?_))
 exact xX.get) (x:X):G:=f ⟨x⟩
theorem B7C {G X:Prop} (f:Hd X→G:=by
 intro xX
 repeat' (first|refine stp (x:=?_)|(with_reducible refine A5 (F2n (hcc _)) ?_;try dsimp only)|(with_reducible refine SpecQ.step (F2n (hcc _)) ?_;rintro _ rfl;try dsimp only)|(simp (decide:=true) only [F0h,snB,if_true,if_false])|(with_reducible refine D8C _ _ _ ?_)|(with_reducible refine D8D _ _ _ ?_))
 exact xX.get) (x:X):G:=f ⟨x⟩
theorem B7D {G X:Prop} (f:Hd X→G:=by
 intro xX
 repeat' (first|refine stp (x:=?_)|(simp (decide:=true) only [F0i,snB,if_true,if_false])|(with_reducible refine D8E _ _ _ ?_)|(with_reducible refine D8F _ _ _ ?_))
 exact xX.get) (x:X):G:=f ⟨x⟩
theorem B7E {G X:Prop} (f:Hd X→G:=by
 intro xX
 repeat' (first|refine stp (x:=?_)|(with_reducible refine A5 (F2o (hcc _)) ?_;try dsimp only)|(with_reducible refine SpecQ.step (F2o (hcc _)) ?_;rintro _ rfl;try dsimp only)|(simp (decide:=true) only [F0i,snB,if_true,if_false])|(with_reducible refine D8E _ _ _ ?_)|(with_reducible refine D8F _ _ _ ?_))
 exact xX.get) (x:X):G:=f ⟨x⟩
theorem B7F {G X:Prop} (f:Hd X→G:=by
 intro xX
 repeat' (first|refine stp (x:=?_)|(simp (decide:=true) only [F0j,snB,if_true,if_false])|(with_reducible refine D8G _ _ _ ?_)|(with_reducible refine D8H _ _ _ ?_))
 exact xX.get) (x:X):G:=f ⟨x⟩
theorem B7G {G X:Prop} (f:Hd X→G:=by
 intro xX
 repeat' (first|refine stp (x:=?_)|(with_reducible refine A5 (F2p (hcc _)) ?_;try dsimp only)|(with_reducible refine SpecQ.step (F2p (hcc _)) ?_;rintro _ rfl;try dsimp only)|(simp (decide:=true) only [F0j,snB,if_true,if_false])|(with_reducible refine D8G _ _ _ ?_)|(with_reducible refine D8H _ _ _ ?_))
 exact xX.get) (x:X):G:=f ⟨x⟩
attribute [local irreducible] E9 Evs gW D9 E8 G5
theorem B4L {m:Nat} (h:m≤100000):v9 .i64 (u64 (BitVec.ofNat 64 m >>> 1))=some (nat (m / 2)):=by
 simp only [v9,u64,nat]
 congr 2
 rw [BitVec.toNat_ushiftRight,BitVec.toNat_ofNat,Nat.shiftRight_eq_div_pow,Nat.mod_eq_of_lt (by omega)]
 unfold IntKind.wrap
 simp [IntKind.bits,IntKind.signed]
 omega
theorem cmp_eq (p q:Pt):decide (E7 p.l q.l=0)=decide (p=q):=by
 apply Z5
 exact ⟨fun h=>Pt.ext' (D73 h),fun h=>by rw [h];exact B6g _⟩
@[simp] theorem G9E (p q:Pt):C6 .eql (.int .i64 (E7 p.l q.l)) (nat 0)=some (.bool (decide (p=q))):=by rw [←cmp_eq];simp only [C6,L3,nat,if_true];congr 2
theorem F2q {h:A3} {x:AV} {l:List Seat} {e:Pt} {c:Nat} (hx:Row A7 h x (l.map B0)) (hl:l.length≤1000) (hs:srt fS l) (hc:∀ l,D6 .cell (.ptr c 0 [1] .cell) (h++l)=some (.fn 91 [])):SpecQ Tryz.prog 107 [x,pt e,.fn 108 [.ptr c 0 [] K9]] h fun r=>r=(.tuple [nat (low fS l e),.bool (A8 fS l e)],h):=by
 have lx:=hx.len
 rw [List.length_map] at lx
 have hcc:∀ u l,D6 .cell (.ptr c 0 [1] .cell) ((h++u)++l)=some (.fn 91 []):=fun u l=>by rw [List.append_assoc];exact hc _
 refine SpecQ.drop1 rfl (G2C fun env g0 g1 g2=>?_)
 have ff:=aI4 g0 g1 g2 lx
 refine B69 (x:=?_)
 clear ff
 refine Y9 (fun r=>∃ env',r=(.exit 0,⟨env',h++[⟨pt e,0,.own⟩]⟩)∧env'.get 0=x∧env'.get 2=.fn 108 [.ptr c 0 [] K9]∧env'.get 4=.ptr h.length 0 [] (.arr 32 (.int .u8))∧env'.get 8=nat l.length∧env'.get 9=nat (low fS l e)) ?_ ?_
 ·refine ⟨fun m st=>∃ i j env',st=⟨env',h++[⟨pt e,0,.own⟩]⟩∧i+m=j∧j≤l.length∧env'.get 0=x∧env'.get 2=.fn 108 [.ptr c 0 [] K9]∧env'.get 4=.ptr h.length 0 [] (.arr 32 (.int .u8))∧env'.get 8=nat l.length∧env'.get 9=nat i∧env'.get 10=nat j∧(∀ k (hk:k < l.length),k < i→ltP (fS l[k]) e=true)∧(∀ k (hk:k < l.length),j≤k→ltP (fS l[k]) e=false),l.length,⟨0,l.length,_,rfl,by omega,Nat.le_refl _,by simp [g0],by simp [g2],by simp,by simp,by simp,by simp,fun k _ hk=>absurd hk (by omega),fun k hk hj=>absurd hk (by omega)⟩,?_⟩
  rintro m st ⟨i,j,env',rfl,hm,hj,e0,e2,e4,e8,e9,e10,h1,h2⟩
  by_cases hij:i < j
  ·have mid:=B4L (m:=i+j) (by omega)
   have hmid:(i+j) / 2 < l.length:=by omega
   obtain ⟨p,p1,p2⟩:=hx.idx (i:=(i+j) / 2) (by simpa using hmid)
   have p3:∀ u,D6 A7 p (h++u)=some (B0 l[(i+j) / 2]):=fun u=>by rw [p2,List.getElem?_map,List.getElem?_eq_getElem hmid];rfl
   by_cases hlt:ltP (fS l[(i+j) / 2]) e=true
   ·have hlt':E7 l[(i+j) / 2].who.e.l e.l < 0:=of_decide_eq_true hlt
    have ff:=D8 e0 e2 e4 e8 e9 e10 hij mid p1 p3 hlt'
    refine B7A (x:=?_)
    clear ff
    refine .inl ⟨by simp,j - ((i+j) / 2+1),by omega,(i+j) / 2+1,j,_,rfl,by omega,hj,by simp [e0],by simp [e2],by simp [e4],by simp [e8],by simp,by simp [e10],fun k hk hki=>?_,h2⟩
    by_cases hq:k=(i+j) / 2
    ·subst hq;exact hlt
    ·have h3:=hs k ((i+j) / 2) hk hmid (by omega)
     exact l0 h3 hlt
   ·have hlt:ltP (fS l[(i+j) / 2]) e=false:=by simpa using hlt
    have hlt':¬ E7 l[(i+j) / 2].who.e.l e.l < 0:=of_decide_eq_false hlt
    have ff:=D8 e0 e2 e4 e8 e9 e10 hij mid p1 p3 hlt'
    refine B7A (x:=?_)
    clear ff
    refine .inl ⟨by simp,(i+j) / 2 - i,by omega,i,(i+j) / 2,_,rfl,by omega,by omega,by simp [e0],by simp [e2],by simp [e4],by simp [e8],by simp [e9],by simp,h1,fun k hk hki=>?_⟩
    by_cases hq:k=(i+j) / 2
    ·subst hq;exact hlt
    ·have h3:=hs ((i+j) / 2) k hmid hk (by omega)
     cases h4:ltP (fS l[k]) e
     ·rfl
     ·rw [l0 h3 h4] at hlt;cases hlt
  ·have hij':j=i:=by omega
   subst hij'
   have ff:=aI3 e9 e10 hij
   refine B69 (x:=?_)
   clear ff
   refine .inr ⟨by simp,_,rfl,by simp [e0],by simp [e2],by simp [e4],by simp [e8],?_⟩
   rw [X8 fS hj h1 (fun hi=>h2 _ hi (Nat.le_refl _))]
   simp [e9]
 ·rintro r ⟨env',rfl,e0,e2,e4,e8,e9⟩
  by_cases hlt:low fS l e < l.length
  ·obtain ⟨p,p1,p2⟩:=hx.idx (i:=low fS l e) (by simpa using hlt)
   have p3:∀ u,D6 A7 p (h++u)=some (B0 l[low fS l e]):=fun u=>by rw [p2,List.getElem?_map,List.getElem?_eq_getElem hlt];rfl
   have hp:=A3J hs hlt
   have ff:=aI8 e0 e2 e4 e8 e9 hlt p1 p3
   refine B7A (x:=?_)
   clear ff
   rw [hp]
   exact ⟨_,rfl⟩
  ·have hp:=A3K hs hlt
   have ff:=aI6 e0 e2 e4 e8 e9 hlt
   refine B69 (x:=?_)
   clear ff
   rw [hp]
   exact ⟨_,rfl⟩
theorem F2r {h:A3} {x:AV} {l:List Inv} {e:Pt} {c:Nat} (hx:Row B1 h x (l.map B7)) (hl:l.length≤1000) (hs:srt fI l) (hc:∀ l,D6 .cell (.ptr c 0 [1] .cell) (h++l)=some (.fn 92 [])):SpecQ Tryz.prog 119 [x,pt e,.fn 120 [.ptr c 0 [] K8]] h fun r=>r=(.tuple [nat (low fI l e),.bool (A8 fI l e)],h):=by
 have lx:=hx.len
 rw [List.length_map] at lx
 have hcc:∀ u l,D6 .cell (.ptr c 0 [1] .cell) ((h++u)++l)=some (.fn 92 []):=fun u l=>by rw [List.append_assoc];exact hc _
 refine SpecQ.drop1 rfl (G2D fun env g0 g1 g2=>?_)
 have ff:=aI4 g0 g1 g2 lx
 refine B7B (x:=?_)
 clear ff
 refine Y9 (fun r=>∃ env',r=(.exit 0,⟨env',h++[⟨pt e,0,.own⟩]⟩)∧env'.get 0=x∧env'.get 2=.fn 120 [.ptr c 0 [] K8]∧env'.get 4=.ptr h.length 0 [] (.arr 32 (.int .u8))∧env'.get 8=nat l.length∧env'.get 9=nat (low fI l e)) ?_ ?_
 ·refine ⟨fun m st=>∃ i j env',st=⟨env',h++[⟨pt e,0,.own⟩]⟩∧i+m=j∧j≤l.length∧env'.get 0=x∧env'.get 2=.fn 120 [.ptr c 0 [] K8]∧env'.get 4=.ptr h.length 0 [] (.arr 32 (.int .u8))∧env'.get 8=nat l.length∧env'.get 9=nat i∧env'.get 10=nat j∧(∀ k (hk:k < l.length),k < i→ltP (fI l[k]) e=true)∧(∀ k (hk:k < l.length),j≤k→ltP (fI l[k]) e=false),l.length,⟨0,l.length,_,rfl,by omega,Nat.le_refl _,by simp [g0],by simp [g2],by simp,by simp,by simp,by simp,fun k _ hk=>absurd hk (by omega),fun k hk hj=>absurd hk (by omega)⟩,?_⟩
  rintro m st ⟨i,j,env',rfl,hm,hj,e0,e2,e4,e8,e9,e10,h1,h2⟩
  by_cases hij:i < j
  ·have mid:=B4L (m:=i+j) (by omega)
   have hmid:(i+j) / 2 < l.length:=by omega
   obtain ⟨p,p1,p2⟩:=hx.idx (i:=(i+j) / 2) (by simpa using hmid)
   have p3:∀ u,D6 B1 p (h++u)=some (B7 l[(i+j) / 2]):=fun u=>by rw [p2,List.getElem?_map,List.getElem?_eq_getElem hmid];rfl
   by_cases hlt:ltP (fI l[(i+j) / 2]) e=true
   ·have hlt':E7 l[(i+j) / 2].who.e.l e.l < 0:=of_decide_eq_true hlt
    have ff:=D8 e0 e2 e4 e8 e9 e10 hij mid p1 p3 hlt'
    refine B7C (x:=?_)
    clear ff
    refine .inl ⟨by simp,j - ((i+j) / 2+1),by omega,(i+j) / 2+1,j,_,rfl,by omega,hj,by simp [e0],by simp [e2],by simp [e4],by simp [e8],by simp,by simp [e10],fun k hk hki=>?_,h2⟩
    by_cases hq:k=(i+j) / 2
    ·subst hq;exact hlt
    ·have h3:=hs k ((i+j) / 2) hk hmid (by omega)
     exact l0 h3 hlt
   ·have hlt:ltP (fI l[(i+j) / 2]) e=false:=by simpa using hlt
    have hlt':¬ E7 l[(i+j) / 2].who.e.l e.l < 0:=of_decide_eq_false hlt
    have ff:=D8 e0 e2 e4 e8 e9 e10 hij mid p1 p3 hlt'
    refine B7C (x:=?_)
    clear ff
    refine .inl ⟨by simp,(i+j) / 2 - i,by omega,i,(i+j) / 2,_,rfl,by omega,by omega,by simp [e0],by simp [e2],by simp [e4],by simp [e8],by simp [e9],by simp,h1,fun k hk hki=>?_⟩
    by_cases hq:k=(i+j) / 2
    ·subst hq;exact hlt
    ·have h3:=hs ((i+j) / 2) k hmid hk (by omega)
     cases h4:ltP (fI l[k]) e
     ·rfl
     ·rw [l0 h3 h4] at hlt;cases hlt
  ·have hij':j=i:=by omega
   subst hij'
   have ff:=aI3 e9 e10 hij
   refine B7B (x:=?_)
   clear ff
   refine .inr ⟨by simp,_,rfl,by simp [e0],by simp [e2],by simp [e4],by simp [e8],?_⟩
   rw [X8 fI hj h1 (fun hi=>h2 _ hi (Nat.le_refl _))]
   simp [e9]
 ·rintro r ⟨env',rfl,e0,e2,e4,e8,e9⟩
  by_cases hlt:low fI l e < l.length
  ·obtain ⟨p,p1,p2⟩:=hx.idx (i:=low fI l e) (by simpa using hlt)
   have p3:∀ u,D6 B1 p (h++u)=some (B7 l[low fI l e]):=fun u=>by rw [p2,List.getElem?_map,List.getElem?_eq_getElem hlt];rfl
   have hp:=A3J hs hlt
   have ff:=aI8 e0 e2 e4 e8 e9 hlt p1 p3
   refine B7C (x:=?_)
   clear ff
   rw [hp]
   exact ⟨_,rfl⟩
  ·have hp:=A3K hs hlt
   have ff:=aI6 e0 e2 e4 e8 e9 hlt
   refine B7B (x:=?_)
   clear ff
   rw [hp]
   exact ⟨_,rfl⟩
theorem F2s {h:A3} {x:AV} {l:List Ask} {e:Pt} {c:Nat} (hx:Row B5 h x (l.map B9)) (hl:l.length≤1000) (hs:srt fA l) (hc:∀ l,D6 .cell (.ptr c 0 [1] .cell) (h++l)=some (.fn 93 [])):SpecQ Tryz.prog 121 [x,pt e,.fn 122 [.ptr c 0 [] L0]] h fun r=>r=(.tuple [nat (low fA l e),.bool (A8 fA l e)],h):=by
 have lx:=hx.len
 rw [List.length_map] at lx
 have hcc:∀ u l,D6 .cell (.ptr c 0 [1] .cell) ((h++u)++l)=some (.fn 93 []):=fun u l=>by rw [List.append_assoc];exact hc _
 refine SpecQ.drop1 rfl (G2E fun env g0 g1 g2=>?_)
 have ff:=aI4 g0 g1 g2 lx
 refine B7D (x:=?_)
 clear ff
 refine Y9 (fun r=>∃ env',r=(.exit 0,⟨env',h++[⟨pt e,0,.own⟩]⟩)∧env'.get 0=x∧env'.get 2=.fn 122 [.ptr c 0 [] L0]∧env'.get 4=.ptr h.length 0 [] (.arr 32 (.int .u8))∧env'.get 8=nat l.length∧env'.get 9=nat (low fA l e)) ?_ ?_
 ·refine ⟨fun m st=>∃ i j env',st=⟨env',h++[⟨pt e,0,.own⟩]⟩∧i+m=j∧j≤l.length∧env'.get 0=x∧env'.get 2=.fn 122 [.ptr c 0 [] L0]∧env'.get 4=.ptr h.length 0 [] (.arr 32 (.int .u8))∧env'.get 8=nat l.length∧env'.get 9=nat i∧env'.get 10=nat j∧(∀ k (hk:k < l.length),k < i→ltP (fA l[k]) e=true)∧(∀ k (hk:k < l.length),j≤k→ltP (fA l[k]) e=false),l.length,⟨0,l.length,_,rfl,by omega,Nat.le_refl _,by simp [g0],by simp [g2],by simp,by simp,by simp,by simp,fun k _ hk=>absurd hk (by omega),fun k hk hj=>absurd hk (by omega)⟩,?_⟩
  rintro m st ⟨i,j,env',rfl,hm,hj,e0,e2,e4,e8,e9,e10,h1,h2⟩
  by_cases hij:i < j
  ·have mid:=B4L (m:=i+j) (by omega)
   have hmid:(i+j) / 2 < l.length:=by omega
   obtain ⟨p,p1,p2⟩:=hx.idx (i:=(i+j) / 2) (by simpa using hmid)
   have p3:∀ u,D6 B5 p (h++u)=some (B9 l[(i+j) / 2]):=fun u=>by rw [p2,List.getElem?_map,List.getElem?_eq_getElem hmid];rfl
   by_cases hlt:ltP (fA l[(i+j) / 2]) e=true
   ·have hlt':E7 l[(i+j) / 2].who.e.l e.l < 0:=of_decide_eq_true hlt
    have ff:=D8 e0 e2 e4 e8 e9 e10 hij mid p1 p3 hlt'
    refine B7E (x:=?_)
    clear ff
    refine .inl ⟨by simp,j - ((i+j) / 2+1),by omega,(i+j) / 2+1,j,_,rfl,by omega,hj,by simp [e0],by simp [e2],by simp [e4],by simp [e8],by simp,by simp [e10],fun k hk hki=>?_,h2⟩
    by_cases hq:k=(i+j) / 2
    ·subst hq;exact hlt
    ·have h3:=hs k ((i+j) / 2) hk hmid (by omega)
     exact l0 h3 hlt
   ·have hlt:ltP (fA l[(i+j) / 2]) e=false:=by simpa using hlt
    have hlt':¬ E7 l[(i+j) / 2].who.e.l e.l < 0:=of_decide_eq_false hlt
    have ff:=D8 e0 e2 e4 e8 e9 e10 hij mid p1 p3 hlt'
    refine B7E (x:=?_)
    clear ff
    refine .inl ⟨by simp,(i+j) / 2 - i,by omega,i,(i+j) / 2,_,rfl,by omega,by omega,by simp [e0],by simp [e2],by simp [e4],by simp [e8],by simp [e9],by simp,h1,fun k hk hki=>?_⟩
    by_cases hq:k=(i+j) / 2
    ·subst hq;exact hlt
    ·have h3:=hs ((i+j) / 2) k hmid hk (by omega)
     cases h4:ltP (fA l[k]) e
     ·rfl
     ·rw [l0 h3 h4] at hlt;cases hlt
  ·have hij':j=i:=by omega
   subst hij'
   have ff:=aI3 e9 e10 hij
   refine B7D (x:=?_)
   clear ff
   refine .inr ⟨by simp,_,rfl,by simp [e0],by simp [e2],by simp [e4],by simp [e8],?_⟩
   rw [X8 fA hj h1 (fun hi=>h2 _ hi (Nat.le_refl _))]
   simp [e9]
 ·rintro r ⟨env',rfl,e0,e2,e4,e8,e9⟩
  by_cases hlt:low fA l e < l.length
  ·obtain ⟨p,p1,p2⟩:=hx.idx (i:=low fA l e) (by simpa using hlt)
   have p3:∀ u,D6 B5 p (h++u)=some (B9 l[low fA l e]):=fun u=>by rw [p2,List.getElem?_map,List.getElem?_eq_getElem hlt];rfl
   have hp:=A3J hs hlt
   have ff:=aI8 e0 e2 e4 e8 e9 hlt p1 p3
   refine B7E (x:=?_)
   clear ff
   rw [hp]
   exact ⟨_,rfl⟩
  ·have hp:=A3K hs hlt
   have ff:=aI6 e0 e2 e4 e8 e9 hlt
   refine B7D (x:=?_)
   clear ff
   rw [hp]
   exact ⟨_,rfl⟩
theorem F2t {h:A3} {x:AV} {l:List Ban} {e:Pt} {c:Nat} (hx:Row B4 h x (l.map B2)) (hl:l.length≤1000) (hs:srt fB l) (hc:∀ l,D6 .cell (.ptr c 0 [1] .cell) (h++l)=some (.fn 117 [])):SpecQ Tryz.prog 130 [x,pt e,.fn 131 [.ptr c 0 [] M7]] h fun r=>r=(.tuple [nat (low fB l e),.bool (A8 fB l e)],h):=by
 have lx:=hx.len
 rw [List.length_map] at lx
 have hcc:∀ u l,D6 .cell (.ptr c 0 [1] .cell) ((h++u)++l)=some (.fn 117 []):=fun u l=>by rw [List.append_assoc];exact hc _
 refine SpecQ.drop1 rfl (G2F fun env g0 g1 g2=>?_)
 have ff:=aI4 g0 g1 g2 lx
 refine B7F (x:=?_)
 clear ff
 refine Y9 (fun r=>∃ env',r=(.exit 0,⟨env',h++[⟨pt e,0,.own⟩]⟩)∧env'.get 0=x∧env'.get 2=.fn 131 [.ptr c 0 [] M7]∧env'.get 4=.ptr h.length 0 [] (.arr 32 (.int .u8))∧env'.get 8=nat l.length∧env'.get 9=nat (low fB l e)) ?_ ?_
 ·refine ⟨fun m st=>∃ i j env',st=⟨env',h++[⟨pt e,0,.own⟩]⟩∧i+m=j∧j≤l.length∧env'.get 0=x∧env'.get 2=.fn 131 [.ptr c 0 [] M7]∧env'.get 4=.ptr h.length 0 [] (.arr 32 (.int .u8))∧env'.get 8=nat l.length∧env'.get 9=nat i∧env'.get 10=nat j∧(∀ k (hk:k < l.length),k < i→ltP (fB l[k]) e=true)∧(∀ k (hk:k < l.length),j≤k→ltP (fB l[k]) e=false),l.length,⟨0,l.length,_,rfl,by omega,Nat.le_refl _,by simp [g0],by simp [g2],by simp,by simp,by simp,by simp,fun k _ hk=>absurd hk (by omega),fun k hk hj=>absurd hk (by omega)⟩,?_⟩
  rintro m st ⟨i,j,env',rfl,hm,hj,e0,e2,e4,e8,e9,e10,h1,h2⟩
  by_cases hij:i < j
  ·have mid:=B4L (m:=i+j) (by omega)
   have hmid:(i+j) / 2 < l.length:=by omega
   obtain ⟨p,p1,p2⟩:=hx.idx (i:=(i+j) / 2) (by simpa using hmid)
   have p3:∀ u,D6 B4 p (h++u)=some (B2 l[(i+j) / 2]):=fun u=>by rw [p2,List.getElem?_map,List.getElem?_eq_getElem hmid];rfl
   by_cases hlt:ltP (fB l[(i+j) / 2]) e=true
   ·have hlt':E7 l[(i+j) / 2].who.e.l e.l < 0:=of_decide_eq_true hlt
    have ff:=D8 e0 e2 e4 e8 e9 e10 hij mid p1 p3 hlt'
    refine B7G (x:=?_)
    clear ff
    refine .inl ⟨by simp,j - ((i+j) / 2+1),by omega,(i+j) / 2+1,j,_,rfl,by omega,hj,by simp [e0],by simp [e2],by simp [e4],by simp [e8],by simp,by simp [e10],fun k hk hki=>?_,h2⟩
    by_cases hq:k=(i+j) / 2
    ·subst hq;exact hlt
    ·have h3:=hs k ((i+j) / 2) hk hmid (by omega)
     exact l0 h3 hlt
   ·have hlt:ltP (fB l[(i+j) / 2]) e=false:=by simpa using hlt
    have hlt':¬ E7 l[(i+j) / 2].who.e.l e.l < 0:=of_decide_eq_false hlt
    have ff:=D8 e0 e2 e4 e8 e9 e10 hij mid p1 p3 hlt'
    refine B7G (x:=?_)
    clear ff
    refine .inl ⟨by simp,(i+j) / 2 - i,by omega,i,(i+j) / 2,_,rfl,by omega,by omega,by simp [e0],by simp [e2],by simp [e4],by simp [e8],by simp [e9],by simp,h1,fun k hk hki=>?_⟩
    by_cases hq:k=(i+j) / 2
    ·subst hq;exact hlt
    ·have h3:=hs ((i+j) / 2) k hmid hk (by omega)
     cases h4:ltP (fB l[k]) e
     ·rfl
     ·rw [l0 h3 h4] at hlt;cases hlt
  ·have hij':j=i:=by omega
   subst hij'
   have ff:=aI3 e9 e10 hij
   refine B7F (x:=?_)
   clear ff
   refine .inr ⟨by simp,_,rfl,by simp [e0],by simp [e2],by simp [e4],by simp [e8],?_⟩
   rw [X8 fB hj h1 (fun hi=>h2 _ hi (Nat.le_refl _))]
   simp [e9]
 ·rintro r ⟨env',rfl,e0,e2,e4,e8,e9⟩
  by_cases hlt:low fB l e < l.length
  ·obtain ⟨p,p1,p2⟩:=hx.idx (i:=low fB l e) (by simpa using hlt)
   have p3:∀ u,D6 B4 p (h++u)=some (B2 l[low fB l e]):=fun u=>by rw [p2,List.getElem?_map,List.getElem?_eq_getElem hlt];rfl
   have hp:=A3J hs hlt
   have ff:=aI8 e0 e2 e4 e8 e9 hlt p1 p3
   refine B7G (x:=?_)
   clear ff
   rw [hp]
   exact ⟨_,rfl⟩
  ·have hp:=A3K hs hlt
   have ff:=aI6 e0 e2 e4 e8 e9 hlt
   refine B7F (x:=?_)
   clear ff
   rw [hp]
   exact ⟨_,rfl⟩
end Go.Vab

namespace Go.Vab
open Go Go.Proofs
noncomputable section
def D6U:Ctx:=⟨fun _ _ _ => none,TT,15,[6,7,8,9,10,11,12,13,14]⟩
def D14:=B8 Tryz.f78
def D15:=cR D14
def F0k:=cR D15
def q78:=zQ2 D6U 78 Tryz.f78 D14 fun s=>(bnd (some (s.env.get 4)) fun v=>bnd (bnd (some (s.env.get 5)) fun v=>bnd (some []) fun vs=>some (v::vs)) fun vs=>some (v::vs))
def F8K:=zDr D6U [F0k,D15] [] [0,1,3,7,0,0,63,127,127,511,1023] [0,1,2,3,4,5,6,7,8,9,10] .f
def G2G:=B3 D6U [[F0k],[D15,D14]]
end
end Go.Vab

namespace Go.Vab
open Go Go.Proofs
noncomputable section
def D6V:Ctx:=⟨fun _ _ _ => none,TT,15,[6,7,8,9,10,11,12,13,14]⟩
def D16:=B8 Tryz.f99
def D17:=cR D16
def F0l:=cR D17
def q99:=zQ2 D6V 99 Tryz.f99 D16 fun s=>(bnd (some (s.env.get 4)) fun v=>bnd (bnd (some (s.env.get 5)) fun v=>bnd (some []) fun vs=>some (v::vs)) fun vs=>some (v::vs))
def F8L:=zDr D6V [F0l,D17] [] [0,1,3,7,0,0,63,127,127,511,1023] [0,1,2,3,4,5,6,7,8,9,10] .f
def G2H:=B3 D6V [[F0l],[D17,D16]]
end
end Go.Vab

namespace Go.Vab
open Go Go.Proofs
noncomputable section
def D18:Ctx:=⟨fun _ _ _ => none,TT,15,[6,7,8,9,10,11,12,13,14]⟩
def C3e:=B8 Tryz.f101
def C3f:=cR C3e
def E37:=cR C3f
def G2I:=zQ2 D18 101 Tryz.f101 C3e fun s=>(bnd (some (s.env.get 4)) fun v=>bnd (bnd (some (s.env.get 5)) fun v=>bnd (some []) fun vs=>some (v::vs)) fun vs=>some (v::vs))
def F6s:=zDr D18 [E37,C3f] [] [0,1,3,7,0,0,63,127,127,511,1023] [0,1,2,3,4,5,6,7,8,9,10] .f
def G0L:=B3 D18 [[E37],[C3f,C3e]]
end
end Go.Vab

namespace Go.Vab
open Go Go.Proofs
noncomputable section
def D19:Ctx:=⟨fun _ _ _ => none,TT,15,[6,7,8,9,10,11,12,13,14]⟩
def C3g:=B8 Tryz.f118
def C3h:=cR C3g
def E38:=cR C3h
def G2J:=zQ2 D19 118 Tryz.f118 C3g fun s=>(bnd (some (s.env.get 4)) fun v=>bnd (bnd (some (s.env.get 5)) fun v=>bnd (some []) fun vs=>some (v::vs)) fun vs=>some (v::vs))
def F6t:=zDr D19 [E38,C3h] [] [0,1,3,7,0,0,63,127,127,511,1023] [0,1,2,3,4,5,6,7,8,9,10] .f
def G0M:=B3 D19 [[E38],[C3h,C3g]]
end
end Go.Vab

namespace Go.Vab
open Go Go.Proofs
noncomputable section
def F2u:Ctx:=⟨fun _ _ _ => none,TT,14,[5,7,8,9,10,11,12,13]⟩
def D2A:=B8 Tryz.f76
def D2B:=cR D2A
def D2C:=cR D2B
def F0m:=cR D2C
def q76:=zQ2 F2u 76 Tryz.f76 D2A fun s=>(bnd (some (s.env.get 4)) fun v=>bnd (some []) fun vs=>some (v::vs))
def G2K:=B3 F2u [[F0m],[F0m,D2C],[D2C,D2B],[D2B,D2A]]
end
end Go.Vab

namespace Go.Vab
open Go Go.Proofs
noncomputable section
def F2v:Ctx:=⟨fun _ _ _ => none,TT,14,[5,7,8,9,10,11,12,13]⟩
def D2D:=B8 Tryz.f96
def D2E:=cR D2D
def D2F:=cR D2E
def F0n:=cR D2F
def q96:=zQ2 F2v 96 Tryz.f96 D2D fun s=>(bnd (some (s.env.get 4)) fun v=>bnd (some []) fun vs=>some (v::vs))
def G2L:=B3 F2v [[F0n],[F0n,D2F],[D2F,D2E],[D2E,D2D]]
end
end Go.Vab

namespace Go.Vab
open Go Go.Proofs
noncomputable section
def F2w:Ctx:=⟨fun _ _ _ => none,TT,14,[5,7,8,9,10,11,12,13]⟩
def D2G:=B8 Tryz.f97
def D2H:=cR D2G
def D2I:=cR D2H
def F0o:=cR D2I
def q97:=zQ2 F2w 97 Tryz.f97 D2G fun s=>(bnd (some (s.env.get 4)) fun v=>bnd (some []) fun vs=>some (v::vs))
def G2M:=B3 F2w [[F0o],[F0o,D2I],[D2I,D2H],[D2H,D2G]]
end
end Go.Vab

namespace Go.Vab
open Go Go.Proofs
noncomputable section
def F2x:Ctx:=⟨fun _ _ _ => none,TT,14,[5,7,8,9,10,11,12,13]⟩
def D2J:=B8 Tryz.f95
def D2K:=cR D2J
def D2L:=cR D2K
def F0p:=cR D2L
def q95:=zQ2 F2x 95 Tryz.f95 D2J fun s=>(bnd (some (s.env.get 4)) fun v=>bnd (some []) fun vs=>some (v::vs))
def G2N:=B3 F2x [[F0p],[F0p,D2L],[D2L,D2K],[D2K,D2J]]
end
end Go.Vab

namespace Go.Vab
open Go Go.Proofs
noncomputable section
def F2y:Ctx:=⟨fun _ _ _ => none,TT,9,[3,4,5,6,7,8]⟩
def D2M:=B8 Tryz.f67
def D2N:=cR D2M
def F0q:=cR D2N
def q67:=zQ1 F2y 67 Tryz.f67 D2M fun s=>(bnd (some (s.env.get 2)) fun v=>bnd (some []) fun vs=>some (v::vs))
def G2O:=B3 F2y [[F0q],[F0q,D2N],[D2N,D2M]]
end
end Go.Vab

namespace Go.Vab
open Go Go.Proofs
noncomputable section
def F2z:Ctx:=⟨fun _ _ _ => none,TT,9,[3,4,5,6,7,8]⟩
def D2O:=B8 Tryz.f71
def D2P:=cR D2O
def F0r:=cR D2P
def q71:=zQ1 F2z 71 Tryz.f71 D2O fun s=>(bnd (some (s.env.get 2)) fun v=>bnd (some []) fun vs=>some (v::vs))
def G2P:=B3 F2z [[F0r],[F0r,D2P],[D2P,D2O]]
end
end Go.Vab

namespace Go.Vab
open Go Go.Proofs
noncomputable section
def F20:Ctx:=⟨fun _ _ _ => none,TT,9,[3,4,5,6,7,8]⟩
def D2Q:=B8 Tryz.f74
def D2R:=cR D2Q
def F0s:=cR D2R
def q74:=zQ1 F20 74 Tryz.f74 D2Q fun s=>(bnd (some (s.env.get 2)) fun v=>bnd (some []) fun vs=>some (v::vs))
def G2Q:=B3 F20 [[F0s],[F0s,D2R],[D2R,D2Q]]
end
end Go.Vab

namespace Go.Vab
open Go Go.Proofs
noncomputable section
def F0t:Ctx:=⟨fun _ _ _ => none,TT,9,[3,4,5,6,7,8]⟩
def C3i:=B8 Tryz.f113
def C3j:=cR C3i
def E39:=cR C3j
def G2R:=zQ1 F0t 113 Tryz.f113 C3i fun s=>(bnd (some (s.env.get 2)) fun v=>bnd (some []) fun vs=>some (v::vs))
def G0N:=B3 F0t [[E39],[E39,C3j],[C3j,C3i]]
end
end Go.Vab
