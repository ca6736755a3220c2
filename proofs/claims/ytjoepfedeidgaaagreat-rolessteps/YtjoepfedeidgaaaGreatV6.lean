/- How the code of a function is read. Printed by wip/tools/gen2.py and gen3.py (own work). -/
import Derived.Test.YtjoepfedeidgaaaGreatV3
import Derived.Test.YtjoepfedeidgaaaGreatV2
import Derived.Test.YtjoepfedeidgaaaGreatV5
import Derived.Test.YtjoepfedeidgaaaGreatV4
set_option linter.all false
set_option linter.unusedSectionVars false
set_option maxHeartbeats 8000000
set_option maxRecDepth 20000
namespace Go.Vab
open Go Go.Proofs
noncomputable section
def D6g:Ctx:=⟨fun _ _ _ => none,TT,78,[4,5,6,7,10,11,12,13,14,15,16,17,18,19,20,21,22,23,24,26,27,28,29,30,31,32,33,35,36,37,38,39,40,41,42,43,45,46,48,49,50,52,53,54,55,56,57,58,59,60,61,62,63,65,66,67,68,69,70,71,72,73,74,75,76]⟩
def D3g:=B8 Tryz.f32
def D3h:=cR D3g
def B4w:=cR D3h
def D3i:=cL B4w
def D3j:=cR D3i
def B4x:=cB D3j
def D3k:=cL B4x
def B4y:=cR D3k
def F1a:=cL B4y
def D3l:=cR B4y
def B0A:=cR D3l
def E5Y:=cL B0A
def E5Z:=cR B0A
def B0B:=cR B4x
def B0C:=cL B0B
def C5K:=cL B0C
def B0D:=cR C5K
def C5L:=cL B0D
def E5a:=cR C5L
def E5b:=cR B0D
def E5c:=cR B0C
def C5M:=cR B0B
def B0E:=cR C5M
def E5d:=cL B0E
def B0F:=cR B0E
def C5N:=cL B0F
def B0G:=cR C5N
def E5e:=cL B0G
def E5f:=cR B0G
def B0H:=cR B0F
def E5g:=cL B0H
def B0I:=cR B0H
def C5O:=cL B0I
def B0J:=cR C5O
def E5h:=cL B0J
def C5P:=cR B0J
def B0K:=cR C5P
def E5i:=cL B0K
def E5j:=cR B0K
def B0L:=cR B0I
def C5Q:=cL B0L
def E5k:=cR C5Q
def B0M:=cR B0L
def C5R:=cL B0M
def B0N:=cR C5R
def E5l:=cL B0N
def E5m:=cR B0N
def B0O:=cR B0M
def B0P:=cL B0O
def C5S:=cL B0P
def B0Q:=cR C5S
def C5T:=cL B0Q
def E5n:=cR C5T
def E5o:=cR B0Q
def C5U:=cR B0P
def E5p:=cR C5U
def E5q:=cR B0O
def B0R:=cR B4w
def C5V:=cL B0R
def B0S:=cR C5V
def C5W:=cL B0S
def E5r:=cR C5W
def E5s:=cR B0S
def C5X:=cR B0R
def E5t:=cR C5X
def q32:=zQ1 D6g 32 Tryz.f32 D3g fun s=>(bnd (some (s.env.get 2)) fun v=>bnd (some []) fun vs=>some (v::vs))
def F7L:=zDr D6g [B0Q,C5S] [] [0,1,3,7,15,31,0,64,192,448,1023] [0,1,2,3,4,5,6,7,8,9,10] .f
def G2p:=B3 D6g [[F1a],[E5Y],[E5Z],[E5Y,E5Z,B0A],[B0A,D3l],[F1a,D3l,B4y],[B4y,D3k],[E5a],[E5a,C5L],[E5b],[C5L,E5b,B0D],[B0D,C5K],[E5c],[C5K,E5c,B0C],[E5d],[E5e],[E5f],[E5e,E5f,B0G],[B0G,C5N],[E5g],[E5h],[E5i],[E5j],[E5i,E5j,B0K],[B0K,C5P],[E5h,C5P,B0J],[B0J,C5O],[E5k],[E5k,C5Q],[E5l],[E5m],[E5l,E5m,B0N],[B0N,C5R],[E5n],[E5n,C5T],[E5o],[C5T,E5o,B0Q],[E5p],[E5p,C5U],[C5S,C5U,B0P],[E5q],[B0P,E5q,B0O],[C5R,B0O,B0M],[C5Q,B0M,B0L],[C5O,B0L,B0I],[E5g,B0I,B0H],[C5N,B0H,B0F],[E5d,B0F,B0E],[B0E,C5M],[B0C,C5M,B0B],[D3k,B0B,B4x],[B4x,D3j],[D3j,D3i],[E5r],[E5r,C5W],[E5s],[C5W,E5s,B0S],[B0S,C5V],[E5t],[E5t,C5X],[C5V,C5X,B0R],[D3i,B0R,B4w],[B4w,D3h],[D3h,D3g]]
end
end Go.Vab

namespace Go.Vab
open Go Go.Proofs
theorem H8 {G X:Prop} (f:Hd X→G:=by
 intro xX
 repeat' (first|refine stp (x:=?_)|(simp (decide:=true) only [G2p,snB,if_true,if_false])|(with_reducible refine F7L _ _ _ ?_))
 exact xX.get) (x:X):G:=f ⟨x⟩
attribute [local irreducible] E9 Evs gW D9 E8 G5
theorem lt1 {m:BitVec 8} (h:¬ m=0#8):¬ m < 1#8:=by
 rw [BitVec.lt_def]
 intro q
 exact h (BitVec.eq_of_toNat_eq (by simpa using q))
theorem c32 {κ:Nat→Nat} {H:A3} {c xb:Nat} {s:Stt} {b:Pt} {a:Actn} {m:BitVec 8} {vt vp vs vi va vb wt wp:AV} (x:Sx κ H c xb s b a m vt vp vs vi va vb wt wp):SpecQ Tryz.prog 32 [.ptr xb 0 [] G6] H fun r=>r=(nat (C4 m s b a),H):=by
 refine q32 fun env g0=>?_
 have sx0:=A9 x.st
 have wb0:=A9 x.w.cell
 by_cases k7:a.kind=7#8
 ·have ff:=aI4 g0 sx0 wb0 k7
  refine H8 (x:=?_)
  clear ff
  first|(simp only [C4,k7];rfl)|simp [C4,C8,k7]
 by_cases k8:a.kind=8#8
 ·have ff:=aI4 g0 sx0 wb0 k8
  refine H8 (x:=?_)
  clear ff
  first|(simp only [C4,k8];rfl)|simp [C4,C8,k8]
 by_cases k11:a.kind=11#8
 ·have ff:=aI4 g0 sx0 wb0 k11
  refine H8 (x:=?_)
  clear ff
  first|(simp only [C4,k11];rfl)|simp [C4,C8,k11]
 by_cases k9:a.kind=9#8
 ·by_cases hw:a.who.e=b
  ·have ff:=aI5 g0 sx0 wb0 k9 hw
   refine H8 (x:=?_)
   clear ff
   first|(simp only [C4,k9,hw];rfl)|simp [C4,C8,k9,hw]
  ·have ff:=aI5 g0 sx0 wb0 k9 hw
   refine H8 (x:=?_)
   clear ff
   first|(simp only [C4,k9,hw];rfl)|simp [C4,C8,k9,hw]
 by_cases k10:a.kind=10#8
 ·by_cases hw:a.who.e=b
  ·have ff:=aI5 g0 sx0 wb0 k10 hw
   refine H8 (x:=?_)
   clear ff
   first|(simp only [C4,k10,hw];rfl)|simp [C4,C8,k10,hw]
  ·have ff:=aI5 g0 sx0 wb0 k10 hw
   refine H8 (x:=?_)
   clear ff
   first|(simp only [C4,k10,hw];rfl)|simp [C4,C8,k10,hw]
 by_cases k1:a.kind=1#8
 ·by_cases m0:m=0#8
  ·subst m0
   by_cases r2:a.role=2#8
   ·have ff:=aI5 g0 sx0 wb0 k1 r2
    refine H8 (x:=?_)
    clear ff
    first|(simp only [C4,k1,r2];rfl)|simp [C4,C8,k1,r2]
   ·have ff:=aI5 g0 sx0 wb0 k1 r2
    refine H8 (x:=?_)
    clear ff
    first|(simp only [C4,k1,r2];rfl)|simp [C4,C8,k1,r2]
  ·by_cases r2:a.role=2#8
   ·by_cases m2:m=2#8
    ·subst m2
     by_cases ml:2#8 < s.acc.members
     ·have ff:=aI6 g0 sx0 wb0 k1 r2 ml
      refine H8 (x:=?_)
      clear ff
      first|(simp only [C4,k1,r2,ml];rfl)|simp [C4,C8,k1,r2,ml]
     ·have ff:=aI6 g0 sx0 wb0 k1 r2 ml
      refine H8 (x:=?_)
      clear ff
      first|(simp only [C4,k1,r2,ml];rfl)|simp [C4,C8,k1,r2,ml]
    ·have ff:=aI7 g0 sx0 wb0 k1 r2 m0 m2
     refine H8 (x:=?_)
     clear ff
     first|(simp only [C4,k1,r2,m0,m2];rfl)|simp [C4,C8,k1,r2,m0,m2]
   ·by_cases ml:m < s.acc.members
    ·have ff:=aI7 g0 sx0 wb0 k1 r2 m0 ml
     refine H8 (x:=?_)
     clear ff
     first|(simp only [C4,k1,r2,m0,ml];rfl)|simp [C4,C8,k1,r2,m0,ml]
    ·have ff:=aI7 g0 sx0 wb0 k1 r2 m0 ml
     refine H8 (x:=?_)
     clear ff
     first|(simp only [C4,k1,r2,m0,ml];rfl)|simp [C4,C8,k1,r2,m0,ml]
 by_cases k5:a.kind=5#8
 ·by_cases m0:m=0#8
  ·subst m0
   by_cases r2:a.role=2#8
   ·have ff:=aI5 g0 sx0 wb0 k5 r2
    refine H8 (x:=?_)
    clear ff
    first|(simp only [C4,k5,r2];rfl)|simp [C4,C8,k5,r2]
   ·have ff:=aI5 g0 sx0 wb0 k5 r2
    refine H8 (x:=?_)
    clear ff
    first|(simp only [C4,k5,r2];rfl)|simp [C4,C8,k5,r2]
  ·by_cases r2:a.role=2#8
   ·by_cases m2:m=2#8
    ·subst m2
     by_cases ml:2#8 < s.acc.members
     ·have ff:=aI6 g0 sx0 wb0 k5 r2 ml
      refine H8 (x:=?_)
      clear ff
      first|(simp only [C4,k5,r2,ml];rfl)|simp [C4,C8,k5,r2,ml]
     ·have ff:=aI6 g0 sx0 wb0 k5 r2 ml
      refine H8 (x:=?_)
      clear ff
      first|(simp only [C4,k5,r2,ml];rfl)|simp [C4,C8,k5,r2,ml]
    ·have ff:=aI7 g0 sx0 wb0 k5 r2 m0 m2
     refine H8 (x:=?_)
     clear ff
     first|(simp only [C4,k5,r2,m0,m2];rfl)|simp [C4,C8,k5,r2,m0,m2]
   ·by_cases ml:m < s.acc.members
    ·have ff:=aI7 g0 sx0 wb0 k5 r2 m0 ml
     refine H8 (x:=?_)
     clear ff
     first|(simp only [C4,k5,r2,m0,ml];rfl)|simp [C4,C8,k5,r2,m0,ml]
    ·have ff:=aI7 g0 sx0 wb0 k5 r2 m0 ml
     refine H8 (x:=?_)
     clear ff
     first|(simp only [C4,k5,r2,m0,ml];rfl)|simp [C4,C8,k5,r2,m0,ml]
 by_cases k12:a.kind=12#8
 ·by_cases m0:m=0#8
  ·subst m0
   by_cases r2:a.role=2#8
   ·have ff:=aI5 g0 sx0 wb0 k12 r2
    refine H8 (x:=?_)
    clear ff
    first|(simp only [C4,k12,r2];rfl)|simp [C4,C8,k12,r2]
   ·have ff:=aI5 g0 sx0 wb0 k12 r2
    refine H8 (x:=?_)
    clear ff
    first|(simp only [C4,k12,r2];rfl)|simp [C4,C8,k12,r2]
  ·by_cases r2:a.role=2#8
   ·by_cases m2:m=2#8
    ·subst m2
     by_cases ml:2#8 < s.acc.members
     ·have ff:=aI6 g0 sx0 wb0 k12 r2 ml
      refine H8 (x:=?_)
      clear ff
      first|(simp only [C4,k12,r2,ml];rfl)|simp [C4,C8,k12,r2,ml]
     ·have ff:=aI6 g0 sx0 wb0 k12 r2 ml
      refine H8 (x:=?_)
      clear ff
      first|(simp only [C4,k12,r2,ml];rfl)|simp [C4,C8,k12,r2,ml]
    ·have ff:=aI7 g0 sx0 wb0 k12 r2 m0 m2
     refine H8 (x:=?_)
     clear ff
     first|(simp only [C4,k12,r2,m0,m2];rfl)|simp [C4,C8,k12,r2,m0,m2]
   ·by_cases ml:m < s.acc.members
    ·have ff:=aI7 g0 sx0 wb0 k12 r2 m0 ml
     refine H8 (x:=?_)
     clear ff
     first|(simp only [C4,k12,r2,m0,ml];rfl)|simp [C4,C8,k12,r2,m0,ml]
    ·have ff:=aI7 g0 sx0 wb0 k12 r2 m0 ml
     refine H8 (x:=?_)
     clear ff
     first|(simp only [C4,k12,r2,m0,ml];rfl)|simp [C4,C8,k12,r2,m0,ml]
 by_cases m0:m=0#8
 ·subst m0
  by_cases k4:a.kind=4#8
  ·have ff:=aI4 g0 sx0 wb0 k4
   refine H8 (x:=?_)
   clear ff
   first|(simp only [C4,k4];rfl)|simp [C4,C8,k4]
  by_cases k6:a.kind=6#8
  ·have ff:=aI4 g0 sx0 wb0 k6
   refine H8 (x:=?_)
   clear ff
   first|(simp only [C4,k6];rfl)|simp [C4,C8,k6]
  by_cases k16:a.kind=16#8
  ·have ff:=aI4 g0 sx0 wb0 k16
   refine H8 (x:=?_)
   clear ff
   first|(simp only [C4,k16];rfl)|simp [C4,C8,k16]
  have ff:=N9 g0 sx0 wb0 k1 k4 k5 k6 k7 k8 k9 k10 k11 k12 k16
  refine H8 (x:=?_)
  clear ff
  first|(simp only [C4,k1,k4,k5,k6,k7,k8,k9,k10,k11,k12,k16,false_and,or_self,if_false,if_true];rfl)|simp [C4,C8,k1,k4,k5,k6,k7,k8,k9,k10,k11,k12,k16,false_and,or_self,if_false,if_true]
 have m1:=lt1 m0
 by_cases k4:a.kind=4#8
 ·have ff:=aI6 g0 sx0 wb0 k4 m0 m1
  refine H8 (x:=?_)
  clear ff
  simp [C4,C8,k4,m0,m1]
 by_cases k6:a.kind=6#8
 ·have ff:=aI6 g0 sx0 wb0 k6 m0 m1
  refine H8 (x:=?_)
  clear ff
  simp [C4,C8,k6,m0,m1]
 by_cases k16:a.kind=16#8
 ·by_cases ml:m < s.acc.title
  ·have ff:=aI6 g0 sx0 wb0 k16 m0 ml
   refine H8 (x:=?_)
   clear ff
   first|(simp only [C4,k16,m0,ml];rfl)|simp [C4,C8,k16,m0,ml]
  ·have ff:=aI6 g0 sx0 wb0 k16 m0 ml
   refine H8 (x:=?_)
   clear ff
   first|(simp only [C4,k16,m0,ml];rfl)|simp [C4,C8,k16,m0,ml]
 by_cases ml:m < 2#8
 ·have ff:=Y6 g0 sx0 wb0 k1 k4 k5 k6 k7 k8 k9 k10 k11 k12 k16 m0 ml
  refine H8 (x:=?_)
  clear ff
  first|(simp only [C4,k1,k4,k5,k6,k7,k8,k9,k10,k11,k12,k16,m0,ml,false_and,or_self,if_false,if_true];rfl)|simp [C4,C8,k1,k4,k5,k6,k7,k8,k9,k10,k11,k12,k16,m0,ml,false_and,or_self,if_false,if_true]
 ·have ff:=Y6 g0 sx0 wb0 k1 k4 k5 k6 k7 k8 k9 k10 k11 k12 k16 m0 ml
  refine H8 (x:=?_)
  clear ff
  first|(simp only [C4,k1,k4,k5,k6,k7,k8,k9,k10,k11,k12,k16,m0,ml,false_and,or_self,if_false,if_true];rfl)|simp [C4,C8,k1,k4,k5,k6,k7,k8,k9,k10,k11,k12,k16,m0,ml,false_and,or_self,if_false,if_true]
end Go.Vab

namespace Go.Vab
open Go Go.Proofs
noncomputable section
def F3F:Ctx:=⟨fun _ _ _ => none,TT,9,[3,4,5,6,7,8]⟩
def D3m:=B8 Tryz.f55
def D3n:=cR D3m
def F1b:=cR D3n
def q55:=zQ1 F3F 55 Tryz.f55 D3m fun s=>(bnd (some (s.env.get 2)) fun v=>bnd (some []) fun vs=>some (v::vs))
def G2q:=B3 F3F [[F1b],[F1b,D3n],[D3n,D3m]]
end
end Go.Vab

namespace Go.Vab
open Go Go.Proofs
noncomputable section
def F3G:Ctx:=⟨fun _ _ _ => none,TT,16,[3,4,5,6,7,8,9,10,11,12,13,14,15]⟩
def D3o:=B8 Tryz.f44
def D3p:=cR D3o
def F1c:=cR D3p
def q44:=zQ1 F3G 44 Tryz.f44 D3o fun s=>(bnd (some (s.env.get 2)) fun v=>bnd (some []) fun vs=>some (v::vs))
def G2r:=B3 F3G [[F1c],[F1c,D3p],[D3p,D3o]]
end
end Go.Vab

namespace Go.Vab
open Go Go.Proofs
noncomputable section
def F3H:Ctx:=⟨fun _ _ _ => none,TT,34,[5,6,8,9,11,13,14,16,17,18,19,20,22,24,25,26,27,28,29,30,31,32,33]⟩
def D3q:=B8 Tryz.f58
def B4z:=cR D3q
def D3r:=cL B4z
def D3s:=cR D3r
def B40:=cB D3s
def D3t:=cL B40
def B41:=cB D3t
def D3u:=cL B41
def B42:=cB D3u
def D3v:=cL B42
def B0T:=cB D3v
def C5Y:=cL B0T
def B0U:=cB C5Y
def C5Z:=cL B0U
def B0V:=cB C5Z
def C5a:=cL B0V
def B0W:=cB C5a
def C5b:=cL B0W
def B0X:=cB C5b
def B0Y:=cL B0X
def B0Z:=cL B0Y
def C5c:=cL B0Z
def B0a:=cR C5c
def E5u:=cL B0a
def E5v:=cR B0a
def B0b:=cR B0Z
def E5w:=cL B0b
def E5x:=cR B0b
def B0c:=cR B0Y
def B0d:=cL B0c
def C5d:=cL B0d
def B0e:=cR C5d
def E5y:=cL B0e
def E5z:=cR B0e
def B0f:=cR B0d
def E50:=cL B0f
def E51:=cR B0f
def B0g:=cR B0c
def C5e:=cL B0g
def B0h:=cR C5e
def E52:=cL B0h
def E53:=cR B0h
def B0i:=cR B0g
def B0j:=cL B0i
def C5f:=cL B0j
def B0k:=cR C5f
def E54:=cL B0k
def E55:=cR B0k
def B0l:=cR B0j
def E56:=cL B0l
def E57:=cR B0l
def B0m:=cR B0i
def B0n:=cL B0m
def C5g:=cL B0n
def B0o:=cR C5g
def E58:=cL B0o
def C5h:=cR B0o
def B0p:=cR C5h
def E59:=cL B0p
def C5i:=cR B0p
def B0q:=cR C5i
def E6A:=cL B0q
def C5j:=cR B0q
def B0r:=cR C5j
def E6B:=cL B0r
def E6C:=cR B0r
def B0s:=cR B0n
def E6D:=cL B0s
def E6E:=cR B0s
def B0t:=cR B0m
def C5k:=cL B0t
def B0u:=cR C5k
def E6F:=cL B0u
def E6G:=cR B0u
def C5l:=cR B0t
def B0v:=cR C5l
def E6H:=cL B0v
def E6I:=cR B0v
def E6J:=cR B0X
def C5m:=cR B0W
def E6K:=cR C5m
def E6L:=cR B0V
def C5n:=cR B0U
def E6M:=cR C5n
def E6N:=cR B0T
def C5o:=cR B42
def E6O:=cR C5o
def C5p:=cR B41
def E6P:=cR C5p
def C5q:=cR B40
def E6Q:=cR C5q
def C5r:=cR B4z
def E6R:=cR C5r
def q58:=zQ1 F3H 58 Tryz.f58 D3q fun s=>(bnd (D6 I5 (s.env.get 2) s.heap) fun v=>bnd (some []) fun vs=>some (v::vs))
def G2s:=B3 F3H [[E5u],[E5v],[E5u,E5v,B0a],[B0a,C5c],[E5w],[E5x],[E5w,E5x,B0b],[C5c,B0b,B0Z],[E5y],[E5z],[E5y,E5z,B0e],[B0e,C5d],[E50],[E51],[E50,E51,B0f],[C5d,B0f,B0d],[E52],[E53],[E52,E53,B0h],[B0h,C5e],[E54],[E55],[E54,E55,B0k],[B0k,C5f],[E56],[E57],[E56,E57,B0l],[C5f,B0l,B0j],[E58],[E59],[E6A],[E6B],[E6C],[E6B,E6C,B0r],[B0r,C5j],[E6A,C5j,B0q],[B0q,C5i],[E59,C5i,B0p],[B0p,C5h],[E58,C5h,B0o],[B0o,C5g],[E6D],[E6E],[E6D,E6E,B0s],[C5g,B0s,B0n],[E6F],[E6G],[E6F,E6G,B0u],[B0u,C5k],[E6H],[E6I],[E6H,E6I,B0v],[B0v,C5l],[C5k,C5l,B0t],[B0n,B0t,B0m],[B0j,B0m,B0i],[C5e,B0i,B0g],[B0d,B0g,B0c],[B0Z,B0c,B0Y],[E6J],[B0Y,E6J,B0X],[B0X,C5b],[E6K],[E6K,C5m],[C5b,C5m,B0W],[B0W,C5a],[E6L],[C5a,E6L,B0V],[B0V,C5Z],[E6M],[E6M,C5n],[C5Z,C5n,B0U],[B0U,C5Y],[E6N],[C5Y,E6N,B0T],[B0T,D3v],[E6O],[E6O,C5o],[D3v,C5o,B42],[B42,D3u],[E6P],[E6P,C5p],[D3u,C5p,B41],[B41,D3t],[E6Q],[E6Q,C5q],[D3t,C5q,B40],[B40,D3s],[D3s,D3r],[E6R],[E6R,C5r],[D3r,C5r,B4z],[B4z,D3q]]
end
end Go.Vab

namespace Go.Vab
open Go Go.Proofs
noncomputable section
def D6h:Ctx:=⟨fun _ _ _ => none,TT,116,[5,6,7,9,10,11,12,13,14,15,16,17,18,19,20,21,22,24,25,26,27,28,29,30,31,32,33,34,35,36,37,38,39,40,41,42,43,44,45,46,47,48,49,50,51,52,53,54,55,56,57,58,59,60,61,63,64,65,66,67,68,69,70,71,72,73,74,75,76,77,78,79,80,81,82,83,84,85,86,87,88,89,90,91,92,93,94,95,96,97,98,99,100,101,102,103,104,105,106,107,108,109,110,111,112,113,114,115]⟩
def D3w:=B8 Tryz.f29
def D3x:=cR D3w
def B43:=cR D3x
def D3y:=cL B43
def D3z:=cB D3y
def B44:=cR D3z
def D30:=cL B44
def F1d:=cR D30
def D31:=cR B44
def B45:=cR D31
def C5s:=cL B45
def E6S:=cR C5s
def C5t:=cR B45
def B0w:=cR C5t
def C5u:=cL B0w
def E6T:=cR C5u
def E6U:=cR B0w
def C5v:=cR B43
def C5w:=cR C5v
def E6V:=cR C5w
def q29:=zQ1 D6h 29 Tryz.f29 D3w fun s=>(bnd (some (s.env.get 2)) fun v=>bnd (some []) fun vs=>some (v::vs))
def F8Y:=zDr D6h [B45,D31] [] [0,1,3,7,15,31,15,127,255,511,1023,2047,4095,8191,16383,32767,16383,131071,262143,524287,1048575,2097151,4194303,2097151,10485759,27262975,67108863,134217727,268435455,536870911,1073741823,2147483647,4294967295,8589934591,17179869183,34359738367,68719476735,137438953471,274877906943] [0,1,2,3,4,5,6,7,8,9,10,11,12,13,14,15,16,17,18,19,20,21,22,23,24,25,26,27,28,29,30,31,32,33,34,35,36,37,38] .f
def G2t:=B3 D6h [[F1d],[F1d,D30],[E6S],[E6S,C5s],[E6T],[E6T,C5u],[E6U],[C5u,E6U,B0w],[B0w,C5t],[C5s,C5t,B45],[D30,D31,B44],[B44,D3z],[D3z,D3y],[E6V],[E6V,C5w],[C5w,C5v],[D3y,C5v,B43],[B43,D3x],[D3x,D3w]]
end
end Go.Vab

namespace Go.Vab
open Go Go.Proofs
attribute [local irreducible] E9 Evs gW D9 E8 G5
theorem c55 {h:A3} {r:BitVec 8}:SpecQ Tryz.prog 55 [u8 r] h fun x=>x=(.bool (roleOk r),h):=by
 refine SpecQ.drop1 rfl (q55 fun env g0=>?_)
 repeat' (first|((with_reducible refine I6 (a:=?_) ?_ ?_);rotate_left;(focus ((conv=>lhs;simp (disch:=omega) [g0]);done));try dsimp only)|(simp (decide:=true) only [G2q,J7,J4,I3,J3,I2,J2,J1,if_true,if_false,J5,J6])|((with_reducible refine P8 (b:=?_) ?_ ?_ ?_);rotate_left;(focus ((conv=>lhs;simp (disch:=omega) [g0]);done));all_goals ((intro hb;try simp only [Bool.not_true,Bool.not_false] at hb);try simp only [hb]))|(with_reducible refine P4 ?_ ?_ <;> (intro hb;try simp only [Bool.not_true,Bool.not_false] at hb) <;> try simp only [hb]))
 all_goals refine E2Q ?_
 all_goals (unfold roleOk;simp_all)
theorem c44 {h:A3} {a:Acc}:SpecQ Tryz.prog 44 [J8 a] h fun x=>x=(.bool (accOk a),h):=by
 refine SpecQ.drop1 rfl (q44 fun env g0=>?_)
 repeat' (first|((with_reducible refine I6 (a:=?_) ?_ ?_);rotate_left;(focus ((conv=>lhs;simp (disch:=omega) [g0]);done));try dsimp only)|((with_reducible refine S6 ?_ ?_);(focus (simp (disch:=omega) [g0];done)))|((with_reducible refine T4 ?_ ?_);(focus (simp (disch:=omega) [g0];done));try dsimp only)|((with_reducible refine T5 ?_ ?_);(focus (simp (disch:=omega) [g0];done));try dsimp only)|(with_reducible refine SpecQ.step (c55) ?_;rintro _ rfl;try dsimp only)|((with_reducible refine S3 (args':=?_) ?_ ?_);rotate_left;(focus ((conv=>lhs;simp (disch:=omega) [g0]);done)))|(simp (decide:=true) only [G2r,J7,J4,I3,J3,I2,J2,J1,if_true,if_false,J5,J6])|((with_reducible refine P8 (b:=?_) ?_ ?_ ?_);rotate_left;(focus ((conv=>lhs;simp (disch:=omega) [g0]);done));all_goals ((intro hb;try simp only [Bool.not_true,Bool.not_false] at hb);try simp only [hb]))|((with_reducible refine W8 (b:=?_) ?_ ?_ ?_);rotate_left;(focus ((conv=>lhs;simp (disch:=omega) [g0]);done));all_goals ((intro hb;try simp only [Bool.not_true,Bool.not_false] at hb);try simp only [hb]))|(with_reducible refine P4 ?_ ?_ <;> (intro hb;try simp only [Bool.not_true,Bool.not_false] at hb) <;> try simp only [hb])|(with_reducible refine U8 ?_ ?_ <;> (intro hb;try simp only [Bool.not_true,Bool.not_false] at hb) <;> try simp only [hb]))
 all_goals refine K6 ?_
 all_goals (unfold accOk;simp_all)
theorem c58 {h:A3} {k:BitVec 8}:SpecQ Tryz.prog 58 [u8 k] h fun x=>x=(S7 k,h):=by
 refine SpecQ.drop1 rfl (q58 fun env g0=>?_)
 repeat' (first|((with_reducible refine I6 (a:=?_) ?_ ?_);rotate_left;(focus ((conv=>lhs;simp (disch:=omega) [g0]);done));try dsimp only)|((with_reducible refine V3 ?_ ?_);(focus (simp (disch:=omega) [g0] <;> omega)))|((with_reducible refine V4 ?_ ?_);(focus (simp (disch:=omega) [g0] <;> omega)))|(with_reducible refine W0 ?_)|(simp (decide:=true) only [G2s,J7,J4,I3,J3,I2,J2,J1,if_true,if_false,J5,J6])|((with_reducible refine a6 (b:=?_) ?_ ?_ ?_);rotate_left;(focus ((conv=>lhs;simp (disch:=omega) [g0]);done));all_goals ((intro hb;try simp only [Bool.not_true,Bool.not_false] at hb);try simp only [hb]))|(with_reducible refine Y8 ?_ ?_ <;> (intro hb;try simp only [Bool.not_true,Bool.not_false] at hb) <;> try simp only [hb]))
 all_goals refine F9h ?_
 all_goals (unfold S7;simp only [decide_eq_true_eq,decide_eq_false_iff_not] at *;first|(subst_vars;rfl)|(simp_all [hW,hE,hR,hT,hA,hP];done))
theorem c29 {h:A3} {a:Actn} {vt vp:AV} (ra:ActR h a vt vp):SpecQ Tryz.prog 29 [C5 a vt vp] h fun x=>x=(.bool (S8 a),h):=by
 have ta:=ra.cells
 have l1:=ra.t.len
 have l2:=ra.p.len
 refine SpecQ.drop1 rfl (q29 fun env g0=>?_)
 repeat' (first|((with_reducible refine I6 (a:=?_) ?_ ?_);rotate_left;(focus ((conv=>lhs;simp (disch:=omega) [g0,ta,l1,l2,S7]);done));try dsimp only)|((with_reducible refine S6 ?_ ?_);(focus (simp (disch:=omega) [g0,ta,l1,l2,S7];done)))|((with_reducible refine T4 ?_ ?_);(focus (simp (disch:=omega) [g0,ta,l1,l2,S7];done));try dsimp only)|((with_reducible refine T5 ?_ ?_);(focus (simp (disch:=omega) [g0,ta,l1,l2,S7];done));try dsimp only)|((with_reducible refine V3 ?_ ?_);(focus (simp (disch:=omega) [g0,ta,l1,l2,S7] <;> omega)))|((with_reducible refine V4 ?_ ?_);(focus (simp (disch:=omega) [g0,ta,l1,l2,S7] <;> omega)))|(with_reducible refine W0 ?_)|((with_reducible refine o9 ?_ ?_);(focus (simp (disch:=omega) [g0,ta,l1,l2,S7];done));try dsimp only)|((with_reducible refine s5 ?_ ?_);(focus (simp (disch:=omega) [g0,ta,l1,l2,S7];done));try dsimp only)|((with_reducible refine s6 ?_ ?_);(focus (simp (disch:=omega) [g0,ta,l1,l2,S7];done));try dsimp only)|(with_reducible refine A5 (c58) ?_;try dsimp only)|(with_reducible refine SpecQ.step (c58) ?_;rintro _ rfl;try dsimp only)|(with_reducible refine A5 (c55) ?_;try dsimp only)|(with_reducible refine SpecQ.step (c55) ?_;rintro _ rfl;try dsimp only)|(with_reducible refine A5 (c44) ?_;try dsimp only)|(with_reducible refine SpecQ.step (c44) ?_;rintro _ rfl;try dsimp only)|((with_reducible refine S3 (args':=?_) ?_ ?_);rotate_left;(focus ((conv=>lhs;simp (disch:=omega) [g0,ta,l1,l2,S7]);done)))|((with_reducible refine v7 (args':=?_) ?_ ?_);rotate_left;(focus ((conv=>lhs;simp (disch:=omega) [g0,ta,l1,l2,S7]);done)))|((with_reducible refine s7 (g:=?_) (caps:=?_) ?_ ?_);rotate_left;rotate_left;(focus ((conv=>lhs;simp (disch:=omega) [g0,ta,l1,l2,S7]);done)))|(simp (decide:=true) only [G2t,J7,J4,I3,J3,I2,J2,J1,if_true,if_false,J5,J6])|(with_reducible refine F8Y _ _ _ ?_)|((with_reducible refine a6 (b:=?_) ?_ ?_ ?_);rotate_left;(focus ((conv=>lhs;simp (disch:=omega) [g0,ta,l1,l2,S7]);done));all_goals ((intro hb;try simp only [Bool.not_true,Bool.not_false] at hb);try simp only [hb]))|((with_reducible refine P8 (b:=?_) ?_ ?_ ?_);rotate_left;(focus ((conv=>lhs;simp (disch:=omega) [g0,ta,l1,l2,S7]);done));all_goals ((intro hb;try simp only [Bool.not_true,Bool.not_false] at hb);try simp only [hb]))|((with_reducible refine W8 (b:=?_) ?_ ?_ ?_);rotate_left;(focus ((conv=>lhs;simp (disch:=omega) [g0,ta,l1,l2,S7]);done));all_goals ((intro hb;try simp only [Bool.not_true,Bool.not_false] at hb);try simp only [hb]))|(with_reducible refine P4 ?_ ?_ <;> (intro hb;try simp only [Bool.not_true,Bool.not_false] at hb) <;> try simp only [hb])|(with_reducible refine U8 ?_ ?_ <;> (intro hb;try simp only [Bool.not_true,Bool.not_false] at hb) <;> try simp only [hb])|(with_reducible refine Y8 ?_ ?_ <;> (intro hb;try simp only [Bool.not_true,Bool.not_false] at hb) <;> try simp only [hb])|(with_reducible refine A0V ?_ ?_ <;> (intro hb;try simp only [Bool.not_true,Bool.not_false] at hb) <;> try simp only [hb]))
 all_goals refine K6 ?_
 all_goals (clear ra ta l1 l2 g0;unfold S8;simp_all)
end Go.Vab

namespace Go.Vab
open Go Go.Proofs
noncomputable section
def F3I:Ctx:=⟨fun _ _ _ => none,TT,7,[3,4,5,6]⟩
def D32:=B8 Tryz.f54
def D33:=cR D32
def F1e:=cR D33
def q54:=zQ1 F3I 54 Tryz.f54 D32 fun s=>(bnd (some (s.env.get 2)) fun v=>bnd (some []) fun vs=>some (v::vs))
def G2u:=B3 F3I [[F1e],[F1e,D33],[D33,D32]]
end
end Go.Vab

namespace Go.Vab
open Go Go.Proofs
noncomputable section
def F3J:Ctx:=⟨fun _ _ _ => none,TT,7,[3,4,5,6]⟩
def D34:=B8 Tryz.f57
def D35:=cR D34
def F1f:=cR D35
def q57:=zQ1 F3J 57 Tryz.f57 D34 fun s=>(bnd (some (s.env.get 2)) fun v=>bnd (some []) fun vs=>some (v::vs))
def G2v:=B3 F3J [[F1f],[F1f,D35],[D35,D34]]
end
end Go.Vab

namespace Go.Vab
open Go Go.Proofs
noncomputable section
def F3K:Ctx:=⟨fun _ _ _ => none,TT,19,[6,10,11,12,13,14,15,17,18]⟩
def D36:=B8 Tryz.f89
def B46:=cR D36
def D37:=cL B46
def D38:=cR D37
def D39:=cB D38
def D4A:=cB D39
def B47:=cR D4A
def B48:=cL B47
def F1g:=cL B48
def F1h:=cR B48
def B0x:=cR B47
def C5x:=cL B0x
def C5y:=cB C5x
def C5z:=cR C5y
def B0y:=cR C5z
def C50:=cL B0y
def E6W:=cR C50
def E6X:=cR B0y
def E6Y:=cR B0x
def C51:=cR B46
def E6Z:=cR C51
def q89:=zQ2 F3K 89 Tryz.f89 D36 fun s=>(bnd (some (s.env.get 4)) fun v=>bnd (some []) fun vs=>some (v::vs))
def F3L:=B3 F3K [[F1g],[F1h],[F1g,F1h,B48],[E6W],[E6W,C50],[E6X],[C50,E6X,B0y],[B0y,C5z],[C5z,C5y],[C5y,C5x],[E6Y],[C5x,E6Y,B0x],[B48,B0x,B47],[B47,D4A],[D4A,D39],[D39,D38],[D38,D37],[E6Z],[E6Z,C51],[D37,C51,B46],[B46,D36]]
end
end Go.Vab

namespace Go.Vab
open Go Go.Proofs
noncomputable section
def F3M:Ctx:=⟨fun _ _ _ => none,TT,19,[6,10,11,12,13,14,15,17,18]⟩
def D4B:=B8 Tryz.f90
def B49:=cR D4B
def D4C:=cL B49
def D4D:=cR D4C
def D4E:=cB D4D
def D4F:=cB D4E
def B5A:=cR D4F
def B5B:=cL B5A
def F1i:=cL B5B
def F1j:=cR B5B
def B0z:=cR B5A
def C52:=cL B0z
def C53:=cB C52
def C54:=cR C53
def B00:=cR C54
def C55:=cL B00
def E6a:=cR C55
def E6b:=cR B00
def E6c:=cR B0z
def C56:=cR B49
def E6d:=cR C56
def q90:=zQ2 F3M 90 Tryz.f90 D4B fun s=>(bnd (some (s.env.get 4)) fun v=>bnd (some []) fun vs=>some (v::vs))
def F3N:=B3 F3M [[F1i],[F1j],[F1i,F1j,B5B],[E6a],[E6a,C55],[E6b],[C55,E6b,B00],[B00,C54],[C54,C53],[C53,C52],[E6c],[C52,E6c,B0z],[B5B,B0z,B5A],[B5A,D4F],[D4F,D4E],[D4E,D4D],[D4D,D4C],[E6d],[E6d,C56],[D4C,C56,B49],[B49,D4B]]
end
end Go.Vab

namespace Go.Vab
open Go Go.Proofs
noncomputable section
def F3O:Ctx:=⟨fun _ _ _ => none,TT,9,[5,6,7,8]⟩
def D4G:=B8 Tryz.f53
def D4H:=cR D4G
def F1k:=cR D4H
def q53:=zQ2 F3O 53 Tryz.f53 D4G fun s=>(bnd (some (s.env.get 4)) fun v=>bnd (some []) fun vs=>some (v::vs))
def G2w:=B3 F3O [[F1k],[F1k,D4H],[D4H,D4G]]
end
end Go.Vab

namespace Go.Vab
open Go Go.Proofs
noncomputable section
def F3P:Ctx:=⟨fun _ _ _ => none,TT,9,[5,6,7,8]⟩
def D4I:=B8 Tryz.f56
def D4J:=cR D4I
def F1l:=cR D4J
def q56:=zQ2 F3P 56 Tryz.f56 D4I fun s=>(bnd (some (s.env.get 4)) fun v=>bnd (some []) fun vs=>some (v::vs))
def G2x:=B3 F3P [[F1l],[F1l,D4J],[D4J,D4I]]
end
end Go.Vab

namespace Go.Vab
open Go Go.Proofs
noncomputable section
def F3Q:Ctx:=⟨fun _ _ _ => none,TT,62,[4,5,6,7,8,9,10,11,12,13,14,15,16,17,18,19,20,21,22,23,24,25,27,28,29,30,31,32,33,34,35,36,37,38,39,40,41,42,43,44,45,46,47,48,49,50,51,52,53,54,55,56,57,58,59,60,61]⟩
def D4K:=B8 Tryz.f28
def B5C:=cR D4K
def D4L:=cL B5C
def B5D:=cR D4L
def D4M:=cL B5D
def F1m:=cR D4M
def F1n:=cR B5D
def D4N:=cR B5C
def D4O:=cR D4N
def F1o:=cR D4O
def q28:=zQ1 F3Q 28 Tryz.f28 D4K fun s=>(bnd (some (s.env.get 2)) fun v=>bnd (some []) fun vs=>some (v::vs))
def B59:=B3 F3Q [[F1m],[F1m,D4M],[F1n],[D4M,F1n,B5D],[B5D,D4L],[F1o],[F1o,D4O],[D4O,D4N],[D4L,D4N,B5C],[B5C,D4K]]
end
end Go.Vab

namespace Go.Vab
open Go Go.Proofs
theorem F5a {G X:Prop} (f:Hd X→G:=by
 intro xX
 repeat' (first|refine stp (x:=?_)|(with_reducible refine SpecQ.step (c55) ?_;rintro _ rfl;try dsimp only)|(simp (decide:=true) only [G2u,snB,if_true,if_false]))
 exact xX.get) (x:X):G:=f ⟨x⟩
theorem A4w {G X:Prop} (f:Hd X→G:=by
 intro xX
 repeat' (first|refine stp (x:=?_)|(simp (decide:=true) only [F3L,snB,if_true,if_false]))
 exact xX.get) (x:X):G:=f ⟨x⟩
theorem D8R {G X:Prop} (f:Hd X→G:=by
 intro xX
 repeat' (first|refine stp (x:=?_)|(with_reducible refine SpecQ.step (c54) ?_;rintro _ rfl;try dsimp only)|(simp (decide:=true) only [F3L,snB,if_true,if_false]))
 exact xX.get) (x:X):G:=f ⟨x⟩
theorem D8S {G X:Prop} (f:Hd X→G:=by
 intro xX
 repeat' (first|refine stp (x:=?_)|(simp (decide:=true) only [G2w,snB,if_true,if_false]))
 exact xX.get) (x:X):G:=f ⟨x⟩
theorem F5b {G X:Prop} (f:Hd X→G:=by
 intro xX
 repeat' (first|refine stp (x:=?_)|(with_reducible refine SpecQ.step (c55) ?_;rintro _ rfl;try dsimp only)|(simp (decide:=true) only [G2v,snB,if_true,if_false]))
 exact xX.get) (x:X):G:=f ⟨x⟩
theorem A4x {G X:Prop} (f:Hd X→G:=by
 intro xX
 repeat' (first|refine stp (x:=?_)|(simp (decide:=true) only [F3N,snB,if_true,if_false]))
 exact xX.get) (x:X):G:=f ⟨x⟩
theorem D8T {G X:Prop} (f:Hd X→G:=by
 intro xX
 repeat' (first|refine stp (x:=?_)|(with_reducible refine SpecQ.step (c57) ?_;rintro _ rfl;try dsimp only)|(simp (decide:=true) only [F3N,snB,if_true,if_false]))
 exact xX.get) (x:X):G:=f ⟨x⟩
theorem D8U {G X:Prop} (f:Hd X→G:=by
 intro xX
 repeat' (first|refine stp (x:=?_)|(simp (decide:=true) only [G2x,snB,if_true,if_false]))
 exact xX.get) (x:X):G:=f ⟨x⟩
theorem F5c {G X:Prop} (f:Hd X→G:=by
 intro xX
 repeat' (first|refine stp (x:=?_)|(with_reducible refine SpecQ.step (c44) ?_;rintro _ rfl;try dsimp only)|(simp (decide:=true) only [B59,snB,if_true,if_false]))
 exact xX.get) (x:X):G:=f ⟨x⟩
theorem A08 {G X:Prop} (f:Hd X→G:=by
 intro xX
 repeat' (first|refine stp (x:=?_)|(simp (decide:=true) only [B59,snB,if_true,if_false]))
 exact xX.get) (x:X):G:=f ⟨x⟩
theorem D7m {G X:Prop} (f:Hd X→G:=by
 intro xX
 repeat' (first|refine stp (x:=?_)|(with_reducible refine SpecQ.step (c53 (ra.fs.app _)) ?_;rintro _ rfl;try dsimp only)|(with_reducible refine SpecQ.step (c56 (ra.fi.app _)) ?_;rintro _ rfl;try dsimp only)|(simp (decide:=true) only [B59,snB,if_true,if_false]))
 exact xX.get) (x:X):G:=f ⟨x⟩
attribute [local irreducible] E9 Evs gW D9 E8 G5
theorem c54 {h:A3} {s:Seat}:SpecQ Tryz.prog 54 [B0 s] h fun r=>r=(.bool (!roleOk s.role),h):=by
 refine SpecQ.drop1 rfl (q54 fun env g0=>?_)
 have ff:=g0
 refine F5a (x:=?_)
 clear ff
 exact ⟨_,rfl⟩
theorem c89 {h:A3} {x:AV} {l:List Seat} (hx:Row A7 h x (l.map B0)):SpecQ Tryz.prog 89 [x,.fn 54 []] h fun r=>∃ n:Int,r=(.int .i64 n,h)∧(0≤n↔(l.any fun s => !roleOk s.role)=true):=by
 have lx:=hx.len
 have bx:=hx.bound
 rw [List.length_map] at lx bx
 refine q89 fun env g0 g1=>?_
 have ff:=aI3 g0 g1 lx
 refine A4w (x:=?_)
 clear ff
 refine G0 l.length (fun i st=>∃ env',st=⟨env',h⟩∧env'.get 0=x∧env'.get 1=.fn 54 []∧env'.get 7=nat l.length∧env'.get 8=nat i∧∀ j (hj:j < l.length),j < i→roleOk l[j].role=true) ?_ ?_ ⟨_,rfl,by simp [g0],by simp [g1],by simp,by simp,fun j _ hj=>absurd hj (by omega)⟩
 ·rintro i st hi ⟨env',rfl,e0,e1,e7,e8,hgood⟩
  obtain ⟨p,p1,p2⟩:=hx.idx0 (i:=i) (by simpa using hi)
  rw [List.getElem?_map,List.getElem?_eq_getElem hi] at p2
  simp only [Option.map_some] at p2
  cases hr:roleOk l[i].role
  ·have ff:=aI7 e0 e1 e7 e8 p1 p2 hr
   refine D8R (x:=?_)
   clear ff
   refine .inr ⟨by simp,?_⟩
   have ff:=e0
   refine A4w (x:=?_)
   clear ff
   refine ⟨i,by rw [e8];rfl,⟨fun _ => ?_,fun _ => by omega⟩⟩
   rw [List.any_eq_true]
   exact ⟨l[i],List.getElem_mem hi,by rw [hr];rfl⟩
  ·have ff:=aI7 e0 e1 e7 e8 p1 p2 hr
   refine D8R (x:=?_)
   clear ff
   refine .inl ⟨by simp,_,rfl,by simp [e0],by simp [e1],by simp [e7],by simp,fun j hj hji=>?_⟩
   by_cases hq:j=i
   ·subst hq;exact hr
   ·exact hgood j hj (by omega)
 ·rintro st ⟨env',rfl,e0,e1,e7,e8,hgood⟩
  have ff:=aI e7 e8
  refine A4w (x:=?_)
  clear ff
  refine ⟨by simp,?_⟩
  have ff:=aI e7 e8
  refine A4w (x:=?_)
  clear ff
  refine ⟨-1,rfl,⟨fun h=>absurd h (by omega),fun h=>?_⟩⟩
  rw [List.any_eq_true] at h
  obtain ⟨s,hs,hr⟩:=h
  obtain ⟨j,hj,rfl⟩:=List.getElem_of_mem hs
  rw [hgood j hj hj] at hr
  cases hr
theorem c53 {h:A3} {x:AV} {l:List Seat} (hx:Row A7 h x (l.map B0)):SpecQ Tryz.prog 53 [x,.fn 54 []] h fun r=>r=(.bool (l.any fun s => !roleOk s.role),h):=by
 refine SpecQ.drop1 rfl (q53 fun env g0 g1=>?_)
 have ff:=aI g0 g1
 refine D8S (x:=?_)
 clear ff
 refine SpecQ.step (c89 hx) ?_
 rintro ⟨v,h2⟩ ⟨n,e,hn⟩
 cases e
 have ff:=aI g0 g1
 refine D8S (x:=?_)
 clear ff
 refine ⟨[],?_⟩
 simp only [C8,List.append_nil]
 congr 2
 rw [Bool.eq_iff_iff,decide_eq_true_eq]
 exact hn
theorem c57 {h:A3} {s:Inv}:SpecQ Tryz.prog 57 [B7 s] h fun r=>r=(.bool (!roleOk s.role),h):=by
 refine SpecQ.drop1 rfl (q57 fun env g0=>?_)
 have ff:=g0
 refine F5b (x:=?_)
 clear ff
 exact ⟨_,rfl⟩
theorem c90 {h:A3} {x:AV} {l:List Inv} (hx:Row B1 h x (l.map B7)):SpecQ Tryz.prog 90 [x,.fn 57 []] h fun r=>∃ n:Int,r=(.int .i64 n,h)∧(0≤n↔(l.any fun s => !roleOk s.role)=true):=by
 have lx:=hx.len
 have bx:=hx.bound
 rw [List.length_map] at lx bx
 refine q90 fun env g0 g1=>?_
 have ff:=aI3 g0 g1 lx
 refine A4x (x:=?_)
 clear ff
 refine G0 l.length (fun i st=>∃ env',st=⟨env',h⟩∧env'.get 0=x∧env'.get 1=.fn 57 []∧env'.get 7=nat l.length∧env'.get 8=nat i∧∀ j (hj:j < l.length),j < i→roleOk l[j].role=true) ?_ ?_ ⟨_,rfl,by simp [g0],by simp [g1],by simp,by simp,fun j _ hj=>absurd hj (by omega)⟩
 ·rintro i st hi ⟨env',rfl,e0,e1,e7,e8,hgood⟩
  obtain ⟨p,p1,p2⟩:=hx.idx0 (i:=i) (by simpa using hi)
  rw [List.getElem?_map,List.getElem?_eq_getElem hi] at p2
  simp only [Option.map_some] at p2
  cases hr:roleOk l[i].role
  ·have ff:=aI7 e0 e1 e7 e8 p1 p2 hr
   refine D8T (x:=?_)
   clear ff
   refine .inr ⟨by simp,?_⟩
   have ff:=e0
   refine A4x (x:=?_)
   clear ff
   refine ⟨i,by rw [e8];rfl,⟨fun _ => ?_,fun _ => by omega⟩⟩
   rw [List.any_eq_true]
   exact ⟨l[i],List.getElem_mem hi,by rw [hr];rfl⟩
  ·have ff:=aI7 e0 e1 e7 e8 p1 p2 hr
   refine D8T (x:=?_)
   clear ff
   refine .inl ⟨by simp,_,rfl,by simp [e0],by simp [e1],by simp [e7],by simp,fun j hj hji=>?_⟩
   by_cases hq:j=i
   ·subst hq;exact hr
   ·exact hgood j hj (by omega)
 ·rintro st ⟨env',rfl,e0,e1,e7,e8,hgood⟩
  have ff:=aI e7 e8
  refine A4x (x:=?_)
  clear ff
  refine ⟨by simp,?_⟩
  have ff:=aI e7 e8
  refine A4x (x:=?_)
  clear ff
  refine ⟨-1,rfl,⟨fun h=>absurd h (by omega),fun h=>?_⟩⟩
  rw [List.any_eq_true] at h
  obtain ⟨s,hs,hr⟩:=h
  obtain ⟨j,hj,rfl⟩:=List.getElem_of_mem hs
  rw [hgood j hj hj] at hr
  cases hr
theorem c56 {h:A3} {x:AV} {l:List Inv} (hx:Row B1 h x (l.map B7)):SpecQ Tryz.prog 56 [x,.fn 57 []] h fun r=>r=(.bool (l.any fun s => !roleOk s.role),h):=by
 refine SpecQ.drop1 rfl (q56 fun env g0 g1=>?_)
 have ff:=aI g0 g1
 refine D8U (x:=?_)
 clear ff
 refine SpecQ.step (c90 hx) ?_
 rintro ⟨v,h2⟩ ⟨n,e,hn⟩
 cases e
 have ff:=aI g0 g1
 refine D8U (x:=?_)
 clear ff
 refine ⟨[],?_⟩
 simp only [C8,List.append_nil]
 congr 2
 rw [Bool.eq_iff_iff,decide_eq_true_eq]
 exact hn
theorem c28 {h:A3} {a:Stt} {vt vp vs vi va vb:AV} (ra:StR h a vt vp vs vi va vb):SpecQ Tryz.prog 28 [eSt a vt vp vs vi va vb] h fun r=>r=(.bool (E4 a),h):=by
 have ta:=ra.cells
 have lt:=ra.ft.len
 have lp:=ra.fp.len
 refine SpecQ.drop1 rfl (q28 fun env g0=>?_)
 by_cases hs:A0n a=true
 ·have hs':=hs
  simp only [A0n,Bool.not_eq_true',Bool.or_eq_false_iff,decide_eq_false_iff_not,Bool.not_eq_false'] at hs'
  obtain ⟨⟨⟨s1,s2⟩,s3⟩,s4⟩:=hs'
  have s2:a.pass.length % 16=0:=by omega
  have ff:=aI8 g0 ta lt lp s1 s2 s3 s4
  refine F5c (x:=?_)
  clear ff
  refine SpecQ.step (c45 (seen:=[]) (ra.fs.app _) (A5Z (l:=[]))) ?_
  rintro ⟨v,h2⟩ ⟨seen0,e,hs0⟩
  cases e
  rw [A5a]
  replace hs0:(decide (a.seats.length≤40)&&I9 ([]) (sE a))=true→seen0=[]++sE a:=fun hh=>by simp only [Bool.and_eq_true,decide_eq_true_eq] at hh;exact hs0 hh.1 hh.2
  rw [show a.seats.map (·.who.e)=sE a from rfl]
  cases hb0:(decide (a.seats.length≤40)&&I9 ([]) (sE a))
  ·have ff:=aI8 g0 ta lt lp s1 s2 s3 s4
   refine A08 (x:=?_)
   clear ff
   refine K6 ?_
   unfold E4;simp only [hs,hb0,Bool.and_false,Bool.false_and,Bool.true_and]
  have q0:=hs0 hb0
  subst q0
  rw [List.nil_append]
  have ff:=aI8 g0 ta lt lp s1 s2 s3 s4
  refine A08 (x:=?_)
  clear ff
  refine SpecQ.step (c47 (seen:=sE a) (ra.fi.app _) (A5Z (l:=sE a))) ?_
  rintro ⟨v,h2⟩ ⟨seen1,e,hs1⟩
  cases e
  rw [A5a]
  replace hs1:(decide (a.invites.length≤40)&&I9 (sE a) (iE a))=true→seen1=sE a++iE a:=fun hh=>by simp only [Bool.and_eq_true,decide_eq_true_eq] at hh;exact hs1 hh.1 hh.2
  rw [show a.invites.map (·.who.e)=iE a from rfl]
  cases hb1:(decide (a.invites.length≤40)&&I9 (sE a) (iE a))
  ·have ff:=aI8 g0 ta lt lp s1 s2 s3 s4
   refine A08 (x:=?_)
   clear ff
   refine K6 ?_
   unfold E4;simp only [hs,hb0,hb1,Bool.and_false,Bool.false_and,Bool.true_and]
  have q1:=hs1 hb1
  subst q1
  have ff:=aI8 g0 ta lt lp s1 s2 s3 s4
  refine A08 (x:=?_)
  clear ff
  refine SpecQ.step (c49 (seen:=sE a++iE a) (ra.fa.app _) (A5Z (l:=sE a++iE a))) ?_
  rintro ⟨v,h2⟩ ⟨seen2,e,hs2⟩
  cases e
  rw [A5a]
  replace hs2:(decide (a.asks.length≤40)&&I9 (sE a++iE a) (aE a))=true→seen2=sE a++iE a++aE a:=fun hh=>by simp only [Bool.and_eq_true,decide_eq_true_eq] at hh;exact hs2 hh.1 hh.2
  rw [show a.asks.map (·.who.e)=aE a from rfl]
  cases hb2:(decide (a.asks.length≤40)&&I9 (sE a++iE a) (aE a))
  ·have ff:=aI8 g0 ta lt lp s1 s2 s3 s4
   refine A08 (x:=?_)
   clear ff
   refine K6 ?_
   unfold E4;simp only [hs,hb0,hb1,hb2,Bool.and_false,Bool.false_and,Bool.true_and]
  have q2:=hs2 hb2
  subst q2
  have ff:=aI8 g0 ta lt lp s1 s2 s3 s4
  refine A08 (x:=?_)
  clear ff
  refine SpecQ.step (c51 (seen:=sE a++iE a++aE a) (ra.fb.app _) (A5Z (l:=sE a++iE a++aE a))) ?_
  rintro ⟨v,h2⟩ ⟨seen3,e,hs3⟩
  cases e
  rw [A5a]
  replace hs3:(decide (a.bans.length≤40)&&I9 (sE a++iE a++aE a) (bE a))=true→seen3=sE a++iE a++aE a++bE a:=fun hh=>by simp only [Bool.and_eq_true,decide_eq_true_eq] at hh;exact hs3 hh.1 hh.2
  rw [show a.bans.map (·.who.e)=bE a from rfl]
  cases hb3:(decide (a.bans.length≤40)&&I9 (sE a++iE a++aE a) (bE a))
  ·have ff:=aI8 g0 ta lt lp s1 s2 s3 s4
   refine A08 (x:=?_)
   clear ff
   refine K6 ?_
   unfold E4;simp only [hs,hb0,hb1,hb2,hb3,Bool.and_false,Bool.false_and,Bool.true_and]
  have q3:=hs3 hb3
  subst q3
  cases hA:(a.seats.any fun s => !roleOk s.role)
  ·have ff:=aI9 g0 ta lt lp s1 s2 s3 s4 hA
   refine D7m (x:=?_)
   clear ff
   refine K6 ?_
   unfold E4;simp only [hs,hb0,hb1,hb2,hb3,hA,Bool.not_false,Bool.true_and]
  ·have ff:=aI9 g0 ta lt lp s1 s2 s3 s4 hA
   refine D7m (x:=?_)
   clear ff
   refine K6 ?_
   unfold E4;simp only [hs,hb0,hb1,hb2,hb3,hA,Bool.not_true,Bool.true_and,Bool.false_and]
 ·have hs0:A0n a=false:=Bool.eq_false_iff.2 hs
  have hm:E4 a=false:=by unfold E4;rw [hs0];rfl
  rw [hm]
  unfold A0n at hs0
  simp only [Bool.not_eq_false'] at hs0
  repeat' (first|((with_reducible refine I6 (a:=?_) ?_ ?_);rotate_left;(focus ((conv=>lhs;simp (disch:=omega) [g0,ta,lt,lp]);done));try dsimp only)|((with_reducible refine S6 ?_ ?_);(focus (simp (disch:=omega) [g0,ta,lt,lp];done)))|((with_reducible refine T4 ?_ ?_);(focus (simp (disch:=omega) [g0,ta,lt,lp];done));try dsimp only)|((with_reducible refine T5 ?_ ?_);(focus (simp (disch:=omega) [g0,ta,lt,lp];done));try dsimp only)|((with_reducible refine V3 ?_ ?_);(focus (simp (disch:=omega) [g0,ta,lt,lp] <;> omega)))|((with_reducible refine V4 ?_ ?_);(focus (simp (disch:=omega) [g0,ta,lt,lp] <;> omega)))|(with_reducible refine W0 ?_)|(with_reducible refine SpecQ.step (c44) ?_;rintro _ rfl;try dsimp only)|((with_reducible refine S3 (args':=?_) ?_ ?_);rotate_left;(focus ((conv=>lhs;simp (disch:=omega) [g0,ta,lt,lp]);done)))|(simp (decide:=true) only [B59,J7,J4,I3,J3,I2,J2,J1,if_true,if_false,J5,J6])|((with_reducible refine a6 (b:=?_) ?_ ?_ ?_);rotate_left;(focus ((conv=>lhs;simp (disch:=omega) [g0,ta,lt,lp]);done));all_goals ((intro hb;try simp only [Bool.not_true,Bool.not_false] at hb);try simp only [hb]))|((with_reducible refine P8 (b:=?_) ?_ ?_ ?_);rotate_left;(focus ((conv=>lhs;simp (disch:=omega) [g0,ta,lt,lp]);done));all_goals ((intro hb;try simp only [Bool.not_true,Bool.not_false] at hb);try simp only [hb]))|((with_reducible refine W8 (b:=?_) ?_ ?_ ?_);rotate_left;(focus ((conv=>lhs;simp (disch:=omega) [g0,ta,lt,lp]);done));all_goals ((intro hb;try simp only [Bool.not_true,Bool.not_false] at hb);try simp only [hb]))|(with_reducible refine P4 ?_ ?_ <;> (intro hb;try simp only [Bool.not_true,Bool.not_false] at hb) <;> try simp only [hb])|(with_reducible refine U8 ?_ ?_ <;> (intro hb;try simp only [Bool.not_true,Bool.not_false] at hb) <;> try simp only [hb])|(with_reducible refine Y8 ?_ ?_ <;> (intro hb;try simp only [Bool.not_true,Bool.not_false] at hb) <;> try simp only [hb]))
  all_goals first
   | exact K6 rfl
   | (exfalso;simp_all;done)
   | trace_state
end Go.Vab

namespace Go.Vab
open Go Go.Proofs
noncomputable section
def B6A:Ctx:=⟨fun _ _ _ => none,TT,64,[10,11,12,13,14,15,16,18,19,20,21,22,23,24,25,27,28,29,30,32,33,34,35,36,37,38,39,40,41,42,43,44,45,46,47,48,49,50,51,52,54,55,56,58,59,60,61,62,63]⟩
def D4P:=B8 Tryz.f13
def B5E:=cR D4P
def D4Q:=cL B5E
def B5F:=cR D4Q
def D4R:=cL B5F
def F1p:=cR D4R
def F1q:=cR B5F
def B5G:=cR B5E
def D4S:=cL B5G
def B5H:=cR D4S
def C57:=cL B5H
def E6e:=cR C57
def E6f:=cR B5H
def B01:=cR B5G
def C58:=cL B01
def B02:=cR C58
def C59:=cL B02
def E6g:=cR C59
def E6h:=cR B02
def C6A:=cR B01
def C6B:=cR C6A
def C6C:=cR C6B
def C6D:=cR C6C
def B03:=cR C6D
def C6E:=cL B03
def B04:=cR C6E
def E6i:=cL B04
def E6j:=cR B04
def B05:=cR B03
def C6F:=cL B05
def B06:=cR C6F
def C6G:=cL B06
def E6k:=cR C6G
def E6l:=cR B06
def C6H:=cR B05
def C6I:=cR C6H
def E6m:=cR C6I
def q13:=zQ3 B6A 13 Tryz.f13 D4P fun s=>(bnd (D6 A6 (s.env.get 6) s.heap) fun v=>bnd (bnd (some (s.env.get 7)) fun v=>bnd (some []) fun vs=>some (v::vs)) fun vs=>some (v::vs))
def B7H:=zDr B6A [C6D,C6C] [6] [0,0,0,0,12,31,63,127] [0,1,2,3,4,5] (.o 6 [7] [] .f)
def D9K:=zDr B6A [C6C,C6B] [2,5,7,9] [0,1,3,0,8,31,31,127,255,511] [0,1,3,4] (.o 2 [6] [4] (.o 5 [] [] (.o 7 [8] [] (.o 9 [] [] .f))))
def B6B:=B3 B6A [[F1p],[F1p,D4R],[F1q],[D4R,F1q,B5F],[B5F,D4Q],[E6e],[E6e,C57],[E6f],[C57,E6f,B5H],[B5H,D4S],[E6g],[E6g,C59],[E6h],[C59,E6h,B02],[B02,C58],[E6i],[E6j],[E6i,E6j,B04],[B04,C6E],[E6k],[E6k,C6G],[E6l],[C6G,E6l,B06],[B06,C6F],[E6m],[E6m,C6I],[C6I,C6H],[C6F,C6H,B05],[C6E,B05,B03],[B03,C6D],[C6B,C6A],[C58,C6A,B01],[D4S,B01,B5G],[D4Q,B5G,B5E],[B5E,D4P]]
end
end Go.Vab

namespace Go.Vab
open Go Go.Proofs
noncomputable section
def F3R:Ctx:=⟨fun _ _ _ => none,TT,27,[13,14,15,16,17,18,19,20,21,22,24,25,26]⟩
def D4T:=B8 Tryz.f20
def D4U:=cR D4T
def B5I:=cR D4U
def D4V:=cL B5I
def B5J:=cR D4V
def D4W:=cL B5J
def F1r:=cR D4W
def F1s:=cR B5J
def D4X:=cR B5I
def F1t:=cR D4X
def q20:=zQ5 F3R 20 Tryz.f20 D4T fun s=>(bnd (D6 A6 (s.env.get 10) s.heap) fun v=>bnd (bnd (some (s.env.get 11)) fun v=>bnd (some []) fun vs=>some (v::vs)) fun vs=>some (v::vs))
def G2y:=B3 F3R [[F1r],[F1r,D4W],[F1s],[D4W,F1s,B5J],[B5J,D4V],[F1t],[F1t,D4X],[D4V,D4X,B5I],[B5I,D4U],[D4U,D4T]]
end
end Go.Vab

namespace Go.Vab
open Go Go.Proofs
theorem A3B {G X:Prop} (f:Hd X→G:=by
 intro xX
 repeat' (first|refine stp (x:=?_)|(with_reducible refine A5 (c28 (ra.app _)) ?_;try dsimp only)|(with_reducible refine SpecQ.step (c28 (ra.app _)) ?_;rintro _ rfl;try dsimp only)|(with_reducible refine B6 (c28 (ra.app _)) ?_)|(with_reducible refine A5 (c29 (rc.app _)) ?_;try dsimp only)|(with_reducible refine SpecQ.step (c29 (rc.app _)) ?_;rintro _ rfl;try dsimp only)|(with_reducible refine B6 (c29 (rc.app _)) ?_)|(simp (decide:=true) only [B6B,snB,if_true,if_false])|(with_reducible refine B7H _ _ _ ?_)|(with_reducible refine D9K _ _ _ ?_))
 exact xX.get) (x:X):G:=f ⟨x⟩
theorem A3C {G X:Prop} (f:Hd X→G:=by
 intro xX
 repeat' (first|refine stp (x:=?_)|(simp (decide:=true) only [B6B,snB,if_true,if_false])|(with_reducible refine B7H _ _ _ ?_)|(with_reducible refine D9K _ _ _ ?_))
 exact xX.get) (x:X):G:=f ⟨x⟩
theorem D8V {G X:Prop} (f:Hd X→G:=by
 intro xX
 repeat' (first|refine stp (x:=?_)|(simp (decide:=true) only [B6B,snB,if_true,if_false]))
 exact xX.get) (x:X):G:=f ⟨x⟩
theorem F5d {G X:Prop} (f:Hd X→G:=by
 intro xX
 repeat' (first|refine stp (x:=?_)|(with_reducible refine A5 (c17 w4.str) ?_;try dsimp only)|(with_reducible refine SpecQ.step (c17 w4.str) ?_;rintro _ rfl;try dsimp only)|(with_reducible refine B6 (c17 w4.str) ?_)|(simp (decide:=true) only [B6B,snB,if_true,if_false])|(with_reducible refine B7H _ _ _ ?_))
 exact xX.get) (x:X):G:=f ⟨x⟩
attribute [local irreducible] E9 Evs gW D9 E8 G5
abbrev R6:AV:=C1 0#32 ci0 D4 .nilslice .nilslice .nilslice .nilslice .nilslice .nilslice
def PR (h:A3) (x:Except Nat Stt) (r:AV × A3):Prop:=match x with
 | .error k=>∃ t,r=(.tuple [R6,nat k],h++t)
 | .ok z=>∃ (κ:Nat→Nat) (t:A3) (vt vp vs vi va vb:AV),r=(.tuple [eSt z vt vp vs vi va vb,nat 0],h++t)∧Wp κ (h++t) z vt vp vs vi va vb∧∀ i,i < h.length→κ i=0
@[simp] theorem G8Z {c : Nat} {b : Pt} {a : Actn} {wt wp : AV} {m : BitVec 8} :
  G4 G6 (.node [.nilptr,pt pt0,E5 0#32 0#8 ci0 pt0 0#8 D4 .nilslice .nilslice,u8 0#8]) [(0,.ptr c 0 [] A6),(1,pt b),(2,C5 a wt wp),(3,u8 m)]=if (A4 wt .cell&&A4 wp .cell)=true then some (T7 c b a wt wp m) else none:=by
 cases h1:A4 wt .cell <;> cases h2:A4 wp .cell <;> simp [G4,T7,h1,h2,-D7f]
@[simp] theorem G53 {c:Nat} {b:Pt} {a:Actn} {wt wp:AV} {m:BitVec 8}:A4 (T7 c b a wt wp m) G6=(A4 wt .cell&&A4 wp .cell):=by simp [T7,-D7f]
theorem c13 {h : A3} {s : Stt} {vt vp vs vi va vb : AV} {b : Pt} {a : Actn} {wt wp : AV} (ra : StR h s vt vp vs vi va vb) (rc : ActR h a wt wp) :
  SpecQ Tryz.prog 13 [eSt s vt vp vs vi va vb,pt b,C5 a wt wp] h (PR h (I4 s b a)):=by
 have ta:=ra.cells
 have tc:=rc.cells
 have l1:=ra.fs.len
 rw [List.length_map] at l1
 refine q13 fun env g0 g1 g2=>?_
 cases h1:E4 s
 ·have hm:I4 s b a=.error 2:=by simp [I4,h1]
  have ff:=aI7 g0 g1 g2 ta tc l1 h1
  refine A3B (x:=?_)
  clear ff
  rw [hm]
  exact ⟨_,rfl⟩
 cases h2:S8 a
 ·have hm:I4 s b a=.error 2:=by simp [I4,h2]
  have ff:=aI8 g0 g1 g2 ta tc l1 h1 h2
  refine A3B (x:=?_)
  clear ff
  rw [hm]
  exact ⟨_,rfl⟩
 by_cases h3:a.version.setWidth 64=s.version.setWidth 64+1#64
 rotate_left
 ·have hm : I4 s b a = .error 190 := by
   have hc:a.version=0#32∨a.version - 1#32≠s.version:=Classical.byContradiction fun q=>h3 ((D9f _ _).2 q)
   simp only [I4,h1,h2,Bool.true_eq_false,or_self,if_false]
   rw [if_pos hc]
  have ff:=aI9 g0 g1 g2 ta tc l1 h1 h2 h3
  refine A3B (x:=?_)
  clear ff
  rw [hm]
  exact ⟨_,rfl⟩
 have h3':=(D9f _ _).1 h3
 by_cases h5:s.seats.length=0
 ·have hm:I4 s b a=.error 197:=by simp only [I4,h1,h2,Bool.true_eq_false,or_self,if_false,if_neg h3',h5,if_true]
  have ff:=E3 g0 g1 g2 ta tc l1 h1 h2 h3 h5
  refine A3B (x:=?_)
  clear ff
  rw [hm]
  exact ⟨_,rfl⟩
 have hst:I4 s b a=match madeP s b a with
  | .error e=>.error e
  | .ok t=>.ok { t with version:=a.version }:=by simp only [I4,h1,h2,Bool.true_eq_false,or_self,if_false,if_neg h3',h5];cases madeP s b a <;> rfl
 have ff:=E3 g0 g1 g2 ta tc l1 h1 h2 h3 h5
 refine A3B (x:=?_)
 clear ff
 obtain ⟨n,hn⟩:∃ n,n=h.length:=⟨_,rfl⟩
 obtain ⟨κ0,hκ⟩:∃ κ0:Nat→Nat,κ0=fun i=>if i=n∨i=n+2∨i=n+3 then 6 else 0:=⟨_,rfl⟩
 obtain ⟨m1,m2,m3,m4⟩:=A0f h1
 have hz0:∀ i,κ0 i=0∨κ0 i=6:=fun i=>by rw [hκ];simp only;split <;> simp
 have kn:κ0 n=6:=by rw [hκ];simp
 have kn1:κ0 (n+1)=0:=by rw [hκ];simp
 have kn2:κ0 (n+2)=6:=by rw [hκ];simp
 have kn3:κ0 (n+3)=6:=by rw [hκ];simp
 have klo:∀ i,i < n→κ0 i=0:=fun i hi=>by rw [hκ];simp only;rw [if_neg (by omega)]
 refine SpecQ.step (c30 (κ:=κ0) (ra.app _) (fun i hi=>by rw [hκ];simp only [List.length_append,List.length_cons,List.length_nil] at hi ⊢;rw [if_neg (by omega)]) (fun i _ => (hz0 i).imp id fun e=>by omega) (by omega) (by omega) (by omega) (by omega)) ?_
 rintro _ ⟨κ1,H1,ut,up,us,ui,ua,ub,rfl,wp1,f1⟩
 have F0:Fr (fun _ => 0) h κ0 (h++[⟨eSt s vt vp vs vi va vb,0,.own⟩,⟨pt b,0,.own⟩,⟨C5 a wt wp,0,.own⟩,⟨R6,0,.own⟩]):=⟨by simp,fun i hi=>klo i (by omega),fun i hi _ => List.getElem?_append_left hi⟩
 have F1:=F0.trans f1
 have lc:(h++[⟨eSt s vt vp vs vi va vb,0,.own⟩,⟨pt b,0,.own⟩,⟨C5 a wt wp,0,.own⟩,⟨R6,0,.own⟩]:A3).length=n+4:=by simp [hn]
 have cs:=f1.blk (i:=n) (b:=⟨eSt s vt vp vs vi va vb,0,.own⟩) (by rw [hn];simp) (.inr (by rw [kn];decide))
 have cb:=f1.blk (i:=n+1) (b:=⟨pt b,0,.own⟩) (by rw [hn,List.getElem?_append_right (by omega)];simp) (.inl kn1)
 have ca:=f1.blk (i:=n+2) (b:=⟨C5 a wt wp,0,.own⟩) (by rw [hn,List.getElem?_append_right (by omega)];simp) (.inr (by rw [kn2];decide))
 have cr:=f1.blk (i:=n+3) (b:=⟨R6,0,.own⟩) (by rw [hn,List.getElem?_append_right (by omega)];simp) (.inr (by rw [kn3];decide))
 have k10:κ1 n=6:=(f1.old _ (by rw [lc];omega)).trans kn
 have k11:κ1 (n+1)=0:=(f1.old _ (by rw [lc];omega)).trans kn1
 have k12:κ1 (n+2)=6:=(f1.old _ (by rw [lc];omega)).trans kn2
 have k13:κ1 (n+3)=6:=(f1.old _ (by rw [lc];omega)).trans kn3
 have tu:=wp1.str.cells
 have w2:=wp1.wk (c:=n) (List.getElem?_eq_some_iff.1 cs).1 k10
 have F2:Fr (fun _ => 0) h (fun i=>if i=n then 1 else κ1 i) (H1.set n ⟨eSt s ut up us ui ua ub,0,.own⟩):=(F1.wr (by omega) _).kap fun i hi=>if_neg (by omega)
 have cb2:=A1P cb (j:=n) (by omega) ⟨eSt s ut up us ui ua ub,0,.own⟩
 have ca2:=A1P ca (j:=n) (by omega) ⟨eSt s ut up us ui ua ub,0,.own⟩
 have cr2:=A1P cr (j:=n) (by omega) ⟨eSt s ut up us ui ua ub,0,.own⟩
 obtain ⟨κ2,hκ2⟩:∃ κ2:Nat→Nat,κ2=fun i=>if i=n then 1 else κ1 i:=⟨_,rfl⟩
 have k21:κ2 (n+1)=0:=by rw [hκ2];simp only;rw [if_neg (by omega)];exact k11
 have k22:κ2 (n+2)=6:=by rw [hκ2];simp only;rw [if_neg (by omega)];exact k12
 have k23:κ2 (n+3)=6:=by rw [hκ2];simp only;rw [if_neg (by omega)];exact k13
 rw [←hκ2] at w2 F2
 obtain ⟨H2,hH2⟩:∃ G,H1.set n ⟨eSt s ut up us ui ua ub,0,.own⟩=G:=⟨_,rfl⟩
 rw [hH2] at w2 F2 cb2 ca2 cr2
 have bs1:=A9 cs
 have ba2:∀ l,blkAt (H2++l) (n+2) 0=some ⟨C5 a wt wp,0,.own⟩:=fun l=>L6 (A9 ca2) l
 have ba20:=A9 ca2
 rw [←hn]
 have ff:=aI6 bs1 ba2 ba20 hH2 tu tc
 refine A3C (x:=?_)
 clear ff
 refine SpecQ.step (c31 (rc.t.fr F2 fun _ _ => .inl rfl)) ?_
 rintro _ ⟨xt,t1,rfl,g1,r1⟩
 have y1:=g1.cell
 have ff:=aI4 ba2 ba20 y1 tc
 refine D8V (x:=?_)
 clear ff
 refine SpecQ.step (c31 ((rc.p.fr F2 fun _ _ => .inl rfl).app _)) ?_
 rintro _ ⟨xp,t2,rfl,g2,r2⟩
 have y2:=g2.cell
 simp only [List.append_assoc] at g2 ⊢
 have st2:∀ l v,(H2++l).set (n+2) v=H2.set (n+2) v++l:=fun l v=>g8 ca2 l v
 have st3:∀ l v w,(H2.set (n+2) w++l).set (n+2) v=H2.set (n+2) v++l:=fun l v w=>by rw [g8 (A0q ca2 w),List.set_set]
 have ba3:∀ (v:AV) l,blkAt (H2.set (n+2) ⟨v,0,.own⟩++l) (n+2) 0=some ⟨v,0,.own⟩:=fun v l=>L6 (A9 (A0q ca2 _)) l
 have ff:=aI7 ba2 st2 st3 ba3 y1 y2 tc
 refine D8V (x:=?_)
 clear ff
 obtain ⟨H3,hH3⟩:∃ G,G=H2.set (n+2) (⟨C5 a xt xp,0,.own⟩:Blk):=⟨_,rfl⟩
 have w3:=w2.wr (p:=n+2) k22 ⟨C5 a xt xp,0,.own⟩
 have F3:=F2.wr (p:=n+2) (by omega) ⟨C5 a xt xp,0,.own⟩
 have cb3:=A1P cb2 (j:=n+2) (by omega) (⟨C5 a xt xp,0,.own⟩:Blk)
 have ca3:=A0q ca2 (⟨C5 a xt xp,0,.own⟩:Blk)
 have cr3:=A1P cr2 (j:=n+2) (by omega) (⟨C5 a xt xp,0,.own⟩:Blk)
 rw [←hH3] at w3 F3 cb3 ca3 cr3 ⊢
 have l32:H3.length=H2.length:=by rw [hH3,List.length_set]
 have ln3:n+3 < H3.length:=(List.getElem?_eq_some_iff.1 cr3).1
 have w4:=w3.byt (t1++t2)
 have F4:=F3.trans (Fr.byt (t1++t2))
 have cb4:=U9 cb3 (t1++t2)
 have ca4:=U9 ca3 (t1++t2)
 have cr4:=U9 cr3 (t1++t2)
 obtain ⟨κ4,hκ4⟩:∃ κ4,κ4=byt κ2 H3.length (H3++(t1++t2)).length:=⟨_,rfl⟩
 rw [←hκ4] at w4 F4
 obtain ⟨H4,hH4⟩:∃ G,G=H3++(t1++t2):=⟨_,rfl⟩
 rw [←hH4] at w4 F4 cb4 ca4 cr4 hκ4 ⊢
 have k42:κ4 (n+2)=6:=by rw [hκ4,A5e (by omega)];exact k22
 have k43:κ4 (n+3)=6:=by rw [hκ4,A5e (by omega)];exact k23
 have gx:BytO H4 xt a.title:=by
  refine (g1.app t2).other fun i hi=>?_
  have:=r1 i hi
  rw [hH4,List.append_assoc,List.getElem?_append_right (l₁:=H3) (by omega),List.getElem?_append_right (l₁:=H2) (by omega),l32]
 have gp:BytO H4 xp a.pass:=by
  refine g2.other fun i hi=>?_
  have:=r2 i hi
  rw [List.length_append] at this
  rw [hH4,List.getElem?_append_right (l₁:=H3) (by omega),List.getElem?_append_right (l₁:=H2) (by omega),l32]
 have kx:∀ i,rb xt=some i→κ4 i=7:=fun i hi=>by rw [hκ4];exact E2S (by have:=r1 i hi;omega) (gx.rb_lt' i hi)
 have kp:∀ i,rb xp=some i→κ4 i=7:=fun i hi=>by rw [hκ4];exact E2S (by have:=r2 i hi;rw [List.length_append] at this;omega) (gp.rb_lt' i hi)
 have bn4:=A9 w4.cell
 have bb4:=A9 cb4
 have ba4:=A9 ca4
 have ff:=aI6 bb4 ba4 bn4 y1 y2 tu
 refine F5d (x:=?_)
 clear ff
 have x:Sx κ4 (H4++[⟨T7 n b a xt xp (D0 s b),0,.own⟩]) n H4.length s b a (D0 s b) ut up us ui ua ub xt xp:=⟨w4.app _,by simp,w4.top _ (Nat.le_refl _),⟨gx.b.app _,gp.b.app _⟩,kx,kp,gx.o.app _,gp.o.app _⟩
 refine SpecQ.step (c32 x) ?_
 rintro _ rfl
 have br:∀ l,blkAt (H4++l) (n+3) 0=some ⟨R6,0,.own⟩:=fun l=>L6 (A9 cr4) l
 have st4:∀ l v,(H4++l).set (n+3) v=H4.set (n+3) v++l:=fun l v=>g8 cr4 l v
 have br2:∀ (v:AV) l,blkAt (H4.set (n+3) ⟨v,0,.own⟩++l) (n+3) 0=some ⟨v,0,.own⟩:=fun v l=>L6 (A9 (A0q cr4 _)) l
 have k0:∀ i,i < h.length→(fun _ => 0:Nat→Nat) i=0:=fun _ _ => rfl
 have F5:∀ l,Fr (fun _ => 0) h κ4 (H4++l):=fun l=>F4.trans (Fr.refl _ _).app
 rcases may_split (b:=b) h1 h2 with ⟨hw,ok⟩|⟨hw,hmd⟩
 rotate_left
 ·rw [hmd] at hst
  rw [hst]
  have ff:=aI4 hw br st4 br2
  refine A3C (x:=?_)
  clear ff
  obtain ⟨t,ht⟩:=((F4.wr (p:=n+3) (by omega) (⟨R6,0,.own⟩:Blk)).trans (Fr.refl _ _).app).pre (H:=h) k0
  exact ⟨t,by rw [←ht];rfl⟩
 have ff:=hw
 refine A3C (x:=?_)
 clear ff
 refine SpecQ.step (c33 x (F8D h1) h1 h2 ok rfl) ?_
 rintro ⟨v,H9'⟩ ⟨κ9,H9,fr9,hm⟩
 have F9:=(F5 _).trans fr9
 have cr9:=fr9.blk (U9 cr4 _) (.inr (by rw [k43];decide))
 have ca9:=fr9.blk (U9 ca4 _) (.inr (by rw [k42];decide))
 cases hmd:madeP s b a with
 | error k =>
  have hk:=B6i hmd
  rw [hmd] at hst hm
  simp only at hst hm
  cases hm
  rw [hst]
  have b9:=A9 cr9
  have b9':∀ v:AV,blkAt (H9'.set (n+3) ⟨v,0,.own⟩) (n+3) 0=some ⟨v,0,.own⟩:=fun v=>A9 (A0q cr9 _)
  have ff:=aI3 hk b9 b9'
  refine A3C (x:=?_)
  clear ff
  obtain ⟨t,ht⟩:=(F9.wr (p:=n+3) (by omega) (⟨R6,0,.own⟩:Blk)).pre (H:=h) k0
  exact ⟨t,by rw [←ht];rfl⟩
 | ok z =>
  rw [hmd] at hst hm
  simp only at hst hm
  obtain ⟨hv,v1,v2,v3,v4,v5,v6,w9⟩:=hm
  cases hv
  rw [hst]
  have bn:=A9 w9.cell
  have ba:=A9 ca9
  have bnv:∀ v:AV,blkAt (H9'.set n ⟨v,0,.own⟩) n 0=some ⟨v,0,.own⟩:=fun v=>A9 (A0q w9.cell _)
  have bnr:∀ v:Blk,blkAt (H9'.set n v) (n+3) 0=some ⟨R6,0,.own⟩:=fun v=>A9 (A1P cr9 (by omega) _)
  have bnw:∀ (v:Blk) (w:AV),blkAt ((H9'.set n v).set (n+3) ⟨w,0,.own⟩) (n+3) 0=some ⟨w,0,.own⟩:=fun v w=>A9 (A0q (A1P cr9 (by omega) _) _)
  have tv:=w9.cells
  have ff:=aI6 bn ba bnv bnr bnw tv
  refine A3C (x:=?_)
  clear ff
  obtain ⟨t,ht⟩:=((F9.wr (p:=n) (by omega) (⟨eSt { z with version:=a.version } v1 v2 v3 v4 v5 v6,0,.own⟩:Blk)).wr (p:=n+3) (by omega) (⟨eSt { z with version:=a.version } v1 v2 v3 v4 v5 v6,0,.own⟩:Blk)).pre (H:=h) k0
  have k9n:κ9 n=1:=w9.kc
  have k93:κ9 (n+3)=6:=(fr9.old _ (by rw [List.length_append,hH4,List.length_append];omega)).trans k43
  have wz:Wp κ9 H9' { z with version:=a.version } v1 v2 v3 v4 v5 v6:=⟨w9.top,w9.ft,w9.fp,w9.kt,w9.kp,w9.fs,w9.fi,w9.fa,w9.fb⟩
  have wf:=(wz.wr (.inr k9n) (⟨eSt { z with version:=a.version } v1 v2 v3 v4 v5 v6,0,.own⟩:Blk)).wr (p:=n+3) (.inl k93) (⟨eSt { z with version:=a.version } v1 v2 v3 v4 v5 v6,0,.own⟩:Blk)
  exact ⟨κ9,t,v1,v2,v3,v4,v5,v6,by rw [←ht];rfl,by rw [←ht];exact wf,fun i hi=>F9.old i hi⟩
end Go.Vab

namespace Go.Vab
open Go Go.Proofs
noncomputable section
def B6C:Ctx:=⟨fun _ _ _ => none,TT,108,[8,9,10,11,13,14,15,16,17,18,19,20,21,22,23,24,25,26,27,28,29,30,31,33,34,35,36,37,38,39,40,41,42,43,44,45,46,47,48,49,50,51,53,54,55,56,57,58,59,60,61,62,63,64,65,67,68,69,70,71,72,73,74,75,76,77,78,79,81,82,83,84,85,86,87,88,89,90,91,92,93,94,95,97,98,99,100,101,102,103,104,105,106,107]⟩
def D4Y:=B8 Tryz.f19
def B5K:=cR D4Y
def D4Z:=cL B5K
def D4a:=cR D4Z
def D4b:=cB D4a
def B5L:=cB D4b
def D4c:=cL B5L
def B5M:=cR D4c
def F1u:=cL B5M
def F1v:=cR B5M
def B07:=cR B5L
def C6J:=cL B07
def E6n:=cB C6J
def E6o:=cR B07
def B08:=cR B5K
def C6K:=cL B08
def C6L:=cR C6K
def C6M:=cB C6L
def B09:=cB C6M
def C6N:=cL B09
def B1A:=cR C6N
def E6p:=cL B1A
def E6q:=cR B1A
def B1B:=cR B09
def C6O:=cL B1B
def E6r:=cB C6O
def E6s:=cR B1B
def B1C:=cR B08
def C6P:=cL B1C
def C6Q:=cR C6P
def C6R:=cB C6Q
def B1D:=cB C6R
def C6S:=cL B1D
def B1E:=cR C6S
def E6t:=cL B1E
def E6u:=cR B1E
def B1F:=cR B1D
def C6T:=cL B1F
def E6v:=cB C6T
def E6w:=cR B1F
def B1G:=cR B1C
def C6U:=cL B1G
def C6V:=cR C6U
def C6W:=cB C6V
def B1H:=cB C6W
def C6X:=cL B1H
def B1I:=cR C6X
def E6x:=cL B1I
def E6y:=cR B1I
def B1J:=cR B1H
def C6Y:=cL B1J
def E6z:=cB C6Y
def E60:=cR B1J
def B1K:=cR B1G
def C6Z:=cL B1K
def C6a:=cR C6Z
def C6b:=cB C6a
def B1L:=cB C6b
def C6c:=cL B1L
def B1M:=cR C6c
def E61:=cL B1M
def E62:=cR B1M
def B1N:=cR B1L
def C6d:=cL B1N
def E63:=cB C6d
def E64:=cR B1N
def C6e:=cR B1K
def C6f:=cR C6e
def C6g:=cB C6f
def B1O:=cB C6g
def C6h:=cL B1O
def B1P:=cR C6h
def E65:=cL B1P
def E66:=cR B1P
def B1Q:=cR B1O
def C6i:=cL B1Q
def E67:=cB C6i
def E68:=cR B1Q
def q19:=zQ1 B6C 19 Tryz.f19 D4Y fun s=>(some [])
def F7M:=zDr B6C [E6n] [13] [0,1,0,7,15,31,63,127,255,7,519,1543,4095,8191] [0,1,2,3,4,5,6,7,8,9,10,11,12] (.o 13 [] [] .f)
def F7N:=zDr B6C [E6r] [13] [0,1,0,7,15,31,63,127,255,7,519,1543,4095,8191] [0,1,2,3,4,5,6,7,8,9,10,11,12] (.o 13 [] [] .f)
def G2z:=B3 B6C [[F1u],[F1v],[F1u,F1v,B5M],[B5M,D4c],[E6n,C6J],[E6o],[C6J,E6o,B07],[D4c,B07,B5L],[B5L,D4b],[D4b,D4a],[D4a,D4Z],[E6p],[E6q],[E6p,E6q,B1A],[B1A,C6N],[E6r,C6O],[E6s],[C6O,E6s,B1B],[C6N,B1B,B09],[B09,C6M],[C6M,C6L],[C6L,C6K],[E6t],[E6u],[E6t,E6u,B1E],[B1E,C6S],[E6v],[E6v,C6T],[E6w],[C6T,E6w,B1F],[C6S,B1F,B1D],[B1D,C6R],[C6R,C6Q],[C6Q,C6P],[E6x],[E6y],[E6x,E6y,B1I],[B1I,C6X],[E6z],[E6z,C6Y],[E60],[C6Y,E60,B1J],[C6X,B1J,B1H],[B1H,C6W],[C6W,C6V],[C6V,C6U],[E61],[E62],[E61,E62,B1M],[B1M,C6c],[E63],[E63,C6d],[E64],[C6d,E64,B1N],[C6c,B1N,B1L],[B1L,C6b],[C6b,C6a],[C6a,C6Z],[E65],[E66],[E65,E66,B1P],[B1P,C6h],[E67],[E67,C6i],[E68],[C6i,E68,B1Q],[C6h,B1Q,B1O],[B1O,C6g],[C6g,C6f],[C6f,C6e],[C6Z,C6e,B1K],[C6U,B1K,B1G],[C6P,B1G,B1C],[C6K,B1C,B08],[D4Z,B08,B5K],[B5K,D4Y]]
end
end Go.Vab

namespace Go.Vab
open Go Go.Proofs
theorem P9 {G X:Prop} (f:Hd X→G:=by
 intro xX
 repeat' (first|refine stp (x:=?_)|(simp (decide:=true) only [G2z,snB,if_true,if_false])|(with_reducible refine F7M _ _ _ ?_)|(with_reducible refine F7N _ _ _ ?_))
 exact xX.get) (x:X):G:=f ⟨x⟩
attribute [local irreducible] E9 Evs gW D9 E8 G5
theorem c19 {κ:Nat→Nat} {H:A3} {z:Stt} {vt vp vs vi va vb:AV} (w:Wp κ H z vt vp vs vi va vb):SpecQ Tryz.prog 19 [eSt z vt vp vs vi va vb] H fun r=>∃ H' u,r=(.tuple [],H'++u)∧Sp κ H H' z vt vp vs vi va vb:=by
 have tz:=w.str.cells
 have ki:=w.fi.len
 have kb:=w.fb.len
 have ks:=w.fs.len
 have ka:=w.fa.len
 have kt:=w.ft.len
 have kp:=w.fp.len
 have mi:=w.fi.le
 have mb:=w.fb.le
 have ms:=w.fs.le
 have ma:=w.fa.le
 have mt:=w.ft.b.bound
 have mp:=w.fp.b.bound
 refine q19 fun env g0=>?_
 have ff:=aI g0 tz
 refine P9 (x:=?_)
 clear ff
 have sp:=Sp.refl w
 obtain ⟨H0,hH0⟩:∃ H0,H0=H:=⟨_,rfl⟩
 rw [←hH0] at sp ⊢
 have e1:((env.put 1 (.ptr H0.length 0 [] A6)).put 2 (nat 0)).get 1=.ptr H0.length 0 [] A6:=by simp
 have e2:((env.put 1 (.ptr H0.length 0 [] A6)).put 2 (nat 0)).get 2=nat 0:=by simp
 refine G0 z.invites.length (fun i st=>∃ env' H',st=⟨env',H'++[⟨eSt z vt vp vs vi va vb,0,.own⟩]⟩∧env'.get 1=.ptr H'.length 0 [] A6∧env'.get 2=nat i∧Sp κ H0 H' z vt vp vs vi va vb) ?_ ?_ ⟨_,_,rfl,by simp [e1],by simp,sp⟩
 ·rintro i st hi ⟨env',H',rfl,e1,e2,sp⟩
  obtain ⟨b,v,n,p1,p2,p3,p4,p5⟩:=sp.inv hi
  obtain ⟨v',q1,q2⟩:=p5 (n+1)
  have q3:=A7d n
  have ff:=L5 e1 e2 tz ki mi mb ms ma mt mp hi p1 p2 p3 p4 q1 q3
  refine P9 (x:=?_)
  clear ff
  exact .inl ⟨by simp,_,_,rfl,by simp [e1],by simp,q2⟩
 rintro st ⟨env',H',rfl,e1,e2,sp⟩
 have ff:=E3 e1 e2 tz ki mi mb ms ma mt mp
 refine P9 (x:=?_)
 clear ff
 refine ⟨by simp,?_⟩
 have ff:=e1
 refine P9 (x:=?_)
 clear ff
 refine G0 z.bans.length (fun i st=>∃ env' H',st=⟨env',H'++[⟨eSt z vt vp vs vi va vb,0,.own⟩]⟩∧env'.get 1=.ptr H'.length 0 [] A6∧env'.get 3=nat i∧Sp κ H0 H' z vt vp vs vi va vb) ?_ ?_ ⟨_,_,rfl,by simp [e1],by simp,sp⟩
 ·rintro i st hi ⟨env',H',rfl,e1,e2,sp⟩
  obtain ⟨b,v,n,p1,p2,p3,p4,p5⟩:=sp.bn hi
  obtain ⟨v',q1,q2⟩:=p5 (n+1)
  have q3:=A7d n
  have ff:=L5 e1 e2 tz kb mi mb ms ma mt mp hi p1 p2 p3 p4 q1 q3
  refine P9 (x:=?_)
  clear ff
  exact .inl ⟨by simp,_,_,rfl,by simp [e1],by simp,q2⟩
 rintro st ⟨env',H',rfl,e1,e2,sp⟩
 have ff:=E3 e1 e2 tz kb mi mb ms ma mt mp
 refine P9 (x:=?_)
 clear ff
 refine ⟨by simp,?_⟩
 have ff:=e1
 refine P9 (x:=?_)
 clear ff
 refine G0 z.title.length (fun i st=>∃ env' H',st=⟨env',H'++[⟨eSt z vt vp vs vi va vb,0,.own⟩]⟩∧env'.get 1=.ptr H'.length 0 [] A6∧env'.get 4=nat i∧Sp κ H0 H' z vt vp vs vi va vb) ?_ ?_ ⟨_,_,rfl,by simp [e1],by simp,sp⟩
 ·rintro i st hi ⟨env',H',rfl,e1,e2,sp⟩
  obtain ⟨b,v,n,p1,p2,p3,p4,p5⟩:=sp.ttl hi
  obtain ⟨v',q1,q2⟩:=p5 (n+1)
  have q3:=A7d n
  have ff:=L5 e1 e2 tz kt mi mb ms ma mt mp hi p1 p2 p3 p4 q1 q3
  refine P9 (x:=?_)
  clear ff
  exact .inl ⟨by simp,_,_,rfl,by simp [e1],by simp,q2⟩
 rintro st ⟨env',H',rfl,e1,e2,sp⟩
 have ff:=E3 e1 e2 tz kt mi mb ms ma mt mp
 refine P9 (x:=?_)
 clear ff
 refine ⟨by simp,?_⟩
 have ff:=e1
 refine P9 (x:=?_)
 clear ff
 refine G0 z.pass.length (fun i st=>∃ env' H',st=⟨env',H'++[⟨eSt z vt vp vs vi va vb,0,.own⟩]⟩∧env'.get 1=.ptr H'.length 0 [] A6∧env'.get 5=nat i∧Sp κ H0 H' z vt vp vs vi va vb) ?_ ?_ ⟨_,_,rfl,by simp [e1],by simp,sp⟩
 ·rintro i st hi ⟨env',H',rfl,e1,e2,sp⟩
  obtain ⟨b,v,n,p1,p2,p3,p4,p5⟩:=sp.psw hi
  obtain ⟨v',q1,q2⟩:=p5 (n+1)
  have q3:=A7d n
  have ff:=L5 e1 e2 tz kp mi mb ms ma mt mp hi p1 p2 p3 p4 q1 q3
  refine P9 (x:=?_)
  clear ff
  exact .inl ⟨by simp,_,_,rfl,by simp [e1],by simp,q2⟩
 rintro st ⟨env',H',rfl,e1,e2,sp⟩
 have ff:=E3 e1 e2 tz kp mi mb ms ma mt mp
 refine P9 (x:=?_)
 clear ff
 refine ⟨by simp,?_⟩
 have ff:=e1
 refine P9 (x:=?_)
 clear ff
 refine G0 z.seats.length (fun i st=>∃ env' H',st=⟨env',H'++[⟨eSt z vt vp vs vi va vb,0,.own⟩]⟩∧env'.get 1=.ptr H'.length 0 [] A6∧env'.get 6=nat i∧Sp κ H0 H' z vt vp vs vi va vb) ?_ ?_ ⟨_,_,rfl,by simp [e1],by simp,sp⟩
 ·rintro i st hi ⟨env',H',rfl,e1,e2,sp⟩
  obtain ⟨b,v,n,p1,p2,p3,p4,p5⟩:=sp.st hi
  obtain ⟨v',q1,q2⟩:=p5 (n+1)
  have q3:=D9g n
  have ff:=L5 e1 e2 tz ks mi mb ms ma mt mp hi p1 p2 p3 p4 q1 q3
  refine P9 (x:=?_)
  clear ff
  exact .inl ⟨by simp,_,_,rfl,by simp [e1],by simp,q2⟩
 rintro st ⟨env',H',rfl,e1,e2,sp⟩
 have ff:=E3 e1 e2 tz ks mi mb ms ma mt mp
 refine P9 (x:=?_)
 clear ff
 refine ⟨by simp,?_⟩
 have ff:=e1
 refine P9 (x:=?_)
 clear ff
 refine G0 z.asks.length (fun i st=>∃ env' H',st=⟨env',H'++[⟨eSt z vt vp vs vi va vb,0,.own⟩]⟩∧env'.get 1=.ptr H'.length 0 [] A6∧env'.get 7=nat i∧Sp κ H0 H' z vt vp vs vi va vb) ?_ ?_ ⟨_,_,rfl,by simp [e1],by simp,sp⟩
 ·rintro i st hi ⟨env',H',rfl,e1,e2,sp⟩
  obtain ⟨b,v,n,p1,p2,p3,p4,p5⟩:=sp.ak hi
  obtain ⟨v',q1,q2⟩:=p5 (n+1)
  have q3:=D9g n
  have ff:=L5 e1 e2 tz ka mi mb ms ma mt mp hi p1 p2 p3 p4 q1 q3
  refine P9 (x:=?_)
  clear ff
  exact .inl ⟨by simp,_,_,rfl,by simp [e1],by simp,q2⟩
 rintro st ⟨env',H',rfl,e1,e2,sp⟩
 have ff:=E3 e1 e2 tz ka mi mb ms ma mt mp
 refine P9 (x:=?_)
 clear ff
 refine ⟨by simp,?_⟩
 have ff:=e1
 refine P9 (x:=?_)
 clear ff
 exact ⟨H',_,rfl,sp⟩
end Go.Vab

namespace Go.Vab
open Go
theorem F7O {s:Stt} {b:Pt} {a:Actn} {t:Stt} (h:I4 s b a=.ok t):E4 s=true∧S8 a=true∧a.version≠0#32∧a.version - 1#32=s.version∧s.seats.length≠0∧∃ z,madeP s b a=.ok z∧t={ z with version:=a.version }:=by
 unfold I4 at h
 split at h
 ·cases h
 rename_i h1
 split at h
 ·cases h
 rename_i h2
 split at h
 ·cases h
 rename_i h3
 have hs:E4 s=true:=by cases q:E4 s;exact absurd (.inl q) h1;rfl
 have ha:S8 a=true:=by cases q:S8 a;exact absurd (.inr q) h1;rfl
 refine ⟨hs,ha,fun q=>h2 (.inl q),Classical.byContradiction fun q=>h2 (.inr q),h3,?_⟩
 cases hm:madeP s b a with
 | error e=>rw [hm] at h;cases h
 | ok z=>rw [hm] at h;exact ⟨z,rfl,by cases h;rfl⟩
theorem F7P {s:Stt} {e:Pt} (h:¬ (1≤(Q2 s e).1∧(Q2 s e).1≤3)):fnd fS s.seats e=none∧fnd fI s.invites e=none∧fnd fA s.asks e=none:=by
 unfold Q2 at h
 cases h1:fnd fS s.seats e with
 | some x=>rw [h1] at h;exact absurd ⟨Nat.le_refl _,by simp⟩ h
 | none =>
  rw [h1] at h
  cases h2:fnd fI s.invites e with
  | some x=>rw [h2] at h;exact absurd ⟨by simp,by simp⟩ h
  | none =>
   rw [h2] at h
   cases h3:fnd fA s.asks e with
   | some x=>rw [h3] at h;exact absurd ⟨by simp,by simp⟩ h
   | none=>exact ⟨rfl,rfl,rfl⟩
theorem E1X {X:Type} {f:X→Pt} {l:List X} {e:Pt} (h:fnd f l e=none):A8 f l e=false:=by simp [A8,h]
theorem F8Z {s:Stt} {e:Pt} (h1:fnd fS s.seats e=none) (h2:fnd fI s.invites e=none) (h3:fnd fA s.asks e=none) (h4:A8 fB s.bans e=false):Q2 s e=(0,0#64,pt0):=by
 simp [Q2,h1,h2,h3,S0 h4]
theorem F5e {s:Stt} {b:Pt} {a:Actn} {t:Stt} (h:I4 s b a=.ok t) (hp:¬ (1≤(Q2 s b).1∧(Q2 s b).1≤3)):(Q2 s b).1=0∧(a.kind=9#8∨a.kind=10#8)∧0 < s.pass.length∧a.pass=s.pass∧a.who.e=b:=by
 obtain ⟨hs,ha,_,_,_,z,hz,_⟩:=F7O h
 obtain ⟨q1,q2,q3⟩:=F7P hp
 have r0:D0 s b=0#8:=D7P q1
 have hA:O7 s b a.role=false:=by
  cases q:O7 s b a.role
  ·rfl
  ·exact absurd r0 (adds_iff.1 q).1
 have n2:¬ ((0#8:BitVec 8)=2#8):=by decide
 have fin:a.who.e=b→A8 fB s.bans b=false→V5 s a=true→(a.kind=9#8∨a.kind=10#8)→(Q2 s b).1=0∧(a.kind=9#8∨a.kind=10#8)∧0 < s.pass.length∧a.pass=s.pass∧a.who.e=b:=by
  intro hw hb hpw hk
  unfold V5 at hpw
  simp only [Bool.and_eq_true,decide_eq_true_eq] at hpw
  exact ⟨by rw [F8Z q1 q2 q3 hb],hk,hpw.1,hpw.2.symm,hw⟩
 rcases mayA_kind ha with hk|hk|hk|hk|hk|hk|hk|hk|hk|hk|hk|hk|hk|hk|hk|hk|hk|hk
 all_goals try (exfalso;simp [madeP,hk,hA,r0,q2,E1X q2,E1X q3] at hz;done)
 ·simp only [madeP,hk,r0] at hz
  simp only [show ¬ (9#8:BitVec 8)=1#8 by decide,show ¬ (9#8:BitVec 8)=5#8 by decide,show ¬ (9#8:BitVec 8)=2#8 by decide,show ¬ (9#8:BitVec 8)=3#8 by decide,show ¬ (9#8:BitVec 8)=12#8 by decide,show ¬ (9#8:BitVec 8)=13#8 by decide,show ¬ (9#8:BitVec 8)=14#8 by decide,show ¬ (9#8:BitVec 8)=15#8 by decide,show ¬ (9#8:BitVec 8)=4#8 by decide,show ¬ (9#8:BitVec 8)=6#8 by decide,show ¬ (9#8:BitVec 8)=7#8 by decide,show ¬ (9#8:BitVec 8)=8#8 by decide,if_false,if_true] at hz
  split at hz
  ·cases hz
  rename_i hw
  split at hz
  ·cases hz
  rename_i hb
  split at hz
  ·cases hz
  split at hz
  ·cases hz
  split at hz
  ·cases hz
  rename_i hpw
  exact fin (Classical.byContradiction hw) (by simpa using hb) (by simpa using hpw) (.inl hk)
 ·simp only [madeP,hk,r0] at hz
  simp only [show ¬ (10#8:BitVec 8)=1#8 by decide,show ¬ (10#8:BitVec 8)=5#8 by decide,show ¬ (10#8:BitVec 8)=2#8 by decide,show ¬ (10#8:BitVec 8)=3#8 by decide,show ¬ (10#8:BitVec 8)=12#8 by decide,show ¬ (10#8:BitVec 8)=13#8 by decide,show ¬ (10#8:BitVec 8)=14#8 by decide,show ¬ (10#8:BitVec 8)=15#8 by decide,show ¬ (10#8:BitVec 8)=4#8 by decide,show ¬ (10#8:BitVec 8)=6#8 by decide,show ¬ (10#8:BitVec 8)=7#8 by decide,show ¬ (10#8:BitVec 8)=8#8 by decide,show ¬ (10#8:BitVec 8)=9#8 by decide,if_false,if_true] at hz
  split at hz
  ·cases hz
  rename_i hw
  split at hz
  ·cases hz
  rename_i hb
  split at hz
  ·cases hz
  split at hz
  ·cases hz
  split at hz
  ·cases hz
  rename_i hpw
  exact fin (Classical.byContradiction hw) (by simpa using hb) (by simpa using hpw) (.inr hk)
end Go.Vab

namespace Go.Vab
open Go Go.Proofs
noncomputable section
def F3S:Ctx:=⟨fun _ _ _ => none,TT,12,[4,5,6,7,8,9,10,11]⟩
def D4d:=B8 Tryz.f27
def D4e:=cR D4d
def D4f:=cR D4e
def D4g:=cR D4f
def D4h:=cR D4g
def F1w:=cR D4h
def q27:=zQ1 F3S 27 Tryz.f27 D4d fun s=>(bnd (D6 C3 (s.env.get 2) s.heap) fun v=>bnd (some []) fun vs=>some (v::vs))
def G20:=B3 F3S [[F1w],[F1w,D4h],[D4h,D4g],[D4g,D4f],[D4f,D4e],[D4e,D4d]]
end
end Go.Vab

namespace Go.Vab
open Go Go.Proofs
noncomputable section
def F3T:Ctx:=⟨fun _ _ _ => none,TT,16,[4,5,6,7,8,9,10,11,12,13,14,15]⟩
def D4i:=B8 Tryz.f22
def D4j:=cR D4i
def D4k:=cR D4j
def F1x:=cR D4k
def q22:=zQ0 F3T 22 Tryz.f22 D4i fun s=>(bnd (D6 A6 (s.env.get 0) s.heap) fun v=>bnd (bnd (some (s.env.get 1)) fun v=>bnd (some []) fun vs=>some (v::vs)) fun vs=>some (v::vs))
def F3U:=B3 F3T [[F1x],[F1x,D4k],[D4k,D4j],[D4j,D4i]]
end
end Go.Vab

namespace Go.Vab
open Go Go.Proofs
noncomputable section
def A04:Ctx:=⟨fun _ _ _ => none,TT,60,[5,7,8,9,10,11,12,13,14,15,16,17,18,19,20,21,22,23,24,25,26,27,28,29,30,31,32,33,34,35,36,37,38,39,40,41,42,43,44,45,46,47,48,49,50,51,52,53,54,55,56,57,58,59]⟩
def D4l:=B8 Tryz.f10
def D4m:=cR D4l
def B5N:=cR D4m
def B5O:=cR B5N
def B5P:=cR B5O
def F1y:=cR B5P
def q10:=zQ0 A04 10 Tryz.f10 D4l fun s=>(bnd (some (s.env.get 0)) fun v=>bnd (some []) fun vs=>some (v::vs))
def E1Y:=zDr A04 [F1y,B5P] [] [0,1,3,7,15,31,63,127,255,511,1023,2047,4095,8191,16383,32767,65535,131071,4095,266239,1048575,2097151,4194303,8388607,16777215,33554431,67108863,134217727,268435455,536870911,1073741823,2147483647] [0,1,2,3,4,5,6,7,8,9,10,11,12,13,14,15,16,17,18,19,20,21,22,23,24,25,26,27,28,29,30,31] .f
def B9Y:=zDr A04 [B5P,B5O] [5,9,10] [0,0,2,2,10,31,63,127,127,0,767,2047] [0,1,2,3,4] (.b 5 [6,7,8] [] (.o 9 [] [0,1,3] (.o 10 [11] [] .f)) (.o 9 [] [0,1,3] (.o 5 [6,7,8] [] (.o 10 [11] [] .f))))
def B9Z:=zDr A04 [B5O,B5N] [5,9,10] [0,0,2,2,10,31,63,127,127,0,767,2047] [0,1,2,3,4] (.b 5 [6,7,8] [] (.o 9 [] [0,1,3] (.o 10 [11] [] .f)) (.o 9 [] [0,1,3] (.o 5 [6,7,8] [] (.o 10 [11] [] .f))))
def A2z:=B3 A04 [[F1y],[B5N,D4m],[D4m,D4l]]
end
end Go.Vab

namespace Go.Vab
open Go Go.Proofs
noncomputable section
def cx9:Ctx:=⟨fun _ _ _ => none,TT,41,[6,7,8,9,10,11,12,13,14,15,16,17,18,19,20,21,22,23,24,25,26,27,28,29,30,31,32,33,34,35,36,37,38,39,40]⟩
def D6i:=B8 Tryz.f9
def D6j:=cR D6i
def D6k:=cR D6j
def F3V:=cR D6k
def q9:=zQ2 cx9 9 Tryz.f9 D6i fun s=>(bnd (some (s.env.get 4)) fun v=>bnd (some []) fun vs=>some (v::vs))
def sn9:=B3 cx9 [[F3V],[F3V,D6k],[D6k,D6j],[D6j,D6i]]
end
end Go.Vab

namespace Go.Vab
open Go Go.Proofs
theorem A4y {G X:Prop} (f:Hd X→G:=by
 intro xX
 repeat' (first|refine stp (x:=?_)|(simp (decide:=true) only [G2y,snB,if_true,if_false]))
 exact xX.get) (x:X):G:=f ⟨x⟩
theorem F5f {G X:Prop} (f:Hd X→G:=by
 intro xX
 repeat' (first|refine stp (x:=?_)|(simp (decide:=true) only [G20,snB,if_true,if_false]))
 exact xX.get) (x:X):G:=f ⟨x⟩
theorem D8W {G X:Prop} (f:Hd X→G:=by
 intro xX
 repeat' (first|refine stp (x:=?_)|(simp (decide:=true) only [sn9,snB,if_true,if_false]))
 exact xX.get) (x:X):G:=f ⟨x⟩
theorem F5g {G X:Prop} (f:Hd X→G:=by
 intro xX
 repeat' (first|refine stp (x:=?_)|(with_reducible refine SpecQ.step (c27) ?_;rintro _ rfl;try dsimp only)|(simp (decide:=true) only [F3U,snB,if_true,if_false]))
 exact xX.get) (x:X):G:=f ⟨x⟩
theorem F5h {G X:Prop} (f:Hd X→G:=by
 intro xX
 repeat' (first|refine stp (x:=?_)|(simp (decide:=true) only [F3U,snB,if_true,if_false]))
 exact xX.get) (x:X):G:=f ⟨x⟩
theorem F5i {G X:Prop} (f:Hd X→G:=by
 intro xX
 repeat' (first|refine stp (x:=?_)|(with_reducible refine I0 ?_ ?_)|(with_reducible refine A5 (c27) ?_;try dsimp only)|(with_reducible refine SpecQ.step (c27) ?_;rintro _ rfl;try dsimp only)|(with_reducible refine B6 (c27) ?_)|(simp (decide:=true) only [A2z,snB,if_true,if_false])|(with_reducible refine E1Y _ _ _ ?_)|(with_reducible refine B9Y _ _ _ ?_)|(with_reducible refine B9Z _ _ _ ?_))
 exact xX.get) (x:X):G:=f ⟨x⟩
theorem A4z {G X:Prop} (f:Hd X→G:=by
 intro xX
 repeat' (first|refine stp (x:=?_)|(with_reducible refine I0 ?_ ?_)|(with_reducible refine A5 (c27) ?_;try dsimp only)|(with_reducible refine SpecQ.step (c27) ?_;rintro _ rfl;try dsimp only)|(with_reducible refine B6 (c27) ?_)|(simp (decide:=true) only [A2z,snB,if_true,if_false]))
 exact xX.get) (x:X):G:=f ⟨x⟩
theorem F5j {G X:Prop} (f:Hd X→G:=by
 intro xX
 repeat' (first|refine G0h (x:=?_)|(with_reducible refine I0 ?_ ?_)|(simp (decide:=true) only [A2z,snB,if_true,if_false])|(with_reducible refine E1Y _ _ _ ?_)|(with_reducible refine B9Y _ _ _ ?_)|(with_reducible refine B9Z _ _ _ ?_))
 exact xX.get) (x:X):G:=f ⟨x⟩
theorem F5k {G X:Prop} (f:Hd X→G:=by
 intro xX
 repeat' (first|refine stp (x:=?_)|(with_reducible refine I0 ?_ ?_)|(simp (decide:=true) only [A2z,snB,if_true,if_false]))
 exact xX.get) (x:X):G:=f ⟨x⟩
attribute [local irreducible] E9 Evs gW D9 E8 G5
@[simp] theorem G7n (z:Ci) (c:BitVec 8):(eCi z).put [0,0] (u8 c)=some (eCi ⟨A0S z.e c,z.f⟩):=by simp [eCi,-A47]
@[simp] theorem G7o (z:Ci) (c:BitVec 8):(eCi z).put [1,0] (u8 c)=some (eCi ⟨z.e,A0S z.f c⟩):=by simp [eCi,-A47]
@[simp] theorem G9Y {α:Type} (x:Option α):ifY Tryz.prog 27 x=x:=F7y ⟨5,by kernel_rfl,by kernel_rfl⟩ x
@[simp] theorem G8a (a b:BitVec 8):G4 F7 (J8 D4) [(0,u8 a),(1,u8 b)]=some (J8 ⟨a,b,0#8⟩):=by simp [G4,J8,D4,-F4v,-F4x]
@[simp] theorem G7p (v:BitVec 32) (k r k':BitVec 8) (w:Ci) (e:Pt) (c:Acc) (x y:AV):(E5 v k w e r c x y).put [1] (u8 k')=some (E5 v k' w e r c x y):=by simp [E5,-A06]
@[simp] theorem G8b (c:Ci):D7 C3 (eCi c) 0=some (pt c.e):=by simp [eCi,-A47]
@[simp] theorem G8c (v:BitVec 32) (k r:BitVec 8) (w:Ci):G4 D5 (E5 0#32 0#8 ci0 pt0 0#8 D4 .nilslice .nilslice) [(0,u32 v),(1,u8 k),(2,eCi w),(4,u8 r)]=some (E5 v k w pt0 r D4 .nilslice .nilslice):=by
 simp [G4]
theorem A0t {T:Ty} {ts:List Ty} (hT:T=.struct ts) (H:A3):Row T H .nilslice []:=by subst hT;exact ⟨by simp [C7],rfl,by simp⟩
theorem F8a {H:A3} {b:Nat} {x:Seat} (h:H[b]?=some ⟨.node [B0 x],0,.own⟩):Row A7 H (.slice b 0 [] A7 0 1 (some 1)) [B0 x]:=by
 have:=M3 (t:=A7) (E:=B0) (b:=b) (off:=0) (n:=1) (c:=some 1) (xs:=[x]) h (by simp)
 exact ⟨by simpa using this,⟨rfl,by simp,rfl⟩,by simp⟩
theorem c20 {h:A3} {k c:Ci} {t p:Bs} {ac:Acc} {vt vp:AV} (rt:BytL h vt t) (rp:BytL h vp p):SpecQ Tryz.prog 20 [eCi k,vt,J8 ac,vp,eCi c] h (PR h (A2Y k t ac p c)):=by
 have t1:=rt.cell
 have t2:=rp.cell
 refine q20 fun env g0 g1 g2 g3 g4=>?_
 have ff:=aI7 g0 g1 g2 g3 g4 t1 t2
 refine A4y (x:=?_)
 clear ff
 obtain ⟨l,hl⟩:∃ l:A3,l=[⟨eCi k,0,.own⟩,⟨J8 ac,0,.own⟩,⟨eCi c,0,.own⟩,⟨R6,0,.own⟩,⟨.node [B0 ⟨c,2#8,0#32⟩],0,.own⟩,⟨C1 0#32 k ac vt vp (.slice (h.length+4) 0 [] A7 0 1 (some 1)) .nilslice .nilslice .nilslice,0,.own⟩]:=⟨_,rfl⟩
 have hb:(h++l)[h.length+4]?=some ⟨.node [B0 ⟨c,2#8,0#32⟩],0,.own⟩:=by rw [List.getElem?_append_right (by omega),hl];simp
 have rs:StR (h++l) (A0r k t ac p c) vt vp (.slice (h.length+4) 0 [] A7 0 1 (some 1)) .nilslice .nilslice .nilslice:=⟨rt.app _,rp.app _,F8a hb,A0t a9 _,A0t i9 _,A0t j0 _⟩
 rw [hl] at rs
 refine SpecQ.step (c28 rs) ?_
 rintro _ rfl
 dsimp only
 cases hm:E4 (A0r k t ac p c)
 ·have e:A2Y k t ac p c=.error 2:=by simp [A2Y,hm]
  rw [e]
  have ff:=aI3 g0 t1 t2
  refine A4y (x:=?_)
  clear ff
  exact ⟨_,rfl⟩
 ·have e:A2Y k t ac p c=.ok (A0r k t ac p c):=by simp [A2Y,hm]
  rw [e]
  have ff:=aI3 g0 t1 t2
  refine A4y (x:=?_)
  clear ff
  obtain ⟨n,hn⟩:∃ n,n=h.length+3:=⟨_,rfl⟩
  obtain ⟨κ0,hκ⟩:∃ κ0:Nat→Nat,κ0=fun i=>if i=n then 6 else 0:=⟨_,rfl⟩
  refine SpecQ.step (c30 (κ:=κ0) rs (fun i hi=>by rw [hκ];simp only [List.length_append,List.length_cons,List.length_nil] at hi ⊢;rw [if_neg (by omega)]) (fun i _ => by rw [hκ];simp only;split <;> simp) (by simp) (by simp) (by simp) (by simp)) ?_
  rintro _ ⟨κ1,H1,ut,up,us,ui,ua,ub,rfl,wp1,f1⟩
  have F0:Fr (fun _ => 0) h κ0 (h++l):=⟨by simp,fun i hi=>by rw [hκ];simp only;rw [if_neg (by omega)],fun i hi _ => List.getElem?_append_left hi⟩
  rw [←hl] at f1
  have F1:=F0.trans f1
  have c3:=f1.blk (i:=n) (b:=⟨R6,0,.own⟩) (by rw [hn,List.getElem?_append_right (by omega),hl];simp) (.inr (by rw [hκ];simp))
  have k1:κ1 n=6:=(f1.old _ (by rw [hn,hl];simp)).trans (by rw [hκ];simp)
  have tu:=wp1.str.cells
  have b3:=A9 c3
  have b4:∀ v:AV,blkAt (H1.set n ⟨v,0,.own⟩) n 0=some ⟨v,0,.own⟩:=fun v=>A9 (A0q c3 _)
  rw [←hn]
  have ff:=aI3 b3 b4 tu
  refine A4y (x:=?_)
  clear ff
  obtain ⟨u,hu⟩:=(F1.wr (p:=n) (by omega) (⟨eSt (A0r k t ac p c) ut up us ui ua ub,0,.own⟩:Blk)).pre (H:=h) fun _ _ => rfl
  have wf:=wp1.wr (.inl k1) (⟨eSt (A0r k t ac p c) ut up us ui ua ub,0,.own⟩:Blk)
  exact ⟨κ1,u,ut,up,us,ui,ua,ub,by rw [←hu];rfl,by rw [←hu];exact wf,fun i hi=>F1.old i hi⟩
theorem c27 {h:A3} {c:BitVec 8}:SpecQ Tryz.prog 27 [u8 c] h fun r=>r=(eCi (i5 c),h):=by
 refine SpecQ.drop1 rfl (q27 fun env g0=>?_)
 have ff:=g0
 refine F5f (x:=?_)
 clear ff
 exact ⟨_,rfl⟩
theorem c9 {h:A3} {s:Stt} {vt vp vs vi va vb:AV} {a:Actn} {wt wp:AV} (ra:StR h s vt vp vs vi va vb) (rc:ActR h a wt wp):SpecQ Tryz.prog 9 [eSt s vt vp vs vi va vb,C5 a wt wp] h fun r=>r=(.bool (A2Z s a),h):=by
 have ta:=ra.cells
 have tc:=rc.cells
 have l1:=ra.fs.len
 have l2:=ra.fi.len
 have l3:=ra.fa.len
 have l4:=ra.fb.len
 have l5:=ra.ft.len
 have l6:=ra.fp.len
 have l7:=rc.t.len
 have l8:=rc.p.len
 have m1:=ra.fs.bound
 have m2:=ra.fi.bound
 have m3:=ra.fa.bound
 have m4:=ra.fb.bound
 have m5:=ra.ft.bound
 have m6:=ra.fp.bound
 have m7:=rc.t.bound
 have m8:=rc.p.bound
 rw [List.length_map] at l1 l2 l3 l4 m1 m2 m3 m4
 have d1:C6 .add (nat s.seats.length) (nat s.invites.length)=some (nat (s.seats.length+s.invites.length)):=Q0 (by omega)
 have d2:C6 .add (nat (s.seats.length+s.invites.length)) (nat s.asks.length)=some (nat (s.seats.length+s.invites.length+s.asks.length)):=Q0 (by omega)
 have d3:C6 .add (nat (s.seats.length+s.invites.length+s.asks.length)) (nat s.bans.length)=some (nat (s.seats.length+s.invites.length+s.asks.length+s.bans.length)):=Q0 (by omega)
 have d4:C6 .add (nat s.title.length) (nat s.pass.length)=some (nat (s.title.length+s.pass.length)):=Q0 (by omega)
 have d5:C6 .add (nat (s.title.length+s.pass.length)) (nat a.title.length)=some (nat (s.title.length+s.pass.length+a.title.length)):=Q0 (by omega)
 have d6:C6 .add (nat (s.title.length+s.pass.length+a.title.length)) (nat a.pass.length)=some (nat (s.title.length+s.pass.length+a.title.length+a.pass.length)):=Q0 (by omega)
 clear m1 m2 m3 m4 m5 m6 m7 m8
 refine SpecQ.drop1 rfl (q9 fun env g0 g1=>?_)
 by_cases h1:400 < s.seats.length+s.invites.length+s.asks.length+s.bans.length
 ·have ff:=A0R g0 g1 ta tc l1 l2 l3 l4 l5 l6 l7 l8 d1 d2 d3 d4 d5 d6 h1
  refine D8W (x:=?_)
  clear ff
  exact ⟨_,by simp only [A2Z,h1,decide_true,Bool.true_or];rfl⟩
 ·have ff:=A0R g0 g1 ta tc l1 l2 l3 l4 l5 l6 l7 l8 d1 d2 d3 d4 d5 d6 h1
  refine D8W (x:=?_)
  clear ff
  exact ⟨_,by simp only [A2Z,h1,decide_false,Bool.false_or];rfl⟩
theorem c22 {h:A3}:SpecQ Tryz.prog 22 [] h fun r=>∃ t vt vp vs vi va vb,r=(.tuple [eSt gS vt vp vs vi va vb,.bool true],h++t)∧StR (h++t) gS vt vp vs vi va vb∧∀ y∈[vt,vp,vs,vi,va,vb],∀ b,rb y=some b→h.length≤b:=by
 refine q22 fun env=>?_
 have mk:A2h (.slice (h.length+1) 0 [] (.int .u8) 0 1 (some 1)) (h++[⟨R6,0,.own⟩,⟨arr 1 fun _ => 116#8,0,.own⟩])=some (.slice (h.length+1) 0 [] (.int .u8) 0 1 (some 1),h++[⟨R6,0,.own⟩,⟨arr 1 fun _ => 116#8,0,.ro⟩]):=by
  simp [A2h,a7,Ty.size]
 have ff:=mk
 refine F5g (x:=?_)
 clear ff
 have hb:BytL (h++[⟨R6,0,.own⟩,⟨arr 1 fun _ => 116#8,0,.ro⟩]) (.slice (h.length+1) 0 [] (.int .u8) 0 1 (some 1)) [116#8]:=by
  refine ⟨⟨?_,rfl,Nat.le_refl _,rfl⟩,by simp⟩
  simp [a7]
  exact A0G fun i hi=>by
   have:i=0:=by omega
   subst this;rfl
 refine SpecQ.step (c20 hb (BytL.nil _)) ?_
 rintro _ hr
 rw [F8G] at hr
 obtain ⟨κ,t,vt,vp,vs,vi,va,vb,rfl,w,h0⟩:=hr
 have tv:=w.str.cells
 have ho:=w.own h0
 have hs:=w.str
 simp only [List.append_assoc,List.cons_append,List.nil_append] at hs ⊢
 have ff:=tv
 refine F5h (x:=?_)
 clear ff
 refine ⟨_,vt,vp,vs,vi,va,vb,rfl,(hs.app [⟨eSt gS vt vp vs vi va vb,0,.own⟩]).other fun y hy b hb=>?_,fun y hy b hb=>?_⟩
 ·have:=ho y hy b hb
  simp at this
  have e:∀ c0 c1 c2:Blk,h++c0::c1::t++[c2]=h++([]++c0::(c1::(t++[c2]))):=fun c0 c1 c2=>by simp
  rw [e]
  exact A2A (A:=[]) (by simp;omega)
 ·have:=ho y hy b hb
  simp at this
  omega
theorem G21:gT.version=1#32:=rfl
theorem B6D:gT.seats=[⟨i5 97#8,2#8,0#32⟩,⟨i5 98#8,1#8,1#32⟩]:=rfl
structure Kn (H:A3) (env:Env) (p:Nat) (vt vp vs vi va vb:AV):Prop where
 e2:env.get 2=.bool true
 e3:env.get 3=.ptr p 0 [] A6
 e4:env.get 4=nat 0
 c:H[p]?=some ⟨eSt gT vt vp vs vi va vb,0,.own⟩
 r:StR H gT vt vp vs vi va vb
theorem E1Z {H : A3} {env : Env} {p : Nat} {vt vp vs vi va vb : AV} {Q : AV × A3 → Prop} (hQ : ∀ t, Q (.bool true, H ++ t)) (k : Kn H env p vt vp vs vi va vb) (e6 : env.get 6 = nat 191) :
  wC Tryz.prog A04 B5P (K4 (fun s=>(bnd (some (s.env.get 0)) fun v=>bnd (some []) fun vs=>some (v::vs))) Q) ⟨env,H⟩:=by
 obtain ⟨e2,e3,e4,c,r⟩:=k
 have b3:=A9 c
 have lx:=r.fs.len
 rw [B6D] at lx
 simp only [List.map_cons,List.map_nil,List.length_cons,List.length_nil] at lx
 obtain ⟨pb,pv,pp,bb,i1,i2,i3,i4⟩:=r.fs.idxE (i:=1) (by rw [B6D];simp)
 have i20:blkAt H pb pv=some bb:=by simpa using i2 []
 have gv:=G21
 have gs:gT.seats[1]'(by rw [B6D];simp)=⟨i5 98#8,1#8,1#32⟩:=by simp [B6D]
 rw [gs] at i3 i4
 have ff:=E3 e2 e3 e4 e6 b3 lx i1 i20 i4 gv
 refine F5i (x:=?_)
 clear ff
 have:=hQ []
 rw [List.append_nil] at this
 exact this
theorem E1a {H : A3} {env : Env} {p : Nat} {vt vp vs vi va vb : AV} {Q : AV × A3 → Prop} (hQ : ∀ t, Q (.bool true, H ++ t)) (k : Kn H env p vt vp vs vi va vb) :
  wC Tryz.prog A04 B5O (K4 (fun s=>(bnd (some (s.env.get 0)) fun v=>bnd (some []) fun vs=>some (v::vs))) Q) ⟨env,H⟩:=by
 have b3:=A9 k.c
 have b3l:=fun u=>L6 (A9 k.c) u
 have e2:=k.e2
 have e3:=k.e3
 have e4:=k.e4
 have tv:=k.r.cells
 have hp:p < H.length:=(List.getElem?_eq_some_iff.1 k.c).1
 refine B9Y _ _ _ ?_
 repeat' (first|((with_reducible refine I6 (a:=?_) ?_ ?_);rotate_left;(focus ((conv=>lhs;simp (disch:=omega) [e3,b3,b3l,tv]);done));try dsimp only)|((with_reducible refine S6 ?_ ?_);(focus (simp (disch:=omega) [e3,b3,b3l,tv];done)))|((with_reducible refine T4 ?_ ?_);(focus (simp (disch:=omega) [e3,b3,b3l,tv];done));try dsimp only)|((with_reducible refine T5 ?_ ?_);(focus (simp (disch:=omega) [e3,b3,b3l,tv];done));try dsimp only)|((with_reducible refine B6 ?_ ?_);(focus (simp (disch:=omega) [e3,b3,b3l,tv];done)))|(with_reducible refine I0 ?_ ?_)|((with_reducible refine o9 ?_ ?_);(focus (simp (disch:=omega) [e3,b3,b3l,tv];done));try dsimp only)|((with_reducible refine s5 ?_ ?_);(focus (simp (disch:=omega) [e3,b3,b3l,tv];done));try dsimp only)|((with_reducible refine s6 ?_ ?_);(focus (simp (disch:=omega) [e3,b3,b3l,tv];done));try dsimp only)|(with_reducible refine A5 (c27) ?_;try dsimp only)|(with_reducible refine SpecQ.step (c27) ?_;rintro _ rfl;try dsimp only)|(with_reducible refine B6 (c27) ?_)|((with_reducible refine S3 (args':=?_) ?_ ?_);rotate_left;(focus ((conv=>lhs;simp (disch:=omega) [e3,b3,b3l,tv]);done)))|((with_reducible refine v7 (args':=?_) ?_ ?_);rotate_left;(focus ((conv=>lhs;simp (disch:=omega) [e3,b3,b3l,tv]);done)))|((with_reducible refine A0L (args':=?_) ?_ ?_);rotate_left;(focus ((conv=>lhs;simp (disch:=omega) [e3,b3,b3l,tv]);done)))|((with_reducible refine s7 (g:=?_) (caps:=?_) ?_ ?_);rotate_left;rotate_left;(focus ((conv=>lhs;simp (disch:=omega) [e3,b3,b3l,tv]);done)))|((with_reducible refine A0J (g:=?_) (caps:=?_) ?_ ?_);rotate_left;rotate_left;(focus ((conv=>lhs;simp (disch:=omega) [e3,b3,b3l,tv]);done)))|((with_reducible refine A0M ?_ ?_);(focus (simp (disch:=omega) [e3,b3,b3l,tv];done)))|(simp (decide:=true) only [A2z,J7,J4,I3,J3,I2,J2,J1,if_true,if_false,J5,J6])|((with_reducible refine P8 (b:=?_) ?_ ?_ ?_);rotate_left;(focus ((conv=>lhs;simp (disch:=omega) [e3,b3,b3l,tv]);done));all_goals ((intro hb;try simp only [Bool.not_true,Bool.not_false] at hb);try simp only [hb]))|((with_reducible refine W8 (b:=?_) ?_ ?_ ?_);rotate_left;(focus ((conv=>lhs;simp (disch:=omega) [e3,b3,b3l,tv]);done));all_goals ((intro hb;try simp only [Bool.not_true,Bool.not_false] at hb);try simp only [hb]))|(with_reducible refine P4 ?_ ?_ <;> (intro hb;try simp only [Bool.not_true,Bool.not_false] at hb) <;> try simp only [hb])|(with_reducible refine U8 ?_ ?_ <;> (intro hb;try simp only [Bool.not_true,Bool.not_false] at hb) <;> try simp only [hb])|(with_reducible refine A0V ?_ ?_ <;> (intro hb;try simp only [Bool.not_true,Bool.not_false] at hb) <;> try simp only [hb]))
 ·refine SpecQ.step (c13 (a:=kA 2#32 99#8) k.r ⟨BytL.nil _,BytL.nil _⟩) ?_
  rintro _ hr
  rw [E2U] at hr
  obtain ⟨t,rfl⟩:=hr
  have ff:=aI3 e3 b3l tv
  refine A4z (x:=?_)
  clear ff
  refine E1Z (env:=env.put 6 (nat 191)) (H:=H++(t++[⟨R6,0,.own⟩])) (fun t'=>?_) ⟨by simp [e2],by simp [e3],by simp [e4],U9 k.c _,k.r.app _⟩ (by simp)
  rw [List.append_assoc]
  exact hQ _
 ·refine SpecQ.step (c13 (a:=kA 2#32 99#8) (k.r.app [⟨R6,0,.own⟩]) ⟨BytL.nil _,BytL.nil _⟩) ?_
  rintro _ hr
  rw [E2U] at hr
  obtain ⟨t,rfl⟩:=hr
  have ff:=aI3 e3 b3l tv
  refine A4z (x:=?_)
  clear ff
  refine E1Z (env:=env.put 6 (nat 191)) (H:=H++⟨R6,0,.own⟩::t) (fun t'=>?_) ⟨by simp [e2],by simp [e3],by simp [e4],U9 k.c _,k.r.app _⟩ (by simp)
  rw [List.append_assoc]
  exact hQ _
theorem F8b {H : A3} {env : Env} {p : Nat} {vt vp vs vi va vb : AV} {Q : AV × A3 → Prop} (hQ : ∀ t, Q (.bool true, H ++ t)) (e1 : env.get 1 = .ptr p 0 [] A6) (e2 : env.get 2 = .bool true) (c : H[p]? = some ⟨eSt gS vt vp vs vi va vb, 0, .own⟩) (r : StR H gS vt vp vs vi va vb) :
  wC Tryz.prog A04 B5N (K4 (fun s=>(bnd (some (s.env.get 0)) fun v=>bnd (some []) fun vs=>some (v::vs))) Q) ⟨env,H⟩:=by
 have b3:=A9 c
 have b3l:=fun u=>L6 (A9 c) u
 have tv:=r.cells
 refine B9Z _ _ _ ?_
 repeat' (first|((with_reducible refine I6 (a:=?_) ?_ ?_);rotate_left;(focus ((conv=>lhs;simp (disch:=omega) [e1,e2,b3,b3l,tv]);done));try dsimp only)|((with_reducible refine S6 ?_ ?_);(focus (simp (disch:=omega) [e1,e2,b3,b3l,tv];done)))|((with_reducible refine T4 ?_ ?_);(focus (simp (disch:=omega) [e1,e2,b3,b3l,tv];done));try dsimp only)|((with_reducible refine T5 ?_ ?_);(focus (simp (disch:=omega) [e1,e2,b3,b3l,tv];done));try dsimp only)|((with_reducible refine B6 ?_ ?_);(focus (simp (disch:=omega) [e1,e2,b3,b3l,tv];done)))|(with_reducible refine I0 ?_ ?_)|((with_reducible refine o9 ?_ ?_);(focus (simp (disch:=omega) [e1,e2,b3,b3l,tv];done));try dsimp only)|((with_reducible refine s5 ?_ ?_);(focus (simp (disch:=omega) [e1,e2,b3,b3l,tv];done));try dsimp only)|((with_reducible refine s6 ?_ ?_);(focus (simp (disch:=omega) [e1,e2,b3,b3l,tv];done));try dsimp only)|(with_reducible refine A5 (c27) ?_;try dsimp only)|(with_reducible refine SpecQ.step (c27) ?_;rintro _ rfl;try dsimp only)|(with_reducible refine B6 (c27) ?_)|((with_reducible refine S3 (args':=?_) ?_ ?_);rotate_left;(focus ((conv=>lhs;simp (disch:=omega) [e1,e2,b3,b3l,tv]);done)))|((with_reducible refine v7 (args':=?_) ?_ ?_);rotate_left;(focus ((conv=>lhs;simp (disch:=omega) [e1,e2,b3,b3l,tv]);done)))|((with_reducible refine A0L (args':=?_) ?_ ?_);rotate_left;(focus ((conv=>lhs;simp (disch:=omega) [e1,e2,b3,b3l,tv]);done)))|((with_reducible refine s7 (g:=?_) (caps:=?_) ?_ ?_);rotate_left;rotate_left;(focus ((conv=>lhs;simp (disch:=omega) [e1,e2,b3,b3l,tv]);done)))|((with_reducible refine A0J (g:=?_) (caps:=?_) ?_ ?_);rotate_left;rotate_left;(focus ((conv=>lhs;simp (disch:=omega) [e1,e2,b3,b3l,tv]);done)))|((with_reducible refine A0M ?_ ?_);(focus (simp (disch:=omega) [e1,e2,b3,b3l,tv];done)))|(simp (decide:=true) only [A2z,J7,J4,I3,J3,I2,J2,J1,if_true,if_false,J5,J6])|((with_reducible refine P8 (b:=?_) ?_ ?_ ?_);rotate_left;(focus ((conv=>lhs;simp (disch:=omega) [e1,e2,b3,b3l,tv]);done));all_goals ((intro hb;try simp only [Bool.not_true,Bool.not_false] at hb);try simp only [hb]))|((with_reducible refine W8 (b:=?_) ?_ ?_ ?_);rotate_left;(focus ((conv=>lhs;simp (disch:=omega) [e1,e2,b3,b3l,tv]);done));all_goals ((intro hb;try simp only [Bool.not_true,Bool.not_false] at hb);try simp only [hb]))|(with_reducible refine P4 ?_ ?_ <;> (intro hb;try simp only [Bool.not_true,Bool.not_false] at hb) <;> try simp only [hb])|(with_reducible refine U8 ?_ ?_ <;> (intro hb;try simp only [Bool.not_true,Bool.not_false] at hb) <;> try simp only [hb])|(with_reducible refine A0V ?_ ?_ <;> (intro hb;try simp only [Bool.not_true,Bool.not_false] at hb) <;> try simp only [hb]))
 ·refine SpecQ.step (c13 (a:=kA 1#32 98#8) r ⟨BytL.nil _,BytL.nil _⟩) ?_
  rintro _ hr
  rw [E2T] at hr
  obtain ⟨κ,t,ut,up,us,ui,ua,ub,rfl,w,h0⟩:=hr
  have tu:=w.str.cells
  have hs:=w.str
  have ff:=aI4 e1 b3l tv tu
  refine A4z (x:=?_)
  clear ff
  refine E1a (vt:=ut) (vp:=up) (vs:=us) (vi:=ui) (va:=ua) (vb:=ub) (p:=H.length+t.length) (H:=H++(t++[⟨eSt gT ut up us ui ua ub,0,.own⟩])) (fun t'=>?_) ⟨?_,?_,?_,?_,?_⟩
  ·rw [List.append_assoc]
   exact hQ _
  ·simp [e2]
  ·simp
  ·simp
  ·rw [←List.append_assoc,List.getElem?_append_right (by simp)]
   simp
  ·rw [←List.append_assoc]
   exact hs.app _
 ·refine SpecQ.step (c13 (a:=kA 1#32 98#8) (r.app [⟨R6,0,.own⟩]) ⟨BytL.nil _,BytL.nil _⟩) ?_
  rintro _ hr
  rw [E2T] at hr
  obtain ⟨κ,t,ut,up,us,ui,ua,ub,rfl,w,h0⟩:=hr
  have tu:=w.str.cells
  have hs:=w.str
  have ho:=w.own h0
  have ff:=aI4 e1 b3l tv tu
  refine A4z (x:=?_)
  clear ff
  refine E1a (vt:=ut) (vp:=up) (vs:=us) (vi:=ui) (va:=ua) (vb:=ub) (p:=H.length) (H:=H++⟨eSt gT ut up us ui ua ub,0,.own⟩::t) (fun t'=>?_) ⟨?_,?_,?_,?_,hs.other fun y hy b hb=>?_⟩
  ·rw [List.append_assoc]
   exact hQ _
  ·simp [e2]
  ·simp
  ·simp
  ·simp
  ·have:=ho y hy b hb
   simp at this
   have e:∀ c0:Blk,H++c0::t=H++([]++c0::t):=fun c0=>by simp
   rw [List.append_assoc,List.singleton_append,e,e]
   exact A2A (A:=[]) (by simp;omega)
theorem c10 {h:A3}:SpecQ Tryz.prog 10 [] h fun r=>r=(.bool true,h):=by
 refine SpecQ.drop1 rfl (q10 fun env=>?_)
 refine F5j (x:=?_)
 refine SpecQ.step c22 ?_
 rintro _ ⟨t,vt,vp,vs,vi,va,vb,rfl,r,-⟩
 have tv:=r.cells
 have ff:=tv
 refine F5k (x:=?_)
 clear ff
 refine F8b (vt:=vt) (vp:=vp) (vs:=vs) (vi:=vi) (va:=va) (vb:=vb) (p:=h.length+t.length) (H:=h++(t++[⟨eSt gS vt vp vs vi va vb,0,.own⟩])) (fun t'=>?_) ?_ ?_ ?_ ?_
 ·rw [List.append_assoc]
  exact ⟨_,rfl⟩
 ·simp
 ·simp
 ·rw [←List.append_assoc,List.getElem?_append_right (by simp)]
  simp
 ·rw [←List.append_assoc]
  exact r.app _
end Go.Vab

namespace Go.Vab
open Go Go.Proofs
noncomputable section
def A20:Ctx:=⟨fun _ _ _ => none,TT,162,[13,14,15,16,17,18,19,20,21,22,23,24,25,26,27,28,29,30,31,32,33,34,35,36,37,38,39,40,41,42,43,44,45,46,47,48,49,50,51,52,53,54,55,56,57,58,59,60,61,62,63,64,65,66,67,68,69,70,71,72,73,74,75,76,77,78,79,80,81,82,83,84,86,87,88,89,91,92,93,94,95,96,97,98,99,100,101,102,103,104,106,107,108,109,111,112,113,114,115,116,117,118,119,120,121,122,123,124,126,127,128,129,131,132,133,134,135,136,137,138,139,140,141,142,144,145,146,147,149,150,151,152,153,154,155,156,157,158,159,160]⟩
def D4n:=B8 Tryz.f15
def B5Q:=cR D4n
def D4o:=cL B5Q
def B5R:=cR D4o
def D4p:=cL B5R
def F1z:=cR D4p
def F10:=cR B5R
def B5S:=cR B5Q
def D4q:=cL B5S
def D4r:=cR D4q
def C6j:=cB D4r
def B1R:=cB C6j
def C6k:=cL B1R
def B1S:=cR C6k
def E69:=cL B1S
def E7A:=cR B1S
def B1T:=cR B1R
def C6l:=cL B1T
def C6m:=cB C6l
def C6n:=cR C6m
def B1U:=cR C6n
def C6o:=cL B1U
def E7B:=cR C6o
def E7C:=cR B1U
def E7D:=cR B1T
def B1V:=cR B5S
def C6p:=cL B1V
def C6q:=cR C6p
def C6r:=cB C6q
def B1W:=cB C6r
def C6s:=cL B1W
def B1X:=cR C6s
def E7E:=cL B1X
def E7F:=cR B1X
def B1Y:=cR B1W
def C6t:=cL B1Y
def C6u:=cB C6t
def C6v:=cR C6u
def B1Z:=cR C6v
def C6w:=cL B1Z
def E7G:=cR C6w
def E7H:=cR B1Z
def E7I:=cR B1Y
def B1a:=cR B1V
def C6x:=cL B1a
def C6y:=cR C6x
def C6z:=cB C6y
def B1b:=cB C6z
def C60:=cL B1b
def B1c:=cR C60
def E7J:=cL B1c
def E7K:=cR B1c
def B1d:=cR B1b
def C61:=cL B1d
def C62:=cB C61
def B1e:=cR C62
def C63:=cL B1e
def E7L:=cR C63
def E7M:=cR B1e
def E7N:=cR B1d
def B1f:=cR B1a
def C64:=cL B1f
def C65:=cR C64
def C66:=cB C65
def B1g:=cB C66
def C67:=cL B1g
def B1h:=cR C67
def E7O:=cL B1h
def E7P:=cR B1h
def B1i:=cR B1g
def C68:=cL B1i
def C69:=cB C68
def B1j:=cR C69
def C7A:=cL B1j
def E7Q:=cR C7A
def E7R:=cR B1j
def E7S:=cR B1i
def C7B:=cR B1f
def E7T:=cR C7B
def q15:=zQ2 A20 15 Tryz.f15 D4n fun s=>(bnd (some (s.env.get 4)) fun v=>bnd (some []) fun vs=>some (v::vs))
def B7I:=zDr A20 [C6n,C6m] [10,11,12,13] [0,1,0,7,15,0,32,0,224,480,0,0,3103,8191] [0,1,2,3,4,5,6,7,8,9] (.b 10 [] [1,4,6,9] (.o 11 [] [1,4,6,9] (.o 12 [] [6,9] (.o 13 [] [] .f))) (.o 11 [] [1,4,6,9] (.o 10 [] [1,4,6,9] (.o 12 [] [6,9] (.o 13 [] [] .f)))))
def B7J:=zDr A20 [C6v,C6u] [10,11,12,13] [0,1,0,7,15,0,32,0,224,480,0,0,3103,8191] [0,1,2,3,4,5,6,7,8,9] (.b 10 [] [1,4,6,9] (.o 11 [] [1,4,6,9] (.o 12 [] [6,9] (.o 13 [] [] .f))) (.o 11 [] [1,4,6,9] (.o 10 [] [1,4,6,9] (.o 12 [] [6,9] (.o 13 [] [] .f)))))
def B7K:=zDr A20 [B1e,C62] [] [0,1,0,7,15,0,32,0,224,480,1023] [0,1,2,3,4,5,6,7,8,9,10] .f
def B7L:=zDr A20 [B1j,C69] [] [0,1,0,7,15,0,32,0,224,480,1023] [0,1,2,3,4,5,6,7,8,9,10] .f
def D6l:=B3 A20 [[F1z],[F1z,D4p],[F10],[D4p,F10,B5R],[B5R,D4o],[E69],[E7A],[E69,E7A,B1S],[B1S,C6k],[E7B],[E7B,C6o],[E7C],[C6o,E7C,B1U],[B1U,C6n],[C6m,C6l],[E7D],[C6l,E7D,B1T],[C6k,B1T,B1R],[B1R,C6j],[C6j,D4r],[D4r,D4q],[E7E],[E7F],[E7E,E7F,B1X],[B1X,C6s],[E7G],[E7G,C6w],[E7H],[C6w,E7H,B1Z],[B1Z,C6v],[C6u,C6t],[E7I],[C6t,E7I,B1Y],[C6s,B1Y,B1W],[B1W,C6r],[C6r,C6q],[C6q,C6p],[E7J],[E7K],[E7J,E7K,B1c],[B1c,C60],[E7L],[E7L,C63],[E7M],[C63,E7M,B1e],[C62,C61],[E7N],[C61,E7N,B1d],[C60,B1d,B1b],[B1b,C6z],[C6z,C6y],[C6y,C6x],[E7O],[E7P],[E7O,E7P,B1h],[B1h,C67],[E7Q],[E7Q,C7A],[E7R],[C7A,E7R,B1j],[C69,C68],[E7S],[C68,E7S,B1i],[C67,B1i,B1g],[B1g,C66],[C66,C65],[C65,C64],[E7T],[E7T,C7B],[C64,C7B,B1f],[C6x,B1f,B1a],[C6p,B1a,B1V],[D4q,B1V,B5S],[D4o,B5S,B5Q],[B5Q,D4n]]
end
end Go.Vab

namespace Go.Vab
open Go Go.Proofs
theorem A4i {G X Y:Prop} (f:Hd X→Hd Y→G:=by
 intro xX yX
 repeat' (first|refine stp (x:=?_)|(with_reducible refine I0 ?_ ?_)|(simp (decide:=true) only [D6l,snB,if_true,if_false])|(with_reducible refine B7I _ _ _ ?_)|(with_reducible refine B7J _ _ _ ?_)|(with_reducible refine B7K _ _ _ ?_)|(with_reducible refine B7L _ _ _ ?_))
 ·exact xX.get
 ·exact yX.get) (x:X) (y:Y):G:=f ⟨x⟩ ⟨y⟩
theorem T0 {G X:Prop} (f:Hd X→G:=by
 intro xX
 repeat' (first|refine stp (x:=?_)|(with_reducible refine I0 ?_ ?_)|(simp (decide:=true) only [D6l,snB,if_true,if_false])|(with_reducible refine B7I _ _ _ ?_)|(with_reducible refine B7J _ _ _ ?_)|(with_reducible refine B7K _ _ _ ?_)|(with_reducible refine B7L _ _ _ ?_))
 exact xX.get) (x:X):G:=f ⟨x⟩
attribute [local irreducible] E9 Evs gW D9 E8 G5
theorem c15 {h : A3} {a b : Stt} {at_ ap as_ ai aa ab bt bp bs bi ba bb : AV} (ra : StR h a at_ ap as_ ai aa ab) (rb : StR h b bt bp bs bi ba bb) :
  SpecQ Tryz.prog 15 [eSt a at_ ap as_ ai aa ab,eSt b bt bp bs bi ba bb] h fun r=>r=(.bool (decide (a=b)),h):=by
 have ta:=ra.cells
 have tb:=rb.cells
 obtain ⟨A,hA⟩:∃ A,A=eSt a at_ ap as_ ai aa ab:=⟨_,rfl⟩
 obtain ⟨B,hB⟩:∃ B,B=eSt b bt bp bs bi ba bb:=⟨_,rfl⟩
 have sat:=fun l=>(ra.ft.app l).str
 have sap:=fun l=>(ra.fp.app l).str
 have sbt:=fun l=>(rb.ft.app l).str
 have sbp:=fun l=>(rb.fp.app l).str
 have las:=ra.fs.len
 have lai:=ra.fi.len
 have laa:=ra.fa.len
 have lab:=ra.fb.len
 have lbs:=rb.fs.len
 have lbi:=rb.fi.len
 have lba:=rb.fa.len
 have lbb:=rb.fb.len
 have bas:=ra.fs.bound
 have bai:=ra.fi.bound
 have baa:=ra.fa.bound
 have bab:=ra.fb.bound
 simp only [List.length_map] at las lai laa lab lbs lbi lba lbb bas bai baa bab
 refine SpecQ.drop1 rfl (q15 fun env g0 g1=>?_)
 repeat' (first|((with_reducible refine I6 (a:=?_) ?_ ?_);rotate_left;(focus ((conv=>lhs;simp (disch:=omega) [g0,g1,ta,tb,sat,sap,sbt,sbp,las,lai,laa,lab,lbs,lbi,lba,lbb]);done));try dsimp only)|((with_reducible refine V3 ?_ ?_);(focus (simp (disch:=omega) [g0,g1,ta,tb,sat,sap,sbt,sbp,las,lai,laa,lab,lbs,lbi,lba,lbb] <;> omega)))|((with_reducible refine V4 ?_ ?_);(focus (simp (disch:=omega) [g0,g1,ta,tb,sat,sap,sbt,sbp,las,lai,laa,lab,lbs,lbi,lba,lbb] <;> omega)))|((with_reducible refine B6 ?_ ?_);(focus (simp (disch:=omega) [g0,g1,ta,tb,sat,sap,sbt,sbp,las,lai,laa,lab,lbs,lbi,lba,lbb];done)))|(with_reducible refine I0 ?_ ?_)|(with_reducible refine W0 ?_)|((with_reducible refine A0L (args':=?_) ?_ ?_);rotate_left;(focus ((conv=>lhs;simp (disch:=omega) [g0,g1,ta,tb,sat,sap,sbt,sbp,las,lai,laa,lab,lbs,lbi,lba,lbb]);done)))|((with_reducible refine A0J (g:=?_) (caps:=?_) ?_ ?_);rotate_left;rotate_left;(focus ((conv=>lhs;simp (disch:=omega) [g0,g1,ta,tb,sat,sap,sbt,sbp,las,lai,laa,lab,lbs,lbi,lba,lbb]);done)))|((with_reducible refine A0M ?_ ?_);(focus (simp (disch:=omega) [g0,g1,ta,tb,sat,sap,sbt,sbp,las,lai,laa,lab,lbs,lbi,lba,lbb];done)))|(simp (decide:=true) only [D6l,J7,J4,I3,J3,I2,J2,J1,if_true,if_false,J5,J6])|(with_reducible refine B7I _ _ _ ?_)|(with_reducible refine B7J _ _ _ ?_)|(with_reducible refine B7K _ _ _ ?_)|(with_reducible refine B7L _ _ _ ?_)|((with_reducible refine a6 (b:=?_) ?_ ?_ ?_);rotate_left;(focus ((conv=>lhs;simp (disch:=omega) [g0,g1,ta,tb,sat,sap,sbt,sbp,las,lai,laa,lab,lbs,lbi,lba,lbb]);done));all_goals ((intro hb;try simp only [Bool.not_true,Bool.not_false] at hb);try simp only [hb]))|((with_reducible refine P8 (b:=?_) ?_ ?_ ?_);rotate_left;(focus ((conv=>lhs;simp (disch:=omega) [g0,g1,ta,tb,sat,sap,sbt,sbp,las,lai,laa,lab,lbs,lbi,lba,lbb]);done));all_goals ((intro hb;try simp only [Bool.not_true,Bool.not_false] at hb);try simp only [hb]))|(with_reducible refine P4 ?_ ?_ <;> (intro hb;try simp only [Bool.not_true,Bool.not_false] at hb) <;> try simp only [hb])|(with_reducible refine Y8 ?_ ?_ <;> (intro hb;try simp only [Bool.not_true,Bool.not_false] at hb) <;> try simp only [hb]))
 rotate_left
 all_goals try (refine K6 (decide_eq_false ?_).symm;rintro rfl;simp_all;done)
 rename_i u1 u2 u3 u4 u5 u6 u7 u8
 simp only [Bool.not_eq_false',decide_eq_true_eq,Bool.or_eq_false_iff] at u1 u2 u3 u4 u5 u6 u7 u8 hb
 -- seats
 refine G0 a.seats.length (fun i st=>∃ env' t,st=⟨env',h++(⟨eSt a at_ ap as_ ai aa ab,0,.own⟩::⟨eSt b bt bp bs bi ba bb,0,.own⟩::t)⟩∧env'.get 2=.ptr h.length 0 [] A6∧env'.get 3=.ptr (h.length+1) 0 [] A6∧env'.get 5=nat i∧∀ j,j < i→a.seats[j]?=b.seats[j]?) ?_ ?_ ⟨_,_,rfl,by simp [*],by simp [*],by simp,fun j hj=>absurd hj (by omega)⟩
 ·rintro i st hi ⟨env',t,rfl,e2,e3,ei,hj⟩
  obtain ⟨p,p1,p2⟩:=ra.fs.idx (i:=i) (by simpa using hi)
  obtain ⟨q,q1,q2⟩:=rb.fs.idx (i:=i) (by simpa [←u6] using hi)
  simp only [List.getElem?_map,List.getElem?_eq_getElem hi,Option.map_some] at p2
  simp only [List.getElem?_map,List.getElem?_eq_getElem (show i < b.seats.length by omega),Option.map_some] at q2
  by_cases hab:a.seats[i]=b.seats[i]
  ·have ff:=aI9 e2 e3 ei p1 p2 q1 q2 hab las
   refine A4i (x:=?_) (y:=?_)
   all_goals clear ff
   all_goals
    refine .inl ⟨by simp,_,_,rfl,by simp [e2],by simp [e3],by simp,fun j hj'=>?_⟩
    by_cases hji:j=i
    ·subst hji
     rw [List.getElem?_eq_getElem hi,List.getElem?_eq_getElem (by omega),hab]
    ·exact hj j (by omega)
  ·have ff:=aI9 e2 e3 ei p1 p2 q1 q2 hab las
   refine A4i (x:=?_) (y:=?_)
   all_goals clear ff
   all_goals
    refine .inr ⟨by simp,?_⟩
    have ff:=aI3 e2 e3 ei
    refine T0 (x:=?_)
    clear ff
    refine K6 (decide_eq_false ?_).symm
    rintro rfl
    exact hab rfl
 rintro st ⟨env',t,rfl,e2,e3,ei,hj⟩
 have ff:=aI4 e2 e3 ei las
 refine T0 (x:=?_)
 clear ff
 refine ⟨by simp,?_⟩
 have ff:=aI4 e2 e3 ei las
 refine T0 (x:=?_)
 clear ff
 have w_seats:a.seats=b.seats:=List.ext_getElem? fun j=>by
  by_cases hj':j < a.seats.length
  ·exact hj j hj'
  ·rw [List.getElem?_eq_none (by omega),List.getElem?_eq_none (by omega)]
 clear hj
 -- invites
 refine G0 a.invites.length (fun i st=>∃ env' t,st=⟨env',h++(⟨eSt a at_ ap as_ ai aa ab,0,.own⟩::⟨eSt b bt bp bs bi ba bb,0,.own⟩::t)⟩∧env'.get 2=.ptr h.length 0 [] A6∧env'.get 3=.ptr (h.length+1) 0 [] A6∧env'.get 8=nat i∧∀ j,j < i→a.invites[j]?=b.invites[j]?) ?_ ?_ ⟨_,_,rfl,by simp [*],by simp [*],by simp,fun j hj=>absurd hj (by omega)⟩
 ·rintro i st hi ⟨env',t,rfl,e2,e3,ei,hj⟩
  obtain ⟨p,p1,p2⟩:=ra.fi.idx (i:=i) (by simpa using hi)
  obtain ⟨q,q1,q2⟩:=rb.fi.idx (i:=i) (by simpa [←u7] using hi)
  simp only [List.getElem?_map,List.getElem?_eq_getElem hi,Option.map_some] at p2
  simp only [List.getElem?_map,List.getElem?_eq_getElem (show i < b.invites.length by omega),Option.map_some] at q2
  by_cases hab:a.invites[i]=b.invites[i]
  ·have ff:=aI9 e2 e3 ei p1 p2 q1 q2 hab lai
   refine A4i (x:=?_) (y:=?_)
   all_goals clear ff
   all_goals
    refine .inl ⟨by simp,_,_,rfl,by simp [e2],by simp [e3],by simp,fun j hj'=>?_⟩
    by_cases hji:j=i
    ·subst hji
     rw [List.getElem?_eq_getElem hi,List.getElem?_eq_getElem (by omega),hab]
    ·exact hj j (by omega)
  ·have ff:=aI9 e2 e3 ei p1 p2 q1 q2 hab lai
   refine A4i (x:=?_) (y:=?_)
   all_goals clear ff
   all_goals
    refine .inr ⟨by simp,?_⟩
    have ff:=aI3 e2 e3 ei
    refine T0 (x:=?_)
    clear ff
    refine K6 (decide_eq_false ?_).symm
    rintro rfl
    exact hab rfl
 rintro st ⟨env',t,rfl,e2,e3,ei,hj⟩
 have ff:=aI4 e2 e3 ei lai
 refine T0 (x:=?_)
 clear ff
 refine ⟨by simp,?_⟩
 have ff:=aI4 e2 e3 ei lai
 refine T0 (x:=?_)
 clear ff
 have w_invites:a.invites=b.invites:=List.ext_getElem? fun j=>by
  by_cases hj':j < a.invites.length
  ·exact hj j hj'
  ·rw [List.getElem?_eq_none (by omega),List.getElem?_eq_none (by omega)]
 clear hj
 -- asks
 refine G0 a.asks.length (fun i st=>∃ env' t,st=⟨env',h++(⟨eSt a at_ ap as_ ai aa ab,0,.own⟩::⟨eSt b bt bp bs bi ba bb,0,.own⟩::t)⟩∧env'.get 2=.ptr h.length 0 [] A6∧env'.get 3=.ptr (h.length+1) 0 [] A6∧env'.get 11=nat i∧∀ j,j < i→a.asks[j]?=b.asks[j]?) ?_ ?_ ⟨_,_,rfl,by simp [*],by simp [*],by simp,fun j hj=>absurd hj (by omega)⟩
 ·rintro i st hi ⟨env',t,rfl,e2,e3,ei,hj⟩
  obtain ⟨p,p1,p2⟩:=ra.fa.idx (i:=i) (by simpa using hi)
  obtain ⟨q,q1,q2⟩:=rb.fa.idx (i:=i) (by simpa [←u8] using hi)
  simp only [List.getElem?_map,List.getElem?_eq_getElem hi,Option.map_some] at p2
  simp only [List.getElem?_map,List.getElem?_eq_getElem (show i < b.asks.length by omega),Option.map_some] at q2
  by_cases hab:a.asks[i]=b.asks[i]
  ·have ff:=aI9 e2 e3 ei p1 p2 q1 q2 hab laa
   refine T0 (x:=?_)
   clear ff
   all_goals
    refine .inl ⟨by simp,_,_,rfl,by simp [e2],by simp [e3],by simp,fun j hj'=>?_⟩
    by_cases hji:j=i
    ·subst hji
     rw [List.getElem?_eq_getElem hi,List.getElem?_eq_getElem (by omega),hab]
    ·exact hj j (by omega)
  ·have ff:=aI9 e2 e3 ei p1 p2 q1 q2 hab laa
   refine T0 (x:=?_)
   clear ff
   all_goals
    refine .inr ⟨by simp,?_⟩
    have ff:=aI3 e2 e3 ei
    refine T0 (x:=?_)
    clear ff
    refine K6 (decide_eq_false ?_).symm
    rintro rfl
    exact hab rfl
 rintro st ⟨env',t,rfl,e2,e3,ei,hj⟩
 have ff:=aI4 e2 e3 ei laa
 refine T0 (x:=?_)
 clear ff
 refine ⟨by simp,?_⟩
 have ff:=aI4 e2 e3 ei laa
 refine T0 (x:=?_)
 clear ff
 have w_asks:a.asks=b.asks:=List.ext_getElem? fun j=>by
  by_cases hj':j < a.asks.length
  ·exact hj j hj'
  ·rw [List.getElem?_eq_none (by omega),List.getElem?_eq_none (by omega)]
 clear hj
 -- bans
 refine G0 a.bans.length (fun i st=>∃ env' t,st=⟨env',h++(⟨eSt a at_ ap as_ ai aa ab,0,.own⟩::⟨eSt b bt bp bs bi ba bb,0,.own⟩::t)⟩∧env'.get 2=.ptr h.length 0 [] A6∧env'.get 3=.ptr (h.length+1) 0 [] A6∧env'.get 12=nat i∧∀ j,j < i→a.bans[j]?=b.bans[j]?) ?_ ?_ ⟨_,_,rfl,by simp [*],by simp [*],by simp,fun j hj=>absurd hj (by omega)⟩
 ·rintro i st hi ⟨env',t,rfl,e2,e3,ei,hj⟩
  obtain ⟨p,p1,p2⟩:=ra.fb.idx (i:=i) (by simpa using hi)
  obtain ⟨q,q1,q2⟩:=rb.fb.idx (i:=i) (by simpa [←hb] using hi)
  simp only [List.getElem?_map,List.getElem?_eq_getElem hi,Option.map_some] at p2
  simp only [List.getElem?_map,List.getElem?_eq_getElem (show i < b.bans.length by omega),Option.map_some] at q2
  by_cases hab:a.bans[i]=b.bans[i]
  ·have ff:=aI9 e2 e3 ei p1 p2 q1 q2 hab lab
   refine T0 (x:=?_)
   clear ff
   all_goals
    refine .inl ⟨by simp,_,_,rfl,by simp [e2],by simp [e3],by simp,fun j hj'=>?_⟩
    by_cases hji:j=i
    ·subst hji
     rw [List.getElem?_eq_getElem hi,List.getElem?_eq_getElem (by omega),hab]
    ·exact hj j (by omega)
  ·have ff:=aI9 e2 e3 ei p1 p2 q1 q2 hab lab
   refine T0 (x:=?_)
   clear ff
   all_goals
    refine .inr ⟨by simp,?_⟩
    have ff:=aI3 e2 e3 ei
    refine T0 (x:=?_)
    clear ff
    refine K6 (decide_eq_false ?_).symm
    rintro rfl
    exact hab rfl
 rintro st ⟨env',t,rfl,e2,e3,ei,hj⟩
 have ff:=aI4 e2 e3 ei lab
 refine T0 (x:=?_)
 clear ff
 refine ⟨by simp,?_⟩
 have ff:=aI4 e2 e3 ei lab
 refine T0 (x:=?_)
 clear ff
 have w_bans:a.bans=b.bans:=List.ext_getElem? fun j=>by
  by_cases hj':j < a.bans.length
  ·exact hj j hj'
  ·rw [List.getElem?_eq_none (by omega),List.getElem?_eq_none (by omega)]
 clear hj
 refine K6 (decide_eq_true ?_).symm
 cases a
 cases b
 simp_all
end Go.Vab

namespace Go.Vab
open Go Go.Proofs
noncomputable section
def cx6:Ctx:=⟨fun _ _ _ => none,TT,87,[8,9,12,13,15,16,17,18,19,20,21,22,23,24,25,26,27,28,29,30,31,32,33,34,35,36,37,38,40,41,42,43,44,45,46,47,48,49,50,51,52,53,54,55,56,57,58,59,60,61,62,63,64,65,66,67,68,69,70,71,72,73,74,75,76,77,78,79,80,81,82,83,84,85,86]⟩
def D6m:=B8 Tryz.f6
def B6E:=cR D6m
def D6n:=cL B6E
def B6F:=cR D6n
def D6o:=cL B6F
def F3W:=cR D6o
def F3X:=cR B6F
def D6p:=cR B6E
def D6q:=cR D6p
def B6G:=cR D6q
def D4s:=cL B6G
def B5T:=cR D4s
def D4t:=cL B5T
def F11:=cR D4t
def F12:=cR B5T
def D4u:=cR B6G
def F13:=cR D4u
def q6:=zQ3 cx6 6 Tryz.f6 D6m fun s=>(bnd (some (s.env.get 6)) fun v=>bnd (some []) fun vs=>some (v::vs))
def sn6:=B3 cx6 [[F3W],[F3W,D6o],[F3X],[D6o,F3X,B6F],[B6F,D6n],[F11],[F11,D4t],[F12],[D4t,F12,B5T],[B5T,D4s],[F13],[F13,D4u],[D4s,D4u,B6G],[B6G,D6q],[D6q,D6p],[D6n,D6p,B6E],[B6E,D6m]]
end
end Go.Vab

namespace Go.Vab
open Go Go.Proofs
theorem F5l {G X:Prop} (f:Hd X→G:=by
 intro xX
 repeat' (first|refine stp (x:=?_)|(with_reducible refine SpecQ.step (c9 (ra.app _) (rc.app _)) ?_;rintro _ rfl;try dsimp only)|(with_reducible refine SpecQ.step (c10) ?_;rintro _ rfl;try dsimp only)|(simp (decide:=true) only [sn6,snB,if_true,if_false]))
 exact xX.get) (x:X):G:=f ⟨x⟩
theorem F5m {G X:Prop} (f:Hd X→G:=by
 intro xX
 repeat' (first|refine stp (x:=?_)|(with_reducible refine SpecQ.step (c9 (ra.app _) (rc.app _)) ?_;rintro _ rfl;try dsimp only)|(with_reducible refine SpecQ.step (c26 (ra.app _)) ?_;rintro _ rfl;try dsimp only)|(simp (decide:=true) only [sn6,snB,if_true,if_false]))
 exact xX.get) (x:X):G:=f ⟨x⟩
theorem A3D {G X:Prop} (f:Hd X→G:=by
 intro xX
 repeat' (first|refine stp (x:=?_)|(with_reducible refine SpecQ.step (c10) ?_;rintro _ rfl;try dsimp only)|(simp (decide:=true) only [sn6,snB,if_true,if_false]))
 exact xX.get) (x:X):G:=f ⟨x⟩
attribute [local irreducible] E9 Evs gW D9 E8 G5
@[simp] theorem G8d (x:Nat × BitVec 64 × Pt):m9 (A33 x) 0=some (nat x.1):=rfl
@[simp] theorem G8e (x:Nat × BitVec 64 × Pt):m9 (A33 x) 1=some (u64 x.2.1):=rfl
@[simp] theorem G8f (x:Nat × BitVec 64 × Pt):m9 (A33 x) 2=some (pt x.2.2):=rfl
theorem D8X {s:Stt} {b:Pt} {a:Actn} {k:Nat} (h:I4 s b a=.error k):k≠0:=by
 unfold I4 at h
 split at h
 ·cases h;decide
 split at h
 ·cases h;decide
 split at h
 ·cases h;decide
 split at h
 ·rename_i e he
  cases h
  exact B6i he
 ·cases h
theorem F5n (s:Stt) (b:Pt):(Q2 s b).1≤4:=by
 unfold Q2
 repeat' split
 all_goals simp
theorem A6a {H:A3}:StR H st0 .nilslice .nilslice .nilslice .nilslice .nilslice .nilslice:=⟨BytL.nil _,BytL.nil _,A0t s8 _,A0t a9 _,A0t i9 _,A0t j0 _⟩
theorem c6 {h:A3} {s:Stt} {vt vp vs vi va vb:AV} {b:Pt} {a:Actn} {wt wp:AV} (ra:StR h s vt vp vs vi va vb) (rc:ActR h a wt wp):SpecQ Tryz.prog 6 [eSt s vt vp vs vi va vb,pt b,C5 a wt wp] h fun r=>r.1=.bool true:=by
 have ta:=ra.cells
 have tc:=rc.cells
 refine q6 fun env g0 g1 g2=>?_
 cases hL:A2Z s a
 rotate_left
 ·have ff:=aI6 g0 g1 g2 ta tc hL
  refine F5l (x:=?_)
  clear ff
  rfl
 have ff:=aI6 g0 g1 g2 ta tc hL
 refine F5m (x:=?_)
 clear ff
 refine SpecQ.step (c13 (ra.app _) (rc.app _)) ?_
 rintro _ hr
 have hp:=F5n s b
 cases hs:I4 s b a with
 | error k =>
  rw [hs] at hr
  obtain ⟨t,rfl⟩:=hr
  have hk:=D8X hs
  have ff:=aI6 g0 g1 g2 ta tc hk
  refine A3D (x:=?_)
  clear ff
  refine SpecQ.step (c15 A6a A6a) ?_
  rintro _ rfl
  rw [decide_eq_true (rfl:st0=st0)]
  have ff:=g0
  refine A3D (x:=?_)
  clear ff
  rfl
 | ok z =>
  rw [hs] at hr
  obtain ⟨κ,t,ut,up,us,ui,ua,ub,rfl,w,h0⟩:=hr
  have tu:=w.str.cells
  by_cases hq:1≤(Q2 s b).1∧(Q2 s b).1≤3
  ·obtain ⟨hq1,hq2⟩:=hq
   have ff:=aI9 g0 g1 g2 ta tc tu hq1 hq2 hp
   refine A3D (x:=?_)
   clear ff
   rfl
  ·obtain ⟨a1,a2,a3,a4,a5⟩:=F5e hs hq
   have sp:=fun l=>(ra.fp.app l).str
   have sq:=fun l=>(rc.p.app l).str
   have lp:=ra.fp.len
   have bp:=ra.fp.bound
   rcases a2 with a2|a2
   ·have ff:=T9 g0 g1 g2 ta tc tu a1 a2 a3 a4 a5 sp sq lp bp
    refine A3D (x:=?_)
    clear ff
    rfl
   ·have ff:=T9 g0 g1 g2 ta tc tu a1 a2 a3 a4 a5 sp sq lp bp
    refine A3D (x:=?_)
    clear ff
    rfl
end Go.Vab

namespace Go.Vab
open Go Go.Proofs
noncomputable section
def F3Y:Ctx:=⟨fun _ _ _ => none,TT,73,[8,9,10,11,13,14,15,16,17,18,19,20,21,22,23,24,25,26,27,29,30,31,32,33,34,35,36,37,38,39,40,41,42,43,45,46,47,48,49,50,51,52,53,54,55,56,57,58,59,61,62,63,64,65,66,67,68,69,70,71,72]⟩
def D4v:=B8 Tryz.f25
def D4w:=cR D4v
def B5U:=cR D4w
def D4x:=cL B5U
def D4y:=cR D4x
def D4z:=cB D4y
def B5V:=cB D4z
def D40:=cL B5V
def B5W:=cR D40
def F14:=cL B5W
def E7U:=cR B5W
def B1k:=cR B5V
def C7C:=cL B1k
def E7V:=cB C7C
def E7W:=cR B1k
def B1l:=cR B5U
def C7D:=cL B1l
def C7E:=cR C7D
def C7F:=cB C7E
def B1m:=cB C7F
def C7G:=cL B1m
def B1n:=cR C7G
def E7X:=cL B1n
def E7Y:=cR B1n
def B1o:=cR B1m
def C7H:=cL B1o
def E7Z:=cB C7H
def E7a:=cR B1o
def B1p:=cR B1l
def C7I:=cL B1p
def C7J:=cR C7I
def C7K:=cB C7J
def B1q:=cB C7K
def C7L:=cL B1q
def B1r:=cR C7L
def E7b:=cL B1r
def E7c:=cR B1r
def B1s:=cR B1q
def C7M:=cL B1s
def E7d:=cB C7M
def E7e:=cR B1s
def B1t:=cR B1p
def C7N:=cL B1t
def C7O:=cR C7N
def C7P:=cB C7O
def B1u:=cB C7P
def C7Q:=cL B1u
def B1v:=cR C7Q
def E7f:=cL B1v
def E7g:=cR B1v
def B1w:=cR B1u
def C7R:=cL B1w
def E7h:=cB C7R
def E7i:=cR B1w
def C7S:=cR B1t
def E7j:=cR C7S
def q25:=zQ1 F3Y 25 Tryz.f25 D4v fun s=>(bnd (some (s.env.get 2)) fun v=>bnd (some []) fun vs=>some (v::vs))
def G22:=B3 F3Y [[F14],[E7U],[F14,E7U,B5W],[B5W,D40],[E7V],[E7V,C7C],[E7W],[C7C,E7W,B1k],[D40,B1k,B5V],[B5V,D4z],[D4z,D4y],[D4y,D4x],[E7X],[E7Y],[E7X,E7Y,B1n],[B1n,C7G],[E7Z],[E7Z,C7H],[E7a],[C7H,E7a,B1o],[C7G,B1o,B1m],[B1m,C7F],[C7F,C7E],[C7E,C7D],[E7b],[E7c],[E7b,E7c,B1r],[B1r,C7L],[E7d],[E7d,C7M],[E7e],[C7M,E7e,B1s],[C7L,B1s,B1q],[B1q,C7K],[C7K,C7J],[C7J,C7I],[E7f],[E7g],[E7f,E7g,B1v],[B1v,C7Q],[E7h],[E7h,C7R],[E7i],[C7R,E7i,B1w],[C7Q,B1w,B1u],[B1u,C7P],[C7P,C7O],[C7O,C7N],[E7j],[E7j,C7S],[C7N,C7S,B1t],[C7I,B1t,B1p],[C7D,B1p,B1l],[D4x,B1l,B5U],[B5U,D4w],[D4w,D4v]]
end
end Go.Vab

namespace Go.Vab
open Go Go.Proofs
noncomputable section
def D6r:Ctx:=⟨fun _ _ _ => none,TT,28,[8,9,10,11,13,14,15,16,17,18,19,20,21,22,23,24,25,26]⟩
def D41:=B8 Tryz.f38
def B5X:=cR D41
def D42:=cL B5X
def D43:=cR D42
def D44:=cB D43
def B5Y:=cB D44
def D45:=cL B5Y
def B5Z:=cR D45
def F15:=cL B5Z
def F16:=cR B5Z
def B1x:=cR B5Y
def C7T:=cL B1x
def C7U:=cB C7T
def B1y:=cR C7U
def C7V:=cL B1y
def E7k:=cR C7V
def E7l:=cR B1y
def E7m:=cR B1x
def C7W:=cR B5X
def E7n:=cR C7W
def q38:=zQ3 D6r 38 Tryz.f38 D41 fun s=>(bnd (some (s.env.get 6)) fun v=>bnd (some []) fun vs=>some (v::vs))
def D9L:=zDr D6r [B1y,C7U] [] [0,0,2,7,15,31,0,0,192,448,960,2047,4095] [0,1,2,3,4,5,6,7,8,9,10,11,12] .f
def F3Z:=B3 D6r [[F15],[F16],[F15,F16,B5Z],[B5Z,D45],[E7k],[E7k,C7V],[E7l],[C7V,E7l,B1y],[C7U,C7T],[E7m],[C7T,E7m,B1x],[D45,B1x,B5Y],[B5Y,D44],[D44,D43],[D43,D42],[E7n],[E7n,C7W],[D42,C7W,B5X],[B5X,D41]]
end
end Go.Vab

namespace Go.Vab
open Go Go.Proofs
noncomputable section
def B6H:Ctx:=⟨fun _ _ _ => none,TT,153,[12,13,14,15,16,17,18,19,20,21,22,23,24,25,26,27,28,29,30,31,32,34,35,36,37,38,39,40,41,42,43,44,45,46,47,48,49,50,51,52,53,54,55,56,57,58,60,61,62,63,64,65,66,67,68,69,70,71,72,73,74,75,76,77,78,79,80,81,82,83,84,85,86,87,88,89,90,91,92,93,94,95,96,97,98,99,100,101,102,103,105,106,107,109,110,111,112,114,115,116,117,118,119,120,121,122,123,124,125,127,128,130,131,132,133,134,135,136,137,138,140,141,143,144,145,146,147,148,149,150,151]⟩
def D46:=B8 Tryz.f23
def B5a:=cR D46
def D47:=cL B5a
def B5b:=cR D47
def D48:=cL B5b
def F17:=cR D48
def F18:=cR B5b
def D49:=cR B5a
def B5c:=cR D49
def D5A:=cL B5c
def B1z:=cR D5A
def C7X:=cL B1z
def E7o:=cR C7X
def E7p:=cR B1z
def C7Y:=cR B5c
def B10:=cR C7Y
def C7Z:=cL B10
def B11:=cR C7Z
def C7a:=cL B11
def E7q:=cR C7a
def E7r:=cR B11
def B12:=cR B10
def C7b:=cL B12
def C7c:=cR C7b
def C7d:=cB C7c
def B13:=cB C7d
def C7e:=cL B13
def B14:=cR C7e
def E7s:=cL B14
def E7t:=cR B14
def B15:=cR B13
def C7f:=cL B15
def C7g:=cB C7f
def C7h:=cR C7g
def C7i:=cB C7h
def B16:=cB C7i
def C7j:=cL B16
def B17:=cR C7j
def E7u:=cL B17
def E7v:=cR B17
def B18:=cR B16
def C7k:=cL B18
def C7l:=cB C7k
def B19:=cR C7l
def C7m:=cL B19
def E7w:=cR C7m
def E7x:=cR B19
def E7y:=cR B18
def E7z:=cR B15
def B2A:=cR B12
def C7n:=cL B2A
def C7o:=cR C7n
def C7p:=cB C7o
def B2B:=cB C7p
def C7q:=cL B2B
def B2C:=cR C7q
def E70:=cL B2C
def E71:=cR B2C
def B2D:=cR B2B
def C7r:=cL B2D
def C7s:=cB C7r
def B2E:=cR C7s
def C7t:=cL B2E
def E72:=cR C7t
def E73:=cR B2E
def E74:=cR B2D
def B2F:=cR B2A
def C7u:=cL B2F
def C7v:=cR C7u
def C7w:=cB C7v
def B2G:=cB C7w
def C7x:=cL B2G
def B2H:=cR C7x
def E75:=cL B2H
def E76:=cR B2H
def B2I:=cR B2G
def C7y:=cL B2I
def C7z:=cB C7y
def B2J:=cR C7z
def C70:=cL B2J
def E77:=cR C70
def E78:=cR B2J
def E79:=cR B2I
def C71:=cR B2F
def E8A:=cR C71
def q23:=zQ1 B6H 23 Tryz.f23 D46 fun s=>(bnd (some (s.env.get 2)) fun v=>bnd (some []) fun vs=>some (v::vs))
def A3R:=zDr B6H [B19,C7l] [] [0,0,3,7,15,0,0,96,224,480,1023] [0,1,2,3,4,5,6,7,8,9,10] .f
def A3W:=zDr B6H [B5c,D49] [] [0,1,3,0,8,24,0,64,192,0,512,1536,7,4159,12799,32767] [0,1,2,3,4,5,6,7,8,9,10,11,12,13,14,15] .f
def A4W:=B3 B6H [[F17],[F17,D48],[F18],[D48,F18,B5b],[B5b,D47],[E7o],[E7o,C7X],[E7p],[C7X,E7p,B1z],[B1z,D5A],[E7q],[E7q,C7a],[E7r],[C7a,E7r,B11],[B11,C7Z],[E7s],[E7t],[E7s,E7t,B14],[B14,C7e],[E7u],[E7v],[E7u,E7v,B17],[B17,C7j],[E7w],[E7w,C7m],[E7x],[C7m,E7x,B19],[C7l,C7k],[E7y],[C7k,E7y,B18],[C7j,B18,B16],[B16,C7i],[C7i,C7h],[C7h,C7g],[C7g,C7f],[E7z],[C7f,E7z,B15],[C7e,B15,B13],[B13,C7d],[C7d,C7c],[C7c,C7b],[E70],[E71],[E70,E71,B2C],[B2C,C7q],[E72],[E72,C7t],[E73],[C7t,E73,B2E],[B2E,C7s],[C7s,C7r],[E74],[C7r,E74,B2D],[C7q,B2D,B2B],[B2B,C7p],[C7p,C7o],[C7o,C7n],[E75],[E76],[E75,E76,B2H],[B2H,C7x],[E77],[E77,C70],[E78],[C70,E78,B2J],[B2J,C7z],[C7z,C7y],[E79],[C7y,E79,B2I],[C7x,B2I,B2G],[B2G,C7w],[C7w,C7v],[C7v,C7u],[E8A],[E8A,C71],[C7u,C71,B2F],[C7n,B2F,B2A],[C7b,B2A,B12],[C7Z,B12,B10],[B10,C7Y],[D5A,C7Y,B5c],[D47,D49,B5a],[B5a,D46]]
end
end Go.Vab

namespace Go.Vab
open Go Go.Proofs
theorem S1 {G X:Prop} (f:Hd X→G:=by
 intro xX
 repeat' (first|refine stp (x:=?_)|(simp (decide:=true) only [G22,snB,if_true,if_false]))
 exact xX.get) (x:X):G:=f ⟨x⟩
theorem A5O {G X:Prop} (f:Hd X→G:=by
 intro xX
 repeat' (first|refine stp (x:=?_)|(simp (decide:=true) only [F3Z,snB,if_true,if_false])|(with_reducible refine D9L _ _ _ ?_))
 exact xX.get) (x:X):G:=f ⟨x⟩
theorem D9M {G X:Prop} (f:Hd X→G:=by
 intro xX
 repeat' (first|refine stp (x:=?_)|(with_reducible refine A5 (c86) ?_;try dsimp only)|(with_reducible refine SpecQ.step (c86) ?_;rintro _ rfl;try dsimp only)|(simp (decide:=true) only [F3Z,snB,if_true,if_false])|(with_reducible refine D9L _ _ _ ?_))
 exact xX.get) (x:X):G:=f ⟨x⟩
theorem F7Q {G X:Prop} (f:Hd X→G:=by
 intro xX
 repeat' (first|refine stp (x:=?_)|(with_reducible refine SpecQ.step (c37) ?_;rintro _ rfl;try dsimp only)|(simp (decide:=true) only [A4W,snB,if_true,if_false])|(with_reducible refine A3R _ _ _ ?_)|(with_reducible refine A3W _ _ _ ?_))
 exact xX.get) (x:X):G:=f ⟨x⟩
theorem N4 {G X:Prop} (f:Hd X→G:=by
 intro xX
 repeat' (first|refine stp (x:=?_)|(simp (decide:=true) only [A4W,snB,if_true,if_false])|(with_reducible refine A3R _ _ _ ?_)|(with_reducible refine A3W _ _ _ ?_))
 exact xX.get) (x:X):G:=f ⟨x⟩
theorem A5P {G X:Prop} (f:Hd X→G:=by
 intro xX
 repeat' (first|refine stp (x:=?_)|(with_reducible refine SpecQ.step (c39) ?_;rintro _ rfl;try dsimp only)|(simp (decide:=true) only [A4W,snB,if_true,if_false])|(with_reducible refine A3R _ _ _ ?_)|(with_reducible refine A3W _ _ _ ?_))
 exact xX.get) (x:X):G:=f ⟨x⟩
attribute [local irreducible] E9 Evs gW D9 E8 G5
def M4 (s:Stt):List Ci:=s.seats.map (·.who)++s.invites.map (·.who)++s.asks.map (·.who)++s.bans.map (·.who)
def H6 (s:Stt):Prop:=s.seats.length≤1000∧s.invites.length≤1000∧s.asks.length≤1000∧s.bans.length≤1000
theorem F4C (s:Stt):(M4 s).length=s.seats.length+s.invites.length+s.asks.length+s.bans.length:=by simp [M4];omega
theorem c25 {h:A3} {s:Stt} {vt vp vs vi va vb:AV} (ra:StR h s vt vp vs vi va vb) (hs:H6 s):SpecQ Tryz.prog 25 [eSt s vt vp vs vi va vb] h fun r=>∃ y u,r=(y,h++⟨eSt s vt vp vs vi va vb,0,.own⟩::u)∧RnU C3 (h.length+1) u y ((M4 s).map eCi):=by
 obtain ⟨s1,s2,s3,s4⟩:=hs
 have ta:=ra.cells
 have l1:=ra.fs.len
 have l2:=ra.fi.len
 have l3:=ra.fa.len
 have l4:=ra.fb.len
 rw [List.length_map] at l1 l2 l3 l4
 refine q25 fun env g0=>?_
 have ff:=aI3 g0 ta l1
 refine S1 (x:=?_)
 clear ff
 refine G0 s.seats.length (fun i st=>∃ env' u x,st=⟨env',h++⟨eSt s vt vp vs vi va vb,0,.own⟩::u⟩∧env'.get 1=.ptr h.length 0 [] A6∧env'.get 3=x∧env'.get 4=nat i∧RnU C3 (h.length+1) u x ((([]:List Ci)++(s.seats.take i).map Seat.who).map eCi)) ?_ ?_ ⟨_,[],_,(by simp;rfl),by simp,rfl,by simp,(by simp;exact RnU.nil _ _ _)⟩
 ·rintro i st hi ⟨env',u,x,rfl,e1,e3,e4,hr⟩
  obtain ⟨pb,pv,pp,bb,p1,p2,p3,p4⟩:=ra.fs.idxE hi
  have ff:=F8 e1 e3 e4 ta l1 l2 l3 l4 p1 p2 p3 p4
  refine S1 (x:=?_)
  clear ff
  have hnext:(([]:List Ci)++(s.seats.take i).map Seat.who).map eCi++[eCi s.seats[i].who]=(([]:List Ci)++(s.seats.take (i+1)).map Seat.who).map eCi:=by
   simp only [List.take_add_one,List.getElem?_eq_getElem hi,Option.toList,List.map_append,List.map_cons,List.map_nil,List.append_assoc]
  have hH:h++⟨eSt s vt vp vs vi va vb,0,.own⟩::(u++[⟨.node [eCi s.seats[i].who],0,.own⟩])=(h++[⟨eSt s vt vp vs vi va vb,0,.own⟩])++(u++[⟨.node [eCi s.seats[i].who],0,.own⟩]):=by simp
  rw [hH]
  refine A0e (new:=[eCi s.seats[i].who]) A1q (fun _ => rfl) (by simp) hr (by rw [←hH,M6];simp) (by simp;omega) (by omega) fun x' u' g1 g2 g3 g4=>?_
  rw [hnext] at g1
  simp only [List.append_assoc,List.cons_append,List.nil_append]
  have ff:=aI8 e1 e3 e4 ta l1 l2 l3 l4
  refine S1 (x:=?_)
  clear ff
  exact .inl ⟨by simp,_,u',x',rfl,by simp [e1],by simp,by simp,by simpa only [List.append_assoc,List.nil_append] using g1⟩
 rintro st ⟨env',u,x,rfl,e1,e3,e4,hr⟩
 rw [List.take_length] at hr
 have ff:=aI8 e1 e3 e4 ta l1 l2 l3 l4
 refine S1 (x:=?_)
 clear ff
 refine ⟨by simp,?_⟩
 have ff:=aI8 e1 e3 e4 ta l1 l2 l3 l4
 refine S1 (x:=?_)
 clear ff
 refine G0 s.invites.length (fun i st=>∃ env' u x,st=⟨env',h++⟨eSt s vt vp vs vi va vb,0,.own⟩::u⟩∧env'.get 1=.ptr h.length 0 [] A6∧env'.get 3=x∧env'.get 5=nat i∧RnU C3 (h.length+1) u x ((s.seats.map (·.who)++(s.invites.take i).map Inv.who).map eCi)) ?_ ?_ ⟨_,u,_,rfl,by simp [e1],rfl,by simp,(by simpa [e3] using hr)⟩
 ·rintro i st hi ⟨env',u,x,rfl,e1,e3,e4,hr⟩
  obtain ⟨pb,pv,pp,bb,p1,p2,p3,p4⟩:=ra.fi.idxE hi
  have ff:=F8 e1 e3 e4 ta l1 l2 l3 l4 p1 p2 p3 p4
  refine S1 (x:=?_)
  clear ff
  have hnext:(s.seats.map (·.who)++(s.invites.take i).map Inv.who).map eCi++[eCi s.invites[i].who]=(s.seats.map (·.who)++(s.invites.take (i+1)).map Inv.who).map eCi:=by
   simp only [List.take_add_one,List.getElem?_eq_getElem hi,Option.toList,List.map_append,List.map_cons,List.map_nil,List.append_assoc]
  have hH:h++⟨eSt s vt vp vs vi va vb,0,.own⟩::(u++[⟨.node [eCi s.invites[i].who],0,.own⟩])=(h++[⟨eSt s vt vp vs vi va vb,0,.own⟩])++(u++[⟨.node [eCi s.invites[i].who],0,.own⟩]):=by simp
  rw [hH]
  refine A0e (new:=[eCi s.invites[i].who]) A1q (fun _ => rfl) (by simp) hr (by rw [←hH,M6];simp) (by simp;omega) (by omega) fun x' u' g1 g2 g3 g4=>?_
  rw [hnext] at g1
  simp only [List.append_assoc,List.cons_append,List.nil_append]
  have ff:=aI8 e1 e3 e4 ta l1 l2 l3 l4
  refine S1 (x:=?_)
  clear ff
  exact .inl ⟨by simp,_,u',x',rfl,by simp [e1],by simp,by simp,by simpa only [List.append_assoc,List.nil_append] using g1⟩
 rintro st ⟨env',u,x,rfl,e1,e3,e4,hr⟩
 rw [List.take_length] at hr
 have ff:=aI8 e1 e3 e4 ta l1 l2 l3 l4
 refine S1 (x:=?_)
 clear ff
 refine ⟨by simp,?_⟩
 have ff:=aI8 e1 e3 e4 ta l1 l2 l3 l4
 refine S1 (x:=?_)
 clear ff
 refine G0 s.asks.length (fun i st=>∃ env' u x,st=⟨env',h++⟨eSt s vt vp vs vi va vb,0,.own⟩::u⟩∧env'.get 1=.ptr h.length 0 [] A6∧env'.get 3=x∧env'.get 6=nat i∧RnU C3 (h.length+1) u x ((s.seats.map (·.who)++s.invites.map (·.who)++(s.asks.take i).map Ask.who).map eCi)) ?_ ?_ ⟨_,u,_,rfl,by simp [e1],rfl,by simp,(by simpa [e3] using hr)⟩
 ·rintro i st hi ⟨env',u,x,rfl,e1,e3,e4,hr⟩
  obtain ⟨pb,pv,pp,bb,p1,p2,p3,p4⟩:=ra.fa.idxE hi
  have ff:=F8 e1 e3 e4 ta l1 l2 l3 l4 p1 p2 p3 p4
  refine S1 (x:=?_)
  clear ff
  have hnext:(s.seats.map (·.who)++s.invites.map (·.who)++(s.asks.take i).map Ask.who).map eCi++[eCi s.asks[i].who]=(s.seats.map (·.who)++s.invites.map (·.who)++(s.asks.take (i+1)).map Ask.who).map eCi:=by
   simp only [List.take_add_one,List.getElem?_eq_getElem hi,Option.toList,List.map_append,List.map_cons,List.map_nil,List.append_assoc]
  have hH:h++⟨eSt s vt vp vs vi va vb,0,.own⟩::(u++[⟨.node [eCi s.asks[i].who],0,.own⟩])=(h++[⟨eSt s vt vp vs vi va vb,0,.own⟩])++(u++[⟨.node [eCi s.asks[i].who],0,.own⟩]):=by simp
  rw [hH]
  refine A0e (new:=[eCi s.asks[i].who]) A1q (fun _ => rfl) (by simp) hr (by rw [←hH,M6];simp) (by simp;omega) (by omega) fun x' u' g1 g2 g3 g4=>?_
  rw [hnext] at g1
  simp only [List.append_assoc,List.cons_append,List.nil_append]
  have ff:=aI8 e1 e3 e4 ta l1 l2 l3 l4
  refine S1 (x:=?_)
  clear ff
  exact .inl ⟨by simp,_,u',x',rfl,by simp [e1],by simp,by simp,by simpa only [List.append_assoc,List.nil_append] using g1⟩
 rintro st ⟨env',u,x,rfl,e1,e3,e4,hr⟩
 rw [List.take_length] at hr
 have ff:=aI8 e1 e3 e4 ta l1 l2 l3 l4
 refine S1 (x:=?_)
 clear ff
 refine ⟨by simp,?_⟩
 have ff:=aI8 e1 e3 e4 ta l1 l2 l3 l4
 refine S1 (x:=?_)
 clear ff
 refine G0 s.bans.length (fun i st=>∃ env' u x,st=⟨env',h++⟨eSt s vt vp vs vi va vb,0,.own⟩::u⟩∧env'.get 1=.ptr h.length 0 [] A6∧env'.get 3=x∧env'.get 7=nat i∧RnU C3 (h.length+1) u x ((s.seats.map (·.who)++s.invites.map (·.who)++s.asks.map (·.who)++(s.bans.take i).map Ban.who).map eCi)) ?_ ?_ ⟨_,u,_,rfl,by simp [e1],rfl,by simp,(by simpa [e3] using hr)⟩
 ·rintro i st hi ⟨env',u,x,rfl,e1,e3,e4,hr⟩
  obtain ⟨pb,pv,pp,bb,p1,p2,p3,p4⟩:=ra.fb.idxE hi
  have ff:=F8 e1 e3 e4 ta l1 l2 l3 l4 p1 p2 p3 p4
  refine S1 (x:=?_)
  clear ff
  have hnext:(s.seats.map (·.who)++s.invites.map (·.who)++s.asks.map (·.who)++(s.bans.take i).map Ban.who).map eCi++[eCi s.bans[i].who]=(s.seats.map (·.who)++s.invites.map (·.who)++s.asks.map (·.who)++(s.bans.take (i+1)).map Ban.who).map eCi:=by
   simp only [List.take_add_one,List.getElem?_eq_getElem hi,Option.toList,List.map_append,List.map_cons,List.map_nil,List.append_assoc]
  have hH:h++⟨eSt s vt vp vs vi va vb,0,.own⟩::(u++[⟨.node [eCi s.bans[i].who],0,.own⟩])=(h++[⟨eSt s vt vp vs vi va vb,0,.own⟩])++(u++[⟨.node [eCi s.bans[i].who],0,.own⟩]):=by simp
  rw [hH]
  refine A0e (new:=[eCi s.bans[i].who]) A1q (fun _ => rfl) (by simp) hr (by rw [←hH,M6];simp) (by simp;omega) (by omega) fun x' u' g1 g2 g3 g4=>?_
  rw [hnext] at g1
  simp only [List.append_assoc,List.cons_append,List.nil_append]
  have ff:=aI8 e1 e3 e4 ta l1 l2 l3 l4
  refine S1 (x:=?_)
  clear ff
  exact .inl ⟨by simp,_,u',x',rfl,by simp [e1],by simp,by simp,by simpa only [List.append_assoc,List.nil_append] using g1⟩
 rintro st ⟨env',u,x,rfl,e1,e3,e4,hr⟩
 rw [List.take_length] at hr
 have ff:=aI8 e1 e3 e4 ta l1 l2 l3 l4
 refine S1 (x:=?_)
 clear ff
 refine ⟨by simp,?_⟩
 have ff:=aI8 e1 e3 e4 ta l1 l2 l3 l4
 refine S1 (x:=?_)
 clear ff
 exact ⟨x,u,by simp [C8,e3],hr⟩
theorem D7S (s:Stt):(M4 s).map (·.e)=pts s:=by
 simp only [M4,pts,sE,iE,aE,bE,List.map_append,List.map_map];rfl
theorem A2B {s:Stt} {i:Nat} (hi:i < (M4 s).length):(pts s).getD i pt0=(M4 s)[i].e:=by
 rw [←D7S,List.getD_eq_getElem?_getD,List.getElem?_map,List.getElem?_eq_getElem hi];rfl
theorem c38 {h:A3} {x:AV} {s:Stt} {a b:Nat} (hx:Row C3 h x ((M4 s).map eCi)) (hb:b≤(M4 s).length) (ha:a≤b):SpecQ Tryz.prog 38 [x,nat a,nat b] h fun r=>r=(.bool (S9 (pts s) a b),h):=by
 have bx:=hx.bound
 rw [List.length_map] at bx
 refine SpecQ.drop1 rfl (q38 fun env g0 g1 g2=>?_)
 have ff:=aI3 g0 g1 g2
 refine A5O (x:=?_)
 clear ff
 refine G0 (b - (a+1)) (fun i st=>∃ env',st=⟨env',h⟩∧env'.get 0=x∧env'.get 2=nat b∧env'.get 7=nat (a+1+i)∧∀ j,a < j→j < a+1+i→z8 (pts s) j=true) ?_ ?_ ⟨_,rfl,by simp [g0],by simp [g2],by simp,fun j h1 h2=>absurd h1 (by omega)⟩
 ·rintro i st hi ⟨env',rfl,e0,e2,e7,hgood⟩
  obtain ⟨m,hm⟩:∃ m,a+1+i=m+1:=⟨a+i,by omega⟩
  rw [hm] at e7 hgood
  have hlt:m+1 < b:=by omega
  obtain ⟨pb,pv,pp,bb,p1,p2,p3,p4⟩:=hx.idxE (i:=m+1) (by omega)
  obtain ⟨qb,qv,qp,cc,q1,q2,q3,q4⟩:=hx.idxE (i:=m) (by omega)
  have p2':=p2 []
  have q2':=q2 []
  rw [List.append_nil] at p2' q2'
  have hadj:z8 (pts s) (m+1)=ltP (M4 s)[m].e (M4 s)[m+1].e:=by
   unfold z8;rw [Nat.add_sub_cancel,A2B (by omega),A2B (by omega)]
  have hnx:a+1+(i+1)=m+1+1:=by omega
  rw [hnx]
  cases hl:ltP (M4 s)[m].e (M4 s)[m+1].e
  ·rw [hl] at hadj
   have ff:=H7 e0 e2 e7 hlt p1 p2' p3 p4 q1 q2' q3 q4 hl
   refine D9M (x:=?_)
   clear ff
   refine .inr ⟨by simp,?_⟩
   have ff:=e0
   refine A5O (x:=?_)
   clear ff
   have:S9 (pts s) a b=false:=C0d hlt (by rw [hadj,Bool.or_false,decide_eq_false_iff_not];omega)
   exact ⟨[],by simp [C8,this]⟩
  ·rw [hl] at hadj
   have ff:=H7 e0 e2 e7 hlt p1 p2' p3 p4 q1 q2' q3 q4 hl
   refine D9M (x:=?_)
   clear ff
   refine .inl ⟨by simp,_,rfl,by simp [e0],by simp [e2],by simp,fun j h1 h2=>?_⟩
   by_cases hj:j=m+1
   ·rw [hj];exact hadj
   ·exact hgood j h1 (by omega)
 ·rintro st ⟨env',rfl,e0,e2,e7,hgood⟩
  have hnl:¬ (a+1+(b - (a+1)) < b):=by omega
  have ff:=aI4 e0 e2 e7 hnl
  refine A5O (x:=?_)
  clear ff
  refine ⟨by simp,?_⟩
  have ff:=e0
  refine A5O (x:=?_)
  clear ff
  have:S9 (pts s) a b=true:=B7R fun i hi=>by
   by_cases hle:i≤a
   ·simp [hle]
   ·simp [hgood i (by omega) (by omega)]
  exact ⟨[],by simp [C8,this]⟩
theorem c23 {h:A3} {s:Stt} {vt vp vs vi va vb:AV} (ra:StR h s vt vp vs vi va vb) (hsh:H6 s):SpecQ Tryz.prog 23 [eSt s vt vp vs vi va vb] h fun r=>r=(.bool (E4 s),h):=by
 have ta:=ra.cells
 have lt:=ra.ft.len
 have lp:=ra.fp.len
 have l1:=ra.fs.len
 have l2:=ra.fi.len
 have l3:=ra.fa.len
 have l4:=ra.fb.len
 rw [List.length_map] at l1 l2 l3 l4
 rw [←B7S]
 have hcl:=F4C s
 have hpl:=F8A s
 refine SpecQ.drop1 rfl (q23 fun env g0=>?_)
 cases hs:A1N s
 ·have hm:U2 s=false:=by unfold U2;rw [hs];rfl
  rw [hm]
  unfold A1N at hs
  simp only [Bool.not_eq_false'] at hs
  repeat' (first|((with_reducible refine I6 (a:=?_) ?_ ?_);rotate_left;(focus ((conv=>lhs;simp (disch:=omega) [g0,ta,lt,lp]);done));try dsimp only)|((with_reducible refine S6 ?_ ?_);(focus (simp (disch:=omega) [g0,ta,lt,lp];done)))|((with_reducible refine T4 ?_ ?_);(focus (simp (disch:=omega) [g0,ta,lt,lp];done));try dsimp only)|((with_reducible refine T5 ?_ ?_);(focus (simp (disch:=omega) [g0,ta,lt,lp];done));try dsimp only)|((with_reducible refine V3 ?_ ?_);(focus (simp (disch:=omega) [g0,ta,lt,lp] <;> omega)))|((with_reducible refine V4 ?_ ?_);(focus (simp (disch:=omega) [g0,ta,lt,lp] <;> omega)))|(with_reducible refine W0 ?_)|(with_reducible refine SpecQ.step (c37) ?_;rintro _ rfl;try dsimp only)|((with_reducible refine S3 (args':=?_) ?_ ?_);rotate_left;(focus ((conv=>lhs;simp (disch:=omega) [g0,ta,lt,lp]);done)))|(simp (decide:=true) only [A4W,J7,J4,I3,J3,I2,J2,J1,if_true,if_false,J5,J6])|(with_reducible refine A3R _ _ _ ?_)|(with_reducible refine A3W _ _ _ ?_)|((with_reducible refine a6 (b:=?_) ?_ ?_ ?_);rotate_left;(focus ((conv=>lhs;simp (disch:=omega) [g0,ta,lt,lp]);done));all_goals ((intro hb;try simp only [Bool.not_true,Bool.not_false] at hb);try simp only [hb]))|((with_reducible refine P8 (b:=?_) ?_ ?_ ?_);rotate_left;(focus ((conv=>lhs;simp (disch:=omega) [g0,ta,lt,lp]);done));all_goals ((intro hb;try simp only [Bool.not_true,Bool.not_false] at hb);try simp only [hb]))|((with_reducible refine W8 (b:=?_) ?_ ?_ ?_);rotate_left;(focus ((conv=>lhs;simp (disch:=omega) [g0,ta,lt,lp]);done));all_goals ((intro hb;try simp only [Bool.not_true,Bool.not_false] at hb);try simp only [hb]))|(with_reducible refine P4 ?_ ?_ <;> (intro hb;try simp only [Bool.not_true,Bool.not_false] at hb) <;> try simp only [hb])|(with_reducible refine U8 ?_ ?_ <;> (intro hb;try simp only [Bool.not_true,Bool.not_false] at hb) <;> try simp only [hb])|(with_reducible refine Y8 ?_ ?_ <;> (intro hb;try simp only [Bool.not_true,Bool.not_false] at hb) <;> try simp only [hb]))
  all_goals first
   | exact K6 rfl
   | (exfalso;simp_all;done)
 ·have hs':=hs
  simp only [A1N,Bool.not_eq_true',Bool.or_eq_false_iff,Bool.and_eq_false_iff,decide_eq_false_iff_not,Bool.not_eq_false',decide_eq_true_eq] at hs'
  obtain ⟨⟨s1,s2⟩,s3⟩:=hs'
  rcases s2 with s2|s2
  all_goals
   cases hl:A4F s
   ·have hm:U2 s=false:=by unfold U2;rw [hl,Bool.false_and,Bool.and_false]
    rw [hm]
    unfold A4F at hl
    simp only [Bool.not_eq_false'] at hl
    repeat' (first|((with_reducible refine I6 (a:=?_) ?_ ?_);rotate_left;(focus ((conv=>lhs;simp (disch:=omega) [g0,ta,lt,lp,l1,l2,l3,l4,s1,s2,s3]);done));try dsimp only)|((with_reducible refine S6 ?_ ?_);(focus (simp (disch:=omega) [g0,ta,lt,lp,l1,l2,l3,l4,s1,s2,s3];done)))|((with_reducible refine T4 ?_ ?_);(focus (simp (disch:=omega) [g0,ta,lt,lp,l1,l2,l3,l4,s1,s2,s3];done));try dsimp only)|((with_reducible refine T5 ?_ ?_);(focus (simp (disch:=omega) [g0,ta,lt,lp,l1,l2,l3,l4,s1,s2,s3];done));try dsimp only)|((with_reducible refine V3 ?_ ?_);(focus (simp (disch:=omega) [g0,ta,lt,lp,l1,l2,l3,l4,s1,s2,s3] <;> omega)))|((with_reducible refine V4 ?_ ?_);(focus (simp (disch:=omega) [g0,ta,lt,lp,l1,l2,l3,l4,s1,s2,s3] <;> omega)))|(with_reducible refine W0 ?_)|(with_reducible refine SpecQ.step (c37) ?_;rintro _ rfl;try dsimp only)|((with_reducible refine S3 (args':=?_) ?_ ?_);rotate_left;(focus ((conv=>lhs;simp (disch:=omega) [g0,ta,lt,lp,l1,l2,l3,l4,s1,s2,s3]);done)))|(simp (decide:=true) only [A4W,J7,J4,I3,J3,I2,J2,J1,if_true,if_false,J5,J6])|(with_reducible refine A3R _ _ _ ?_)|(with_reducible refine A3W _ _ _ ?_)|((with_reducible refine a6 (b:=?_) ?_ ?_ ?_);rotate_left;(focus ((conv=>lhs;simp (disch:=omega) [g0,ta,lt,lp,l1,l2,l3,l4,s1,s2,s3]);done));all_goals ((intro hb;try simp only [Bool.not_true,Bool.not_false] at hb);try simp only [hb]))|((with_reducible refine P8 (b:=?_) ?_ ?_ ?_);rotate_left;(focus ((conv=>lhs;simp (disch:=omega) [g0,ta,lt,lp,l1,l2,l3,l4,s1,s2,s3]);done));all_goals ((intro hb;try simp only [Bool.not_true,Bool.not_false] at hb);try simp only [hb]))|((with_reducible refine W8 (b:=?_) ?_ ?_ ?_);rotate_left;(focus ((conv=>lhs;simp (disch:=omega) [g0,ta,lt,lp,l1,l2,l3,l4,s1,s2,s3]);done));all_goals ((intro hb;try simp only [Bool.not_true,Bool.not_false] at hb);try simp only [hb]))|(with_reducible refine P4 ?_ ?_ <;> (intro hb;try simp only [Bool.not_true,Bool.not_false] at hb) <;> try simp only [hb])|(with_reducible refine U8 ?_ ?_ <;> (intro hb;try simp only [Bool.not_true,Bool.not_false] at hb) <;> try simp only [hb])|(with_reducible refine Y8 ?_ ?_ <;> (intro hb;try simp only [Bool.not_true,Bool.not_false] at hb) <;> try simp only [hb]))
    all_goals first
     | exact K6 rfl
     | (exfalso;simp_all;done)
   ·have hl':=hl
    simp only [A4F,Bool.not_eq_true',Bool.or_eq_false_iff,decide_eq_false_iff_not] at hl'
    obtain ⟨⟨⟨n1,n2⟩,n3⟩,n4⟩:=hl'
    have ff:=T9 g0 ta lt lp l1 l2 l3 l4 s1 s2 s3 n1 n2 n3 n4
    refine F7Q (x:=?_)
    clear ff
    refine SpecQ.step (c25 (ra.app _) hsh) ?_
    rintro ⟨y,h2⟩ ⟨y',u,e,hr⟩
    cases e
    have hx:Row C3 (h++⟨eSt s vt vp vs vi va vb,0,.own⟩::⟨eSt s vt vp vs vi va vb,0,.own⟩::u) y ((M4 s).map eCi):=by
     have:=hr.row (F:=h++[⟨eSt s vt vp vs vi va vb,0,.own⟩]++[⟨eSt s vt vp vs vi va vb,0,.own⟩]) (l:=[]) A1q (by simp)
     simpa using this
    simp only [List.append_assoc,List.cons_append,List.nil_append]
    have ly:=hx.len
    rw [List.length_map] at ly
    have ff:=aI8 g0 ta lt lp l1 l2 l3 l4
    refine N4 (x:=?_)
    clear ff
    refine SpecQ.step (c38 (s:=s) (a:=0) (b:=s.seats.length) hx (by omega) (by omega)) ?_
    rintro _ rfl
    cases b0:S9 (pts s) 0 s.seats.length
    ·have ff:=aI8 g0 ta lt lp l1 l2 l3 l4
     refine N4 (x:=?_)
     clear ff
     refine K6 ?_
     unfold U2 A03;rw [b0];simp
    have ff:=aI8 g0 ta lt lp l1 l2 l3 l4
    refine N4 (x:=?_)
    clear ff
    refine SpecQ.step (c38 (s:=s) (a:=s.seats.length) (b:=s.seats.length+s.invites.length) hx (by omega) (by omega)) ?_
    rintro _ rfl
    cases b1:S9 (pts s) s.seats.length (s.seats.length+s.invites.length)
    ·have ff:=aI8 g0 ta lt lp l1 l2 l3 l4
     refine N4 (x:=?_)
     clear ff
     refine K6 ?_
     unfold U2 A03;rw [b0,b1];simp
    have ff:=aI8 g0 ta lt lp l1 l2 l3 l4
    refine N4 (x:=?_)
    clear ff
    refine SpecQ.step (c38 (s:=s) (a:=s.seats.length+s.invites.length) (b:=s.seats.length+s.invites.length+s.asks.length) hx (by omega) (by omega)) ?_
    rintro _ rfl
    cases b2:S9 (pts s) (s.seats.length+s.invites.length) (s.seats.length+s.invites.length+s.asks.length)
    ·have ff:=aI8 g0 ta lt lp l1 l2 l3 l4
     refine N4 (x:=?_)
     clear ff
     refine K6 ?_
     unfold U2 A03;rw [b0,b1,b2];simp
    have ff:=aI8 g0 ta lt lp l1 l2 l3 l4
    refine N4 (x:=?_)
    clear ff
    refine SpecQ.step (c38 (s:=s) (a:=s.seats.length+s.invites.length+s.asks.length) (b:=s.seats.length+s.invites.length+s.asks.length+s.bans.length) hx (by omega) (by omega)) ?_
    rintro _ rfl
    cases b3:S9 (pts s) (s.seats.length+s.invites.length+s.asks.length) (s.seats.length+s.invites.length+s.asks.length+s.bans.length)
    ·have ff:=aI8 g0 ta lt lp l1 l2 l3 l4
     refine N4 (x:=?_)
     clear ff
     refine K6 ?_
     unfold U2 A03;rw [b0,b1,b2,b3];simp
    have hadj:A03 s=true:=by unfold A03;rw [b0,b1,b2,b3];rfl
    have ff:=aI8 g0 ta lt lp l1 l2 l3 l4
    refine N4 (x:=?_)
    clear ff
    clear hr
    obtain ⟨T,hT⟩:∃ T,(⟨eSt s vt vp vs vi va vb,0,.own⟩::⟨eSt s vt vp vs vi va vb,0,.own⟩::u:A3)=T:=⟨_,rfl⟩
    have cst:blkAt (h++T) h.length 0=some ⟨eSt s vt vp vs vi va vb,0,.own⟩:=by rw [←hT];simp
    rw [hT] at hx ⊢
    clear hT
    have hbound:=hx.bound
    rw [List.length_map] at hbound
    refine G0 (M4 s).length (fun i st=>∃ env',st=⟨env',h++T⟩∧env'.get 1=.ptr h.length 0 [] A6∧env'.get 3=nat s.seats.length∧env'.get 4=nat s.invites.length∧env'.get 7=y∧env'.get 8=nat i∧∀ j,j < i→A2l (pts s) j=true) ?_ ?_ ⟨_,rfl,by simp,by simp,by simp,by simp,by simp,fun j hj=>absurd hj (by omega)⟩
    ·rintro i st hi ⟨env',rfl,e1,e3,e4,e7,e8,hgood⟩
     have ff:=aI6 e1 e3 e4 e7 e8 ly
     refine N4 (x:=?_)
     clear ff
     refine G0 i (fun k st=>∃ env',st=⟨env',h++T⟩∧env'.get 1=.ptr h.length 0 [] A6∧env'.get 3=nat s.seats.length∧env'.get 4=nat s.invites.length∧env'.get 7=y∧env'.get 8=nat i∧env'.get 9=nat k∧∀ j,j < k→(pts s).getD i pt0≠(pts s).getD j pt0) ?_ ?_ ⟨_,rfl,by simp [e1],by simp [e3],by simp [e4],by simp [e7],by simp [e8],by simp,fun j hj=>absurd hj (by omega)⟩
     ·rintro k st hk ⟨env',rfl,e1,e3,e4,e7,e8,e9,hne⟩
      obtain ⟨pb,pv,pp,bb,p1,p2,p3,p4⟩:=hx.idxE hi
      obtain ⟨qb,qv,qp,cc,q1,q2,q3,q4⟩:=hx.idxE (i:=k) (by omega)
      have p2':=p2 []
      have q2':=q2 []
      rw [List.append_nil] at p2' q2'
      by_cases hq:(M4 s)[i].e=(M4 s)[k].e
      ·have hno : A2u (pts s) = false := C0d (i := i) (by omega) (by
        unfold A2l
        exact C0d hk (by rw [A2B hi,A2B (by omega),hq];simp))
       have ff:=T9 e1 e3 e4 e7 e8 e9 p1 p2' p3 p4 q1 q2' q3 q4 hq
       refine N4 (x:=?_)
       clear ff
       refine .inr ⟨by simp,?_⟩
       have ff:=e1
       refine N4 (x:=?_)
       clear ff
       refine .inr ⟨by simp,?_⟩
       have ff:=e1
       refine N4 (x:=?_)
       clear ff
       refine K6 ?_
       unfold U2;rw [hno];simp
      ·have ff:=T9 e1 e3 e4 e7 e8 e9 p1 p2' p3 p4 q1 q2' q3 q4 hq
       refine N4 (x:=?_)
       clear ff
       refine .inl ⟨by simp,_,rfl,by simp [e1],by simp [e3],by simp [e4],by simp [e7],by simp [e8],by simp,fun j hj=>?_⟩
       by_cases hji:j=k
       ·rw [hji,A2B hi,A2B (by omega)];exact hq
       ·exact hne j (by omega)
     ·rintro st ⟨env',rfl,e1,e3,e4,e7,e8,e9,hne⟩
      have ff:=aI6 e1 e3 e4 e7 e8 e9
      refine N4 (x:=?_)
      clear ff
      refine ⟨by simp,?_⟩
      have ff:=aI6 e1 e3 e4 e7 e8 e9
      refine N4 (x:=?_)
      clear ff
      refine .inl ⟨by simp,_,rfl,by simp [e1],by simp [e3],by simp [e4],by simp [e7],by simp,fun j hj=>?_⟩
      by_cases hji:j=i
      ·subst hji
       unfold A2l
       exact B7R fun k hk=>by simpa using hne k hk
      ·exact hgood j (by omega)
    rintro st ⟨env',rfl,e1,e3,e4,e7,e8,hgood⟩
    have hnod:A2u (pts s)=true:=B7R fun i hi=>hgood i (by omega)
    have ff:=aI6 e1 e3 e4 e7 e8 ly
    refine N4 (x:=?_)
    clear ff
    refine ⟨by simp,?_⟩
    have ff:=aI6 e1 e3 e4 e7 e8 ly
    refine N4 (x:=?_)
    clear ff
    refine G0 s.seats.length (fun i st=>∃ env',st=⟨env',h++T⟩∧env'.get 1=.ptr h.length 0 [] A6∧env'.get 3=nat s.seats.length∧env'.get 4=nat s.invites.length∧env'.get 10=nat i∧∀ j (hj:j < s.seats.length),j < i→roleOk s.seats[j].role=true) ?_ ?_ ⟨_,rfl,by simp [e1],by simp [e3],by simp [e4],by simp,fun j _ hj=>absurd hj (by omega)⟩
    ·rintro i st hi ⟨env',rfl,e1,e3,e4,e10,hgood⟩
     obtain ⟨pb,pv,pp,bb,p1,p2,p3,p4⟩:=ra.fs.idxE hi
     cases hr:roleOk s.seats[i].role
     ·have ff:=D8 e1 e3 e4 e10 ta cst p1 p2 p3 p4 hr
      refine A5P (x:=?_)
      clear ff
      refine .inr ⟨by simp,?_⟩
      have ff:=e1
      refine N4 (x:=?_)
      clear ff
      refine K6 ?_
      have:(s.seats.all fun x=>roleOk x.role)=false:=by
       rw [List.all_eq_false];exact ⟨_,List.getElem_mem hi,by simp [hr]⟩
      unfold U2;rw [this];simp
     ·have ff:=D8 e1 e3 e4 e10 ta cst p1 p2 p3 p4 hr
      refine A5P (x:=?_)
      clear ff
      refine .inl ⟨by simp,_,rfl,by simp [e1],by simp [e3],by simp [e4],by simp,fun j hj hji=>?_⟩
      by_cases hq:j=i
      ·subst hq;exact hr
      ·exact hgood j hj (by omega)
    rintro st ⟨env',rfl,e1,e3,e4,e10,hgood⟩
    have hr1:(s.seats.all fun x=>roleOk x.role)=true:=by
     rw [List.all_eq_true]
     intro x hx
     obtain ⟨j,hj,rfl⟩:=List.getElem_of_mem hx
     exact hgood j hj hj
    have ff:=aI4 e1 e3 e4 e10
    refine N4 (x:=?_)
    clear ff
    refine ⟨by simp,?_⟩
    have ff:=aI4 e1 e3 e4 e10
    refine N4 (x:=?_)
    clear ff
    refine G0 s.invites.length (fun i st=>∃ env',st=⟨env',h++T⟩∧env'.get 1=.ptr h.length 0 [] A6∧env'.get 3=nat s.seats.length∧env'.get 4=nat s.invites.length∧env'.get 11=nat i∧∀ j (hj:j < s.invites.length),j < i→roleOk s.invites[j].role=true) ?_ ?_ ⟨_,rfl,by simp [e1],by simp [e3],by simp [e4],by simp,fun j _ hj=>absurd hj (by omega)⟩
    ·rintro i st hi ⟨env',rfl,e1,e3,e4,e10,hgood⟩
     obtain ⟨pb,pv,pp,bb,p1,p2,p3,p4⟩:=ra.fi.idxE hi
     cases hr:roleOk s.invites[i].role
     ·have ff:=D8 e1 e3 e4 e10 ta cst p1 p2 p3 p4 hr
      refine A5P (x:=?_)
      clear ff
      refine .inr ⟨by simp,?_⟩
      have ff:=e1
      refine N4 (x:=?_)
      clear ff
      refine K6 ?_
      have:(s.invites.all fun x=>roleOk x.role)=false:=by
       rw [List.all_eq_false];exact ⟨_,List.getElem_mem hi,by simp [hr]⟩
      unfold U2;rw [this];simp
     ·have ff:=D8 e1 e3 e4 e10 ta cst p1 p2 p3 p4 hr
      refine A5P (x:=?_)
      clear ff
      refine .inl ⟨by simp,_,rfl,by simp [e1],by simp [e3],by simp [e4],by simp,fun j hj hji=>?_⟩
      by_cases hq:j=i
      ·subst hq;exact hr
      ·exact hgood j hj (by omega)
    rintro st ⟨env',rfl,e1,e3,e4,e10,hgood⟩
    have hr2:(s.invites.all fun x=>roleOk x.role)=true:=by
     rw [List.all_eq_true]
     intro x hx
     obtain ⟨j,hj,rfl⟩:=List.getElem_of_mem hx
     exact hgood j hj hj
    have ff:=aI4 e1 e3 e4 e10
    refine N4 (x:=?_)
    clear ff
    refine ⟨by simp,?_⟩
    have ff:=aI4 e1 e3 e4 e10
    refine N4 (x:=?_)
    clear ff
    refine K6 ?_
    unfold U2;rw [hs,hl,hadj,hnod,hr1,hr2];rfl
end Go.Vab

namespace Go.Vab
open Go Go.Proofs
noncomputable section
def B6I:Ctx:=⟨fun _ _ _ => none,TT,50,[7,8,9,10,11,12,13,14,15,16,17,18,19,20,21,22,23,24,26,27,28,29,30,31,32,33,34,35,36,37,38,39,40,41,42,43,44,45,46,47,48,49]⟩
def D5B:=B8 Tryz.f84
def D5C:=cR D5B
def D5D:=cR D5C
def B5d:=cR D5D
def D5E:=cL B5d
def D5F:=cB D5E
def B5e:=cB D5F
def D5G:=cL B5e
def B5f:=cR D5G
def F19:=cL B5f
def E8B:=cR B5f
def C72:=cR B5e
def E8C:=cB C72
def C73:=cR B5d
def C74:=cR C73
def C75:=cR C74
def C76:=cR C75
def E8D:=cR C76
def q84:=zQ2 B6I 84 Tryz.f84 D5B fun s=>(bnd (D6 A6 (s.env.get 4) s.heap) fun v=>bnd (some []) fun vs=>some (v::vs))
def E1b:=zDr B6I [B5f,D5G] [] [0,0,2,6,15,31,63,127,63,511,1023,2047,4095,63,8255,24639,65535,131071] [0,1,2,3,4,5,6,7,8,9,10,11,12,13,14,15,16,17] .f
def D9N:=zDr B6I [C76,C75] [6,8] [0,1,0,4,0,28,63,127,255] [0,1,2,3,4,5] (.o 6 [7] [] (.o 8 [] [] .f))
def F3a:=B3 B6I [[F19],[E8B],[F19,E8B,B5f],[E8C],[E8C,C72],[D5G,C72,B5e],[B5e,D5F],[D5F,D5E],[E8D],[E8D,C76],[C75,C74],[C74,C73],[D5E,C73,B5d],[B5d,D5D],[D5D,D5C],[D5C,D5B]]
end
end Go.Vab

namespace Go.Vab
open Go Go.Proofs
theorem A15 {G X:Prop} (f:Hd X→G:=by
 intro xX
 repeat' (first|refine stp (x:=?_)|(simp (decide:=true) only [F3a,snB,if_true,if_false])|(with_reducible refine E1b _ _ _ ?_)|(with_reducible refine D9N _ _ _ ?_))
 exact xX.get) (x:X):G:=f ⟨x⟩
theorem D9O {G X:Prop} (f:Hd X→G:=by
 intro xX
 repeat' (first|refine stp (x:=?_)|(with_reducible refine A5 (c86) ?_;try dsimp only)|(with_reducible refine SpecQ.step (c86) ?_;rintro _ rfl;try dsimp only)|(simp (decide:=true) only [F3a,snB,if_true,if_false])|(with_reducible refine E1b _ _ _ ?_)|(with_reducible refine D9N _ _ _ ?_))
 exact xX.get) (x:X):G:=f ⟨x⟩
attribute [local irreducible] E9 Evs gW D9 E8 G5
theorem A40 {X:Type} {E:X→AV} (l:List X) (n:Nat):(l.map E).take n=(l.take n).map E:=by rw [List.map_take]
theorem A41 {X:Type} {E:X→AV} (l:List X) (n:Nat):(l.map E).drop n=(l.drop n).map E:=by rw [List.map_drop]
def zSt:AV:=C1 0#32 ci0 D4 .nilslice .nilslice .nilslice .nilslice .nilslice .nilslice
@[simp] theorem G7q:A4 zSt A6=true:=by unfold zSt;simp
theorem c84 {h : A3} {s : Stt} {vt vp vs vi va vb : AV} {x : Seat} (ra : StR h s vt vp vs vi va vb) (hs : H6 s) :
  SpecQ Tryz.prog 84 [eSt s vt vp vs vi va vb,B0 x] h fun r=>∃ y t,r=(eSt s vt vp y vi va vb,h++t)∧StR (h++t) { s with seats:=ins fS s.seats x } vt vp y vi va vb∧Lo h.length .nilslice y:=by
 have ta:=ra.cells
 have l1:=ra.fs.len
 have hb:=ra.fs.bound
 rw [List.length_map] at l1 hb
 have hzp:∀ v,zSt.put [] v=some v:=fun v=>by simp
 refine q84 fun env g0 g1=>?_
 have ff:=aI3 g0 g1 ta
 refine A15 (x:=?_)
 clear ff
 refine Y9 (fun r=>∃ env',r=(.exit 0,⟨env',h++[⟨eSt s vt vp vs vi va vb,0,.own⟩,⟨B0 x,0,.own⟩,⟨zSt,0,.own⟩,⟨eSt s vt vp vs vi va vb,0,.own⟩]⟩)∧env'.get 2=.ptr h.length 0 [] A6∧env'.get 3=.ptr (h.length+1) 0 [] A7∧env'.get 4=.ptr (h.length+2) 0 [] A6∧env'.get 5=.ptr (h.length+3) 0 [] A6∧env'.get 6=nat (low fS s.seats (fS x))) ?_ ?_
 ·refine G0 s.seats.length (fun i st => ∃ env', st = ⟨env', h ++ [⟨eSt s vt vp vs vi va vb, 0, .own⟩, ⟨B0 x, 0, .own⟩, ⟨zSt, 0, .own⟩, ⟨eSt s vt vp vs vi va vb, 0, .own⟩]⟩ ∧ env'.get 2 = .ptr h.length 0 [] A6 ∧ env'.get 3 = .ptr (h.length + 1) 0 [] A7 ∧ env'.get 4 = .ptr (h.length + 2) 0 [] A6 ∧ env'.get 5 = .ptr (h.length + 3) 0 [] A6 ∧ env'.get 6 = nat i ∧
   ∀ j (hj:j < s.seats.length),j < i→ltP (fS s.seats[j]) (fS x)=true) ?_ ?_ ⟨_,rfl,by simp,by simp,by simp,by simp,by simp,fun j _ hj=>absurd hj (by omega)⟩
  ·rintro i st hi ⟨env',rfl,e2,e3,e4,e5,e6,hlt⟩
   obtain ⟨pb,pv,pp,bb,p1,p2,p3,p4⟩:=ra.fs.idxE hi
   cases hq:ltP s.seats[i].who.e x.who.e
   ·have hlow:low fS s.seats (fS x)=i:=X8 fS (by omega) hlt (fun _ => hq)
    have ff:=H7 e2 e3 e4 e5 e6 ta l1 hi p1 p2 p3 p4 hq
    refine D9O (x:=?_)
    clear ff
    exact .inr ⟨by simp,_,rfl,by simp [e2],by simp [e3],by simp [e4],by simp [e5],by simp [e6,hlow]⟩
   ·have ff:=H7 e2 e3 e4 e5 e6 ta l1 hi p1 p2 p3 p4 hq
    refine D9O (x:=?_)
    clear ff
    refine .inl ⟨by simp,_,rfl,by simp [e2],by simp [e3],by simp [e4],by simp [e5],by simp,fun j hj hji=>?_⟩
    by_cases hq':j=i
    ·subst hq';exact hq
    ·exact hlt j hj (by omega)
  ·rintro st ⟨env',rfl,e2,e3,e4,e5,e6,hlt⟩
   have hlow:low fS s.seats (fS x)=s.seats.length:=X8 fS (Nat.le_refl _) hlt (fun hi=>absurd hi (by omega))
   have ff:=aI7 e2 e3 e4 e5 e6 ta l1
   refine A15 (x:=?_)
   clear ff
   exact ⟨by simp,_,rfl,by simp [e2],by simp [e3],by simp [e4],by simp [e5],by simp [e6,hlow]⟩
 rintro r ⟨env,rfl,e2,e3,e4,e5,e6⟩
 obtain ⟨s1,_,_,_⟩:=hs
 have hn:=A0o fS s.seats (fS x)
 generalize hN:low fS s.seats (fS x)=n at e6 hn
 obtain ⟨y1,f1,r1,_⟩:=ra.fs.pre (n:=n) (by simpa using hn)
 obtain ⟨y2,f2,r2,_⟩:=ra.fs.suf (n:=n) (by simpa using hn)
 rw [A40] at r1
 rw [A41] at r2
 have ff:=aI8 e2 e3 e4 e5 e6 ta f1 f2
 refine A15 (x:=?_)
 clear ff
 refine Y2 (h:=h) [⟨eSt s vt vp vs vi va vb,0,.own⟩,⟨B0 x,0,.own⟩,⟨zSt,0,.own⟩,⟨eSt s vt vp vs vi va vb,0,.own⟩] [⟨.node [],0,.own⟩] [] (n:=h.length+4) (es:=[]) (new:=(s.seats.take n).map B0) rfl rfl s8 (fun _ => rfl) RnU.one (r1.app _).1 (by simp;omega) (by omega) fun x1 u1 g1 _ _ _ => ?_
 have c1:=g1.cell
 simp only [List.nil_append,List.cons_append] at g1 ⊢
 have ff:=aI9 e2 e3 e4 e5 e6 ta f1 f2 c1
 refine A15 (x:=?_)
 clear ff
 refine Y2 (h:=h) [⟨eSt s vt vp vs vi va vb,0,.own⟩,⟨B0 x,0,.own⟩,⟨zSt,0,.own⟩,⟨eSt s vt vp x1 vi va vb,0,.own⟩] u1 [⟨.node [B0 x],0,.own⟩] (n:=h.length+4) (es:=(s.seats.take n).map B0) (new:=[B0 x]) rfl rfl s8 (fun _ => rfl) g1 (by rw [M6];simp) (by simp;omega) (by omega) fun x2 u2 g2 _ _ _ => ?_
 have c2:=g2.cell
 simp only [List.nil_append,List.cons_append] at g2 ⊢
 have ff:=aI9 e2 e3 e4 e5 e6 ta f1 f2 c2
 refine A15 (x:=?_)
 clear ff
 refine Y2 (h:=h) [⟨eSt s vt vp vs vi va vb,0,.own⟩,⟨B0 x,0,.own⟩,⟨zSt,0,.own⟩,⟨eSt s vt vp x2 vi va vb,0,.own⟩] u2 [] (n:=h.length+4) (es:=(s.seats.take n).map B0++[B0 x]) (new:=(s.seats.drop n).map B0) (by simp) rfl s8 (fun _ => rfl) g2 (r2.app _).1 (by simp;omega) (by omega) fun x3 u3 g3 _ _ _ => ?_
 have c3:=g3.cell
 simp only [List.nil_append,List.cons_append] at g3 ⊢
 have hrow:=g3.row (F:=h++[⟨eSt s vt vp vs vi va vb,0,.own⟩,⟨B0 x,0,.own⟩,⟨eSt s vt vp x3 vi va vb,0,.own⟩,⟨eSt s vt vp x3 vi va vb,0,.own⟩]) (l:=[]) s8 (by simp)
 have ff:=E3 e2 e3 e4 e5 e6 ta f1 f2 c3 hzp
 refine A15 (x:=?_)
 clear ff
 exact ⟨x3,_,rfl,⟨ra.ft.app _,ra.fp.app _,by simpa [ins,hN] using hrow,ra.fi.app _,ra.fa.app _,ra.fb.app _⟩,fun b hb=>.inr (by have:=(g3.rb_ge b hb).1;omega)⟩
end Go.Vab

namespace Go.Vab
open Go Go.Proofs
noncomputable section
def A0E:Ctx:=⟨fun _ _ _ => none,TT,140,[13,14,15,16,18,19,20,21,24,25,26,27,28,29,31,32,33,34,35,36,37,38,39,40,42,43,44,45,46,47,48,49,50,51,53,54,55,56,57,58,60,61,62,63,64,65,66,67,68,69,71,72,73,74,75,76,77,78,79,80,82,83,84,85,86,87,89,90,91,92,93,94,95,96,97,98,100,101,102,103,104,105,106,107,108,109,111,112,113,114,115,116,118,119,120,121,122,123,124,125,126,127,129,130,131,132,133,134,135,136,137,138,139]⟩
def D5H:=B8 Tryz.f85
def D5I:=cR D5H
def B5g:=cR D5I
def D5J:=cL B5g
def D5K:=cR D5J
def D5L:=cB D5K
def B5h:=cB D5L
def D5M:=cL B5h
def B5i:=cR D5M
def F2A:=cL B5i
def E8E:=cR B5i
def B2K:=cR B5h
def C77:=cL B2K
def C78:=cB C77
def C79:=cR C78
def C8A:=cB C79
def B2L:=cR C8A
def C8B:=cL B2L
def C8C:=cR C8B
def C8D:=cR C8C
def C8E:=cB C8D
def B2M:=cB C8E
def C8F:=cL B2M
def B2N:=cR C8F
def E8F:=cL B2N
def E8G:=cR B2N
def B2O:=cR B2M
def C8G:=cL B2O
def C8H:=cB C8G
def B2P:=cR C8H
def E8H:=cL B2P
def E8I:=cR B2P
def E8J:=cR B2O
def C8I:=cR B2L
def B2Q:=cR C8I
def C8J:=cL B2Q
def C8K:=cR C8J
def C8L:=cR C8K
def C8M:=cB C8L
def B2R:=cB C8M
def C8N:=cL B2R
def B2S:=cR C8N
def E8K:=cL B2S
def E8L:=cR B2S
def B2T:=cR B2R
def C8O:=cL B2T
def C8P:=cB C8O
def B2U:=cR C8P
def E8M:=cL B2U
def E8N:=cR B2U
def E8O:=cR B2T
def C8Q:=cR B2Q
def B2V:=cR C8Q
def C8R:=cL B2V
def C8S:=cR C8R
def C8T:=cR C8S
def C8U:=cB C8T
def B2W:=cB C8U
def C8V:=cL B2W
def B2X:=cR C8V
def E8P:=cL B2X
def E8Q:=cR B2X
def B2Y:=cR B2W
def C8W:=cL B2Y
def C8X:=cB C8W
def B2Z:=cR C8X
def E8R:=cL B2Z
def E8S:=cR B2Z
def E8T:=cR B2Y
def C8Y:=cR B2V
def B2a:=cR C8Y
def C8Z:=cL B2a
def C8a:=cR C8Z
def C8b:=cR C8a
def C8c:=cB C8b
def B2b:=cB C8c
def C8d:=cL B2b
def B2c:=cR C8d
def E8U:=cL B2c
def E8V:=cR B2c
def B2d:=cR B2b
def C8e:=cL B2d
def C8f:=cB C8e
def B2e:=cR C8f
def E8W:=cL B2e
def E8X:=cR B2e
def E8Y:=cR B2d
def E8Z:=cR B2a
def E8a:=cR B2K
def C8g:=cR B5g
def E8b:=cR C8g
def q85:=zQ3 A0E 85 Tryz.f85 D5H fun s=>(bnd (D6 A6 (s.env.get 6) s.heap) fun v=>bnd (some []) fun vs=>some (v::vs))
def F7R:=zDr A0E [E8H] [7,8,10] [0,1,0,4,0,28,60,124,255,511,1023] [0,1,2,3,4,5,6] (.o 7 [] [1] (.o 8 [9] [] (.o 10 [] [] .f)))
def F7S:=zDr A0E [B2P,C8H] [] [0,1,0,7,15,31,63,0,255] [0,1,2,3,4,5,6,7,8] .f
def F7T:=zDr A0E [E8M] [7,8,10] [0,1,0,4,0,28,60,124,255,511,1023] [0,1,2,3,4,5,6] (.o 7 [] [1] (.o 8 [9] [] (.o 10 [] [] .f)))
def F7U:=zDr A0E [B2U,C8P] [] [0,1,0,7,15,31,63,0,255] [0,1,2,3,4,5,6,7,8] .f
def F7V:=zDr A0E [E8R] [7,8,10] [0,1,0,4,0,28,60,124,255,511,1023] [0,1,2,3,4,5,6] (.o 7 [] [1] (.o 8 [9] [] (.o 10 [] [] .f)))
def F7W:=zDr A0E [B2Z,C8X] [] [0,1,0,7,15,31,63,0,255] [0,1,2,3,4,5,6,7,8] .f
def F7X:=zDr A0E [E8W] [7,8,10] [0,1,0,4,0,28,60,124,255,511,1023] [0,1,2,3,4,5,6] (.o 7 [] [1] (.o 8 [9] [] (.o 10 [] [] .f)))
def F7Y:=zDr A0E [B2e,C8f] [] [0,1,0,7,15,31,63,0,255] [0,1,2,3,4,5,6,7,8] .f
def G23:=B3 A0E [[F2A],[E8E],[F2A,E8E,B5i],[B5i,D5M],[E8F],[E8G],[E8F,E8G,B2N],[B2N,C8F],[E8I],[E8H,E8I,B2P],[C8H,C8G],[E8J],[C8G,E8J,B2O],[C8F,B2O,B2M],[B2M,C8E],[C8E,C8D],[C8D,C8C],[C8C,C8B],[E8K],[E8L],[E8K,E8L,B2S],[B2S,C8N],[E8N],[E8M,E8N,B2U],[C8P,C8O],[E8O],[C8O,E8O,B2T],[C8N,B2T,B2R],[B2R,C8M],[C8M,C8L],[C8L,C8K],[C8K,C8J],[E8P],[E8Q],[E8P,E8Q,B2X],[B2X,C8V],[E8S],[E8R,E8S,B2Z],[C8X,C8W],[E8T],[C8W,E8T,B2Y],[C8V,B2Y,B2W],[B2W,C8U],[C8U,C8T],[C8T,C8S],[C8S,C8R],[E8U],[E8V],[E8U,E8V,B2c],[B2c,C8d],[E8X],[E8W,E8X,B2e],[C8f,C8e],[E8Y],[C8e,E8Y,B2d],[C8d,B2d,B2b],[B2b,C8c],[C8c,C8b],[C8b,C8a],[C8a,C8Z],[E8Z],[C8Z,E8Z,B2a],[B2a,C8Y],[C8R,C8Y,B2V],[B2V,C8Q],[C8J,C8Q,B2Q],[B2Q,C8I],[C8B,C8I,B2L],[B2L,C8A],[C8A,C79],[C79,C78],[C78,C77],[E8a],[C77,E8a,B2K],[D5M,B2K,B5h],[B5h,D5L],[D5L,D5K],[D5K,D5J],[E8b],[E8b,C8g],[D5J,C8g,B5g],[B5g,D5I],[D5I,D5H]]
end
end Go.Vab

namespace Go.Vab
open Go Go.Proofs
theorem L8 {G X:Prop} (f:Hd X→G:=by
 intro xX
 repeat' (first|refine stp (x:=?_)|(simp (decide:=true) only [G23,snB,if_true,if_false])|(with_reducible refine F7R _ _ _ ?_)|(with_reducible refine F7S _ _ _ ?_)|(with_reducible refine F7T _ _ _ ?_)|(with_reducible refine F7U _ _ _ ?_)|(with_reducible refine F7V _ _ _ ?_)|(with_reducible refine F7W _ _ _ ?_)|(with_reducible refine F7X _ _ _ ?_)|(with_reducible refine F7Y _ _ _ ?_))
 exact xX.get) (x:X):G:=f ⟨x⟩
attribute [local irreducible] E9 Evs gW D9 E8 G5
theorem c85 {h : A3} {s : Stt} {vt vp vs vi va vb : AV} {e : Pt} {ls : Bs} (ra : StR h s vt vp vs vi va vb) (hs : H6 s) (hls : ls.length ≤ 10) :
  SpecQ Tryz.prog 85 [eSt s vt vp vs vi va vb,pt e,.str (J9 ls)] h fun r=>∃ x1 x2 x3 x4 t,r=(eSt s vt vp x1 x2 x3 x4,h++t)∧StR (h++t) (W5 s e ls) vt vp x1 x2 x3 x4∧Lo h.length vs x1∧Lo h.length vi x2∧Lo h.length va x3∧Lo h.length vb x4:=by
 obtain ⟨s1,s2,s3,s4⟩:=hs
 have ta:=ra.cells
 have l1:=ra.fs.len
 have l2:=ra.fi.len
 have l3:=ra.fa.len
 have l4:=ra.fb.len
 rw [List.length_map] at l1 l2 l3 l4
 have hzp:∀ v,zSt.put [] v=some v:=fun v=>by simp
 refine q85 fun env g0 g1 g2=>?_
 have ff:=aI4 g0 g1 g2 ta
 refine L8 (x:=?_)
 clear ff
 refine G0 ls.length (fun k st=>∃ env' u x1 x2 x3 x4,st=⟨env',h++⟨eSt s vt vp vs vi va vb,0,.own⟩::⟨pt e,0,.own⟩::⟨zSt,0,.own⟩::⟨eSt s vt vp x1 x2 x3 x4,0,.own⟩::u⟩∧env'.get 2=.str (J9 ls)∧env'.get 3=.ptr h.length 0 [] A6∧env'.get 4=.ptr (h.length+1) 0 [] (.arr 32 (.int .u8))∧env'.get 6=.ptr (h.length+2) 0 [] A6∧env'.get 7=.ptr (h.length+3) 0 [] A6∧env'.get 8=nat k ∧
  Fld A7 (h.length+4) h u x1 ((W5 s e (ls.take k)).seats.map B0)∧Fld B1 (h.length+4) h u x2 ((W5 s e (ls.take k)).invites.map B7)∧Fld B5 (h.length+4) h u x3 ((W5 s e (ls.take k)).asks.map B9)∧Fld B4 (h.length+4) h u x4 ((W5 s e (ls.take k)).bans.map B2)∧Lo h.length vs x1∧Lo h.length vi x2∧Lo h.length va x3∧Lo h.length vb x4) ?_ ?_
  ⟨_,[],vs,vi,va,vb,rfl,by simp [g2],by simp,by simp,by simp,by simp,by simp,.inl ra.fs,.inl ra.fi,.inl ra.fa,.inl ra.fb,.self _ _,.self _ _,.self _ _,.self _ _⟩
 ·rintro k st hk ⟨env',u,x1,x2,x3,x4,rfl,e2,e3,e4,e6,e7,e8,f1,f2,f3,f4,o1,o2,o3,o4⟩
  have hix:=F85 hk
  have hsn:=F4y (s:=s) (e:=e) hk
  have b1:=f1.cell
  have b2:=f2.cell
  have b3:=f3.cell
  have b4:=f4.cell
  by_cases w115:ls[k]=115#8
  ·have ff:=N9 e2 e3 e4 e6 e7 e8 hk hix ta b1 b2 b3 b4 w115
   refine L8 (x:=?_)
   clear ff
   refine Y9 (fun r=>∃ env' u' y,r=(.exit 3,⟨env',h++⟨eSt s vt vp vs vi va vb,0,.own⟩::⟨pt e,0,.own⟩::⟨zSt,0,.own⟩::⟨eSt s vt vp y x2 x3 x4,0,.own⟩::u'⟩)∧env'.get 2=.str (J9 ls)∧env'.get 3=.ptr h.length 0 [] A6∧env'.get 4=.ptr (h.length+1) 0 [] (.arr 32 (.int .u8))∧env'.get 6=.ptr (h.length+2) 0 [] A6∧env'.get 7=.ptr (h.length+3) 0 [] A6∧env'.get 8=nat k ∧
    RnU A7 (h.length+4) u' y ((del fS s.seats e).map B0)∧(∀ j,j < u.length→u'[j]?=u[j]?)∧∀ b,rb y=some b→h.length≤b) ?_ ?_
   ·refine G0 s.seats.length (fun i st => ∃ env' u' y, st = ⟨env', h ++ ⟨eSt s vt vp vs vi va vb, 0, .own⟩ :: ⟨pt e, 0, .own⟩ :: ⟨zSt, 0, .own⟩ :: ⟨eSt s vt vp y x2 x3 x4, 0, .own⟩ :: u'⟩ ∧ env'.get 2 = .str (J9 ls) ∧ env'.get 3 = .ptr h.length 0 [] A6 ∧ env'.get 4 = .ptr (h.length + 1) 0 [] (.arr 32 (.int .u8)) ∧ env'.get 6 = .ptr (h.length + 2) 0 [] A6 ∧ env'.get 7 = .ptr (h.length + 3) 0 [] A6 ∧ env'.get 8 = nat k ∧ env'.get 9 = nat i ∧
     RnU A7 (h.length+4) u' y ((del fS (s.seats.take i) e).map B0)∧(∀ j,j < u.length→u'[j]?=u[j]?)∧u.length≤u'.length∧(∀ b,rb y=some b→h.length+4+u.length≤b)) ?_ ?_
     ⟨_,u,.nilslice,rfl,by simp [e2],by simp [e3],by simp [e4],by simp [e6],by simp [e7],by simp [e8],by simp,RnU.nil _ _ _,fun _ _ => rfl,Nat.le_refl _,fun b hb=>by cases hb⟩
    ·rintro i st hi ⟨env',u',y,rfl,e2,e3,e4,e6,e7,e8,e9,hr,hu,hul,hrb⟩
     obtain ⟨pb,pv,pp,bb,p1,p2,p3,p4⟩:=ra.fs.idxE hi
     have hsn:=A5B fS s.seats e hi
     have cy:=hr.cell
     have hdl:(del fS (s.seats.take i) e).length≤1000:=by
      unfold del
      exact Nat.le_trans (List.length_filter_le _ _) (by simp;omega)
     by_cases hq:s.seats[i].who.e=e
     ·have ff:=A4Q e2 e3 e4 e6 e7 e8 e9 hi ta b1 b2 b3 b4 l1 l2 l3 l4 p1 p2 p3 p4 hq
      refine L8 (x:=?_)
      clear ff
      refine .inl ⟨by simp,_,u',y,rfl,by simp [e2],by simp [e3],by simp [e4],by simp [e6],by simp [e7],by simp [e8],by simp,?_,hu,hul,hrb⟩
      have hq':fS s.seats[i]=e:=hq
      rw [hsn,if_pos hq',List.append_nil];exact hr
     ·have ff:=B52 e2 e3 e4 e6 e7 e8 e9 hi ta b1 b2 b3 b4 cy l1 l2 l3 l4 p1 p2 p3 p4 hq
      refine L8 (x:=?_)
      clear ff
      refine Y2 (h:=h) [⟨eSt s vt vp vs vi va vb,0,.own⟩,⟨pt e,0,.own⟩,⟨zSt,0,.own⟩,⟨eSt s vt vp y x2 x3 x4,0,.own⟩] u' [⟨.node [B0 s.seats[i]],0,.own⟩] (n:=h.length+4) (es:=(del fS (s.seats.take i) e).map B0) (new:=[B0 s.seats[i]]) rfl rfl s8 (fun _ => rfl) hr (by rw [M6];simp) (by simp;omega) (by omega) fun y' u'' g1 g2 g3 g4=>?_
      have cy':=g1.cell
      simp only [List.nil_append,List.cons_append] at g1 ⊢
      have ff:=H7 e2 e3 e4 e6 e7 e8 e9 ta b1 b2 b3 b4 cy'
      refine L8 (x:=?_)
      clear ff
      refine .inl ⟨by simp,_,u'',y',rfl,by simp [e2],by simp [e3],by simp [e4],by simp [e6],by simp [e7],by simp [e8],by simp,?_,fun j hj=>?_,?_,fun b hb=>?_⟩
      ·have hq':¬ fS s.seats[i]=e:=hq
       rw [hsn,if_neg hq',List.map_append];exact g1
      ·rw [g3 j (fun ey=>by have:=hrb _ ey;omega) (by simp;omega),List.getElem?_append_left (by omega)]
       exact hu j hj
      ·simp at g2;omega
      ·rcases g4 b hb with h1|h1
       ·exact hrb b h1
       ·simp at h1;omega
    ·rintro st ⟨env',u',y,rfl,e2,e3,e4,e6,e7,e8,e9,hr,hu,hul,hrb⟩
     rw [List.take_length] at hr
     have cy:=hr.cell
     have ff:=L5 e2 e3 e4 e6 e7 e8 e9 ta b1 b2 b3 b4 cy l1 l2 l3 l4
     refine L8 (x:=?_)
     clear ff
     exact ⟨by simp,_,u',y,rfl,by simp [e2],by simp [e3],by simp [e4],by simp [e6],by simp [e7],by simp [e8],hr,hu,fun b hb=>by have:=hrb b hb;omega⟩
   ·rintro r ⟨env',u',y,rfl,e2,e3,e4,e6,e7,e8,g1,hu,hlo⟩
    have cy:=g1.cell
    have ff:=F8 e2 e3 e4 e6 e7 e8 ta b1 b2 b3 b4 cy
    refine L8 (x:=?_)
    clear ff
    refine .inl ⟨by simp,_,u',y,x2,x3,x4,rfl,by simp [e2],by simp [e3],by simp [e4],by simp [e6],by simp [e7],by simp,?_⟩
    rw [hsn]
    unfold R5
    simp only [w115]
    exact ⟨.inr g1,f2.keep hu,f3.keep hu,f4.keep hu,fun b hb=>.inr (hlo b hb),o2,o3,o4⟩
  by_cases w105:ls[k]=105#8
  ·have ff:=T9 e2 e3 e4 e6 e7 e8 hk hix ta b1 b2 b3 b4 w115 w105
   refine L8 (x:=?_)
   clear ff
   refine Y9 (fun r=>∃ env' u' y,r=(.exit 5,⟨env',h++⟨eSt s vt vp vs vi va vb,0,.own⟩::⟨pt e,0,.own⟩::⟨zSt,0,.own⟩::⟨eSt s vt vp x1 y x3 x4,0,.own⟩::u'⟩)∧env'.get 2=.str (J9 ls)∧env'.get 3=.ptr h.length 0 [] A6∧env'.get 4=.ptr (h.length+1) 0 [] (.arr 32 (.int .u8))∧env'.get 6=.ptr (h.length+2) 0 [] A6∧env'.get 7=.ptr (h.length+3) 0 [] A6∧env'.get 8=nat k ∧
    RnU B1 (h.length+4) u' y ((del fI s.invites e).map B7)∧(∀ j,j < u.length→u'[j]?=u[j]?)∧∀ b,rb y=some b→h.length≤b) ?_ ?_
   ·refine G0 s.invites.length (fun i st => ∃ env' u' y, st = ⟨env', h ++ ⟨eSt s vt vp vs vi va vb, 0, .own⟩ :: ⟨pt e, 0, .own⟩ :: ⟨zSt, 0, .own⟩ :: ⟨eSt s vt vp x1 y x3 x4, 0, .own⟩ :: u'⟩ ∧ env'.get 2 = .str (J9 ls) ∧ env'.get 3 = .ptr h.length 0 [] A6 ∧ env'.get 4 = .ptr (h.length + 1) 0 [] (.arr 32 (.int .u8)) ∧ env'.get 6 = .ptr (h.length + 2) 0 [] A6 ∧ env'.get 7 = .ptr (h.length + 3) 0 [] A6 ∧ env'.get 8 = nat k ∧ env'.get 10 = nat i ∧
     RnU B1 (h.length+4) u' y ((del fI (s.invites.take i) e).map B7)∧(∀ j,j < u.length→u'[j]?=u[j]?)∧u.length≤u'.length∧(∀ b,rb y=some b→h.length+4+u.length≤b)) ?_ ?_
     ⟨_,u,.nilslice,rfl,by simp [e2],by simp [e3],by simp [e4],by simp [e6],by simp [e7],by simp [e8],by simp,RnU.nil _ _ _,fun _ _ => rfl,Nat.le_refl _,fun b hb=>by cases hb⟩
    ·rintro i st hi ⟨env',u',y,rfl,e2,e3,e4,e6,e7,e8,e9,hr,hu,hul,hrb⟩
     obtain ⟨pb,pv,pp,bb,p1,p2,p3,p4⟩:=ra.fi.idxE hi
     have hsn:=A5B fI s.invites e hi
     have cy:=hr.cell
     have hdl:(del fI (s.invites.take i) e).length≤1000:=by
      unfold del
      exact Nat.le_trans (List.length_filter_le _ _) (by simp;omega)
     by_cases hq:s.invites[i].who.e=e
     ·have ff:=A4Q e2 e3 e4 e6 e7 e8 e9 hi ta b1 b2 b3 b4 l1 l2 l3 l4 p1 p2 p3 p4 hq
      refine L8 (x:=?_)
      clear ff
      refine .inl ⟨by simp,_,u',y,rfl,by simp [e2],by simp [e3],by simp [e4],by simp [e6],by simp [e7],by simp [e8],by simp,?_,hu,hul,hrb⟩
      have hq':fI s.invites[i]=e:=hq
      rw [hsn,if_pos hq',List.append_nil];exact hr
     ·have ff:=B52 e2 e3 e4 e6 e7 e8 e9 hi ta b1 b2 b3 b4 cy l1 l2 l3 l4 p1 p2 p3 p4 hq
      refine L8 (x:=?_)
      clear ff
      refine Y2 (h:=h) [⟨eSt s vt vp vs vi va vb,0,.own⟩,⟨pt e,0,.own⟩,⟨zSt,0,.own⟩,⟨eSt s vt vp x1 y x3 x4,0,.own⟩] u' [⟨.node [B7 s.invites[i]],0,.own⟩] (n:=h.length+4) (es:=(del fI (s.invites.take i) e).map B7) (new:=[B7 s.invites[i]]) rfl rfl a9 (fun _ => rfl) hr (by rw [M6];simp) (by simp;omega) (by omega) fun y' u'' g1 g2 g3 g4=>?_
      have cy':=g1.cell
      simp only [List.nil_append,List.cons_append] at g1 ⊢
      have ff:=H7 e2 e3 e4 e6 e7 e8 e9 ta b1 b2 b3 b4 cy'
      refine L8 (x:=?_)
      clear ff
      refine .inl ⟨by simp,_,u'',y',rfl,by simp [e2],by simp [e3],by simp [e4],by simp [e6],by simp [e7],by simp [e8],by simp,?_,fun j hj=>?_,?_,fun b hb=>?_⟩
      ·have hq':¬ fI s.invites[i]=e:=hq
       rw [hsn,if_neg hq',List.map_append];exact g1
      ·rw [g3 j (fun ey=>by have:=hrb _ ey;omega) (by simp;omega),List.getElem?_append_left (by omega)]
       exact hu j hj
      ·simp at g2;omega
      ·rcases g4 b hb with h1|h1
       ·exact hrb b h1
       ·simp at h1;omega
    ·rintro st ⟨env',u',y,rfl,e2,e3,e4,e6,e7,e8,e9,hr,hu,hul,hrb⟩
     rw [List.take_length] at hr
     have cy:=hr.cell
     have ff:=L5 e2 e3 e4 e6 e7 e8 e9 ta b1 b2 b3 b4 cy l1 l2 l3 l4
     refine L8 (x:=?_)
     clear ff
     exact ⟨by simp,_,u',y,rfl,by simp [e2],by simp [e3],by simp [e4],by simp [e6],by simp [e7],by simp [e8],hr,hu,fun b hb=>by have:=hrb b hb;omega⟩
   ·rintro r ⟨env',u',y,rfl,e2,e3,e4,e6,e7,e8,g1,hu,hlo⟩
    have cy:=g1.cell
    have ff:=F8 e2 e3 e4 e6 e7 e8 ta b1 b2 b3 b4 cy
    refine L8 (x:=?_)
    clear ff
    refine .inl ⟨by simp,_,u',x1,y,x3,x4,rfl,by simp [e2],by simp [e3],by simp [e4],by simp [e6],by simp [e7],by simp,?_⟩
    rw [hsn]
    unfold R5
    simp only [w115,w105]
    exact ⟨f1.keep hu,.inr g1,f3.keep hu,f4.keep hu,o1,fun b hb=>.inr (hlo b hb),o3,o4⟩
  by_cases w97:ls[k]=97#8
  ·have ff:=Y6 e2 e3 e4 e6 e7 e8 hk hix ta b1 b2 b3 b4 w115 w105 w97
   refine L8 (x:=?_)
   clear ff
   refine Y9 (fun r=>∃ env' u' y,r=(.exit 7,⟨env',h++⟨eSt s vt vp vs vi va vb,0,.own⟩::⟨pt e,0,.own⟩::⟨zSt,0,.own⟩::⟨eSt s vt vp x1 x2 y x4,0,.own⟩::u'⟩)∧env'.get 2=.str (J9 ls)∧env'.get 3=.ptr h.length 0 [] A6∧env'.get 4=.ptr (h.length+1) 0 [] (.arr 32 (.int .u8))∧env'.get 6=.ptr (h.length+2) 0 [] A6∧env'.get 7=.ptr (h.length+3) 0 [] A6∧env'.get 8=nat k ∧
    RnU B5 (h.length+4) u' y ((del fA s.asks e).map B9)∧(∀ j,j < u.length→u'[j]?=u[j]?)∧∀ b,rb y=some b→h.length≤b) ?_ ?_
   ·refine G0 s.asks.length (fun i st => ∃ env' u' y, st = ⟨env', h ++ ⟨eSt s vt vp vs vi va vb, 0, .own⟩ :: ⟨pt e, 0, .own⟩ :: ⟨zSt, 0, .own⟩ :: ⟨eSt s vt vp x1 x2 y x4, 0, .own⟩ :: u'⟩ ∧ env'.get 2 = .str (J9 ls) ∧ env'.get 3 = .ptr h.length 0 [] A6 ∧ env'.get 4 = .ptr (h.length + 1) 0 [] (.arr 32 (.int .u8)) ∧ env'.get 6 = .ptr (h.length + 2) 0 [] A6 ∧ env'.get 7 = .ptr (h.length + 3) 0 [] A6 ∧ env'.get 8 = nat k ∧ env'.get 11 = nat i ∧
     RnU B5 (h.length+4) u' y ((del fA (s.asks.take i) e).map B9)∧(∀ j,j < u.length→u'[j]?=u[j]?)∧u.length≤u'.length∧(∀ b,rb y=some b→h.length+4+u.length≤b)) ?_ ?_
     ⟨_,u,.nilslice,rfl,by simp [e2],by simp [e3],by simp [e4],by simp [e6],by simp [e7],by simp [e8],by simp,RnU.nil _ _ _,fun _ _ => rfl,Nat.le_refl _,fun b hb=>by cases hb⟩
    ·rintro i st hi ⟨env',u',y,rfl,e2,e3,e4,e6,e7,e8,e9,hr,hu,hul,hrb⟩
     obtain ⟨pb,pv,pp,bb,p1,p2,p3,p4⟩:=ra.fa.idxE hi
     have hsn:=A5B fA s.asks e hi
     have cy:=hr.cell
     have hdl:(del fA (s.asks.take i) e).length≤1000:=by
      unfold del
      exact Nat.le_trans (List.length_filter_le _ _) (by simp;omega)
     by_cases hq:s.asks[i].who.e=e
     ·have ff:=A4Q e2 e3 e4 e6 e7 e8 e9 hi ta b1 b2 b3 b4 l1 l2 l3 l4 p1 p2 p3 p4 hq
      refine L8 (x:=?_)
      clear ff
      refine .inl ⟨by simp,_,u',y,rfl,by simp [e2],by simp [e3],by simp [e4],by simp [e6],by simp [e7],by simp [e8],by simp,?_,hu,hul,hrb⟩
      have hq':fA s.asks[i]=e:=hq
      rw [hsn,if_pos hq',List.append_nil];exact hr
     ·have ff:=B52 e2 e3 e4 e6 e7 e8 e9 hi ta b1 b2 b3 b4 cy l1 l2 l3 l4 p1 p2 p3 p4 hq
      refine L8 (x:=?_)
      clear ff
      refine Y2 (h:=h) [⟨eSt s vt vp vs vi va vb,0,.own⟩,⟨pt e,0,.own⟩,⟨zSt,0,.own⟩,⟨eSt s vt vp x1 x2 y x4,0,.own⟩] u' [⟨.node [B9 s.asks[i]],0,.own⟩] (n:=h.length+4) (es:=(del fA (s.asks.take i) e).map B9) (new:=[B9 s.asks[i]]) rfl rfl i9 (fun _ => rfl) hr (by rw [M6];simp) (by simp;omega) (by omega) fun y' u'' g1 g2 g3 g4=>?_
      have cy':=g1.cell
      simp only [List.nil_append,List.cons_append] at g1 ⊢
      have ff:=H7 e2 e3 e4 e6 e7 e8 e9 ta b1 b2 b3 b4 cy'
      refine L8 (x:=?_)
      clear ff
      refine .inl ⟨by simp,_,u'',y',rfl,by simp [e2],by simp [e3],by simp [e4],by simp [e6],by simp [e7],by simp [e8],by simp,?_,fun j hj=>?_,?_,fun b hb=>?_⟩
      ·have hq':¬ fA s.asks[i]=e:=hq
       rw [hsn,if_neg hq',List.map_append];exact g1
      ·rw [g3 j (fun ey=>by have:=hrb _ ey;omega) (by simp;omega),List.getElem?_append_left (by omega)]
       exact hu j hj
      ·simp at g2;omega
      ·rcases g4 b hb with h1|h1
       ·exact hrb b h1
       ·simp at h1;omega
    ·rintro st ⟨env',u',y,rfl,e2,e3,e4,e6,e7,e8,e9,hr,hu,hul,hrb⟩
     rw [List.take_length] at hr
     have cy:=hr.cell
     have ff:=L5 e2 e3 e4 e6 e7 e8 e9 ta b1 b2 b3 b4 cy l1 l2 l3 l4
     refine L8 (x:=?_)
     clear ff
     exact ⟨by simp,_,u',y,rfl,by simp [e2],by simp [e3],by simp [e4],by simp [e6],by simp [e7],by simp [e8],hr,hu,fun b hb=>by have:=hrb b hb;omega⟩
   ·rintro r ⟨env',u',y,rfl,e2,e3,e4,e6,e7,e8,g1,hu,hlo⟩
    have cy:=g1.cell
    have ff:=F8 e2 e3 e4 e6 e7 e8 ta b1 b2 b3 b4 cy
    refine L8 (x:=?_)
    clear ff
    refine .inl ⟨by simp,_,u',x1,x2,y,x4,rfl,by simp [e2],by simp [e3],by simp [e4],by simp [e6],by simp [e7],by simp,?_⟩
    rw [hsn]
    unfold R5
    simp only [w115,w105,w97]
    exact ⟨f1.keep hu,f2.keep hu,.inr g1,f4.keep hu,o1,o2,fun b hb=>.inr (hlo b hb),o4⟩
  by_cases w98:ls[k]=98#8
  ·have ff:=L5 e2 e3 e4 e6 e7 e8 hk hix ta b1 b2 b3 b4 w115 w105 w97 w98
   refine L8 (x:=?_)
   clear ff
   refine Y9 (fun r=>∃ env' u' y,r=(.exit 9,⟨env',h++⟨eSt s vt vp vs vi va vb,0,.own⟩::⟨pt e,0,.own⟩::⟨zSt,0,.own⟩::⟨eSt s vt vp x1 x2 x3 y,0,.own⟩::u'⟩)∧env'.get 2=.str (J9 ls)∧env'.get 3=.ptr h.length 0 [] A6∧env'.get 4=.ptr (h.length+1) 0 [] (.arr 32 (.int .u8))∧env'.get 6=.ptr (h.length+2) 0 [] A6∧env'.get 7=.ptr (h.length+3) 0 [] A6∧env'.get 8=nat k ∧
    RnU B4 (h.length+4) u' y ((del fB s.bans e).map B2)∧(∀ j,j < u.length→u'[j]?=u[j]?)∧∀ b,rb y=some b→h.length≤b) ?_ ?_
   ·refine G0 s.bans.length (fun i st => ∃ env' u' y, st = ⟨env', h ++ ⟨eSt s vt vp vs vi va vb, 0, .own⟩ :: ⟨pt e, 0, .own⟩ :: ⟨zSt, 0, .own⟩ :: ⟨eSt s vt vp x1 x2 x3 y, 0, .own⟩ :: u'⟩ ∧ env'.get 2 = .str (J9 ls) ∧ env'.get 3 = .ptr h.length 0 [] A6 ∧ env'.get 4 = .ptr (h.length + 1) 0 [] (.arr 32 (.int .u8)) ∧ env'.get 6 = .ptr (h.length + 2) 0 [] A6 ∧ env'.get 7 = .ptr (h.length + 3) 0 [] A6 ∧ env'.get 8 = nat k ∧ env'.get 12 = nat i ∧
     RnU B4 (h.length+4) u' y ((del fB (s.bans.take i) e).map B2)∧(∀ j,j < u.length→u'[j]?=u[j]?)∧u.length≤u'.length∧(∀ b,rb y=some b→h.length+4+u.length≤b)) ?_ ?_
     ⟨_,u,.nilslice,rfl,by simp [e2],by simp [e3],by simp [e4],by simp [e6],by simp [e7],by simp [e8],by simp,RnU.nil _ _ _,fun _ _ => rfl,Nat.le_refl _,fun b hb=>by cases hb⟩
    ·rintro i st hi ⟨env',u',y,rfl,e2,e3,e4,e6,e7,e8,e9,hr,hu,hul,hrb⟩
     obtain ⟨pb,pv,pp,bb,p1,p2,p3,p4⟩:=ra.fb.idxE hi
     have hsn:=A5B fB s.bans e hi
     have cy:=hr.cell
     have hdl:(del fB (s.bans.take i) e).length≤1000:=by
      unfold del
      exact Nat.le_trans (List.length_filter_le _ _) (by simp;omega)
     by_cases hq:s.bans[i].who.e=e
     ·have ff:=A4Q e2 e3 e4 e6 e7 e8 e9 hi ta b1 b2 b3 b4 l1 l2 l3 l4 p1 p2 p3 p4 hq
      refine L8 (x:=?_)
      clear ff
      refine .inl ⟨by simp,_,u',y,rfl,by simp [e2],by simp [e3],by simp [e4],by simp [e6],by simp [e7],by simp [e8],by simp,?_,hu,hul,hrb⟩
      have hq':fB s.bans[i]=e:=hq
      rw [hsn,if_pos hq',List.append_nil];exact hr
     ·have ff:=B52 e2 e3 e4 e6 e7 e8 e9 hi ta b1 b2 b3 b4 cy l1 l2 l3 l4 p1 p2 p3 p4 hq
      refine L8 (x:=?_)
      clear ff
      refine Y2 (h:=h) [⟨eSt s vt vp vs vi va vb,0,.own⟩,⟨pt e,0,.own⟩,⟨zSt,0,.own⟩,⟨eSt s vt vp x1 x2 x3 y,0,.own⟩] u' [⟨.node [B2 s.bans[i]],0,.own⟩] (n:=h.length+4) (es:=(del fB (s.bans.take i) e).map B2) (new:=[B2 s.bans[i]]) rfl rfl j0 (fun _ => rfl) hr (by rw [M6];simp) (by simp;omega) (by omega) fun y' u'' g1 g2 g3 g4=>?_
      have cy':=g1.cell
      simp only [List.nil_append,List.cons_append] at g1 ⊢
      have ff:=H7 e2 e3 e4 e6 e7 e8 e9 ta b1 b2 b3 b4 cy'
      refine L8 (x:=?_)
      clear ff
      refine .inl ⟨by simp,_,u'',y',rfl,by simp [e2],by simp [e3],by simp [e4],by simp [e6],by simp [e7],by simp [e8],by simp,?_,fun j hj=>?_,?_,fun b hb=>?_⟩
      ·have hq':¬ fB s.bans[i]=e:=hq
       rw [hsn,if_neg hq',List.map_append];exact g1
      ·rw [g3 j (fun ey=>by have:=hrb _ ey;omega) (by simp;omega),List.getElem?_append_left (by omega)]
       exact hu j hj
      ·simp at g2;omega
      ·rcases g4 b hb with h1|h1
       ·exact hrb b h1
       ·simp at h1;omega
    ·rintro st ⟨env',u',y,rfl,e2,e3,e4,e6,e7,e8,e9,hr,hu,hul,hrb⟩
     rw [List.take_length] at hr
     have cy:=hr.cell
     have ff:=L5 e2 e3 e4 e6 e7 e8 e9 ta b1 b2 b3 b4 cy l1 l2 l3 l4
     refine L8 (x:=?_)
     clear ff
     exact ⟨by simp,_,u',y,rfl,by simp [e2],by simp [e3],by simp [e4],by simp [e6],by simp [e7],by simp [e8],hr,hu,fun b hb=>by have:=hrb b hb;omega⟩
   ·rintro r ⟨env',u',y,rfl,e2,e3,e4,e6,e7,e8,g1,hu,hlo⟩
    have cy:=g1.cell
    have ff:=F8 e2 e3 e4 e6 e7 e8 ta b1 b2 b3 b4 cy
    refine L8 (x:=?_)
    clear ff
    refine .inl ⟨by simp,_,u',x1,x2,x3,y,rfl,by simp [e2],by simp [e3],by simp [e4],by simp [e6],by simp [e7],by simp,?_⟩
    rw [hsn]
    unfold R5
    simp only [w115,w105,w97,w98]
    exact ⟨f1.keep hu,f2.keep hu,f3.keep hu,.inr g1,o1,o2,o3,fun b hb=>.inr (hlo b hb)⟩
  ·have ff:=L5 e2 e3 e4 e6 e7 e8 hk hix ta b1 b2 b3 b4 w115 w105 w97 w98
   refine L8 (x:=?_)
   clear ff
   refine .inl ⟨by simp,_,u,x1,x2,x3,x4,rfl,by simp [e2],by simp [e3],by simp [e4],by simp [e6],by simp [e7],by simp,?_⟩
   rw [hsn]
   unfold R5
   rw [if_neg w115,if_neg w105,if_neg w97,if_neg w98]
   exact ⟨f1,f2,f3,f4,o1,o2,o3,o4⟩
 ·rintro st ⟨env',u,x1,x2,x3,x4,rfl,e2,e3,e4,e6,e7,e8,f1,f2,f3,f4,o1,o2,o3,o4⟩
  rw [List.take_length] at f1 f2 f3 f4
  have b1:=f1.cell
  have b2:=f2.cell
  have b3:=f3.cell
  have b4:=f4.cell
  have ff:=F8 e2 e3 e4 e6 e7 e8 ta b1 b2 b3 b4 hzp
  refine L8 (x:=?_)
  clear ff
  refine ⟨by simp,?_⟩
  have ff:=F8 e2 e3 e4 e6 e7 e8 ta b1 b2 b3 b4 hzp
  refine L8 (x:=?_)
  clear ff
  obtain ⟨q1,q2,q3,q4,q5⟩:=F40 s e ls
  refine ⟨x1,x2,x3,x4,_,rfl,⟨by rw [q4];exact ra.ft.app _,by rw [q5];exact ra.fp.app _,?_,?_,?_,?_⟩,o1,o2,o3,o4⟩
  ·exact f1.row (cs:=[⟨eSt s vt vp vs vi va vb,0,.own⟩,⟨pt e,0,.own⟩,⟨eSt s vt vp x1 x2 x3 x4,0,.own⟩,⟨eSt s vt vp x1 x2 x3 x4,0,.own⟩]) s8 rfl
  ·exact f2.row (cs:=[⟨eSt s vt vp vs vi va vb,0,.own⟩,⟨pt e,0,.own⟩,⟨eSt s vt vp x1 x2 x3 x4,0,.own⟩,⟨eSt s vt vp x1 x2 x3 x4,0,.own⟩]) a9 rfl
  ·exact f3.row (cs:=[⟨eSt s vt vp vs vi va vb,0,.own⟩,⟨pt e,0,.own⟩,⟨eSt s vt vp x1 x2 x3 x4,0,.own⟩,⟨eSt s vt vp x1 x2 x3 x4,0,.own⟩]) i9 rfl
  ·exact f4.row (cs:=[⟨eSt s vt vp vs vi va vb,0,.own⟩,⟨pt e,0,.own⟩,⟨eSt s vt vp x1 x2 x3 x4,0,.own⟩,⟨eSt s vt vp x1 x2 x3 x4,0,.own⟩]) j0 rfl
end Go.Vab

namespace Go.Vab
open Go Go.Proofs
attribute [local irreducible] E9 Evs gW D9 E8 G5
def M9 (h:A3) (L:List AV) (x:Except Nat Stt) (r:AV × A3):Prop:=match x with
 | .error k=>∃ t,r=(.tuple [zSt,nat k],h++t)
 | .ok s=>∃ vt vp vs vi va vb t,r=(.tuple [eSt s vt vp vs vi va vb,nat 0],h++t)∧StR (h++t) s vt vp vs vi va vb∧∀ y∈[vt,vp,vs,vi,va,vb],∀ b,rb y=some b→(∃ v∈L,rb v=some b)∨h.length≤b
theorem Y5 (b:Nat):rb .nilslice≠some b:=fun h=>by cases h
theorem N5 {h A B : A3} {c c' : Blk} {L : List AV} {s : Stt} {vt vp vs vi va vb : AV} (hL : ∀ v ∈ L, ∀ b, rb v = some b → b < h.length) (r : StR (h ++ (A ++ c :: B)) s vt vp vs vi va vb)
  (lo:∀ y∈[vt,vp,vs,vi,va,vb],∀ b,rb y=some b→(∃ v∈L,rb v=some b)∨h.length+A.length < b):M9 h L (.ok s) (.tuple [eSt s vt vp vs vi va vb,nat 0],h++(A++c'::B)):=by
 refine ⟨_,_,_,_,_,_,_,rfl,r.other fun y hy b hb=>A2A ?_,fun y hy b hb=>?_⟩
 ·rcases lo y hy b hb with ⟨v,hv,h1⟩|h1
  ·have:=hL v hv b h1;omega
  ·omega
 ·rcases lo y hy b hb with h1|h1
  ·exact .inl h1
  ·exact .inr (by omega)
theorem N8 {h:A3} {s:Stt} {vt vp vs vi va vb:AV} {a:Actn} {wt wp:AV} (ra:StR h s vt vp vs vi va vb) (rc:ActR h a wt wp):∀ v∈[vt,vp,vs,vi,va,vb,wt,wp],∀ b,rb v=some b→b < h.length:=by
 intro v hv
 simp only [List.mem_cons,List.not_mem_nil,or_false] at hv
 rcases hv with rfl|rfl|rfl|rfl|rfl|rfl|rfl|rfl
 ·exact ra.ft.rb_lt'
 ·exact ra.fp.rb_lt'
 ·exact ra.fs.rb_lt
 ·exact ra.fi.rb_lt
 ·exact ra.fa.rb_lt
 ·exact ra.fb.rb_lt
 ·exact rc.t.rb_lt'
 ·exact rc.p.rb_lt'
@[simp] theorem G9Z:(⟨#[105,97]⟩:ByteArray)=J9 [105#8,97#8]:=by rw [A0d];rfl
@[simp] theorem G9k:(⟨#[115]⟩:ByteArray)=J9 [115#8]:=by rw [A0d];rfl
@[simp] theorem G9l:(⟨#[105]⟩:ByteArray)=J9 [105#8]:=by rw [A0d];rfl
@[simp] theorem G9m:(⟨#[97]⟩:ByteArray)=J9 [97#8]:=by rw [A0d];rfl
@[simp] theorem G9n:(⟨#[98]⟩:ByteArray)=J9 [98#8]:=by rw [A0d];rfl
section
variable {h:A3} {s:Stt} {vt vp vs vi va vb:AV} {e:Pt} (ra:StR h s vt vp vs vi va vb) (hs:H6 s)
include ra hs
theorem E8c:SpecQ Tryz.prog 85 [eSt s vt vp vs vi va vb,pt e,.str (J9 [105#8,97#8])] h fun r=>∃ x1 x2 x3 x4 t,r=(eSt s vt vp x1 x2 x3 x4,h++t)∧StR (h++t) { s with invites:=del fI s.invites e,asks:=del fA s.asks e } vt vp x1 x2 x3 x4∧Lo h.length vs x1∧Lo h.length vi x2∧Lo h.length va x3∧Lo h.length vb x4 :=
 (c85 ra hs (by simp)).mono fun r ⟨x1,x2,x3,x4,t,e1,e2,e3⟩=>⟨x1,x2,x3,x4,t,e1,e2,e3⟩
theorem A1W:SpecQ Tryz.prog 85 [eSt s vt vp vs vi va vb,pt e,.str (J9 [115#8])] h fun r=>∃ x1 x2 x3 x4 t,r=(eSt s vt vp x1 x2 x3 x4,h++t)∧StR (h++t) { s with seats:=del fS s.seats e } vt vp x1 x2 x3 x4∧Lo h.length vs x1∧Lo h.length vi x2∧Lo h.length va x3∧Lo h.length vb x4 :=
 (c85 ra hs (by simp)).mono fun r ⟨x1,x2,x3,x4,t,e1,e2,e3⟩=>⟨x1,x2,x3,x4,t,e1,e2,e3⟩
theorem A4I:SpecQ Tryz.prog 85 [eSt s vt vp vs vi va vb,pt e,.str (J9 [105#8])] h fun r=>∃ x1 x2 x3 x4 t,r=(eSt s vt vp x1 x2 x3 x4,h++t)∧StR (h++t) { s with invites:=del fI s.invites e } vt vp x1 x2 x3 x4∧Lo h.length vs x1∧Lo h.length vi x2∧Lo h.length va x3∧Lo h.length vb x4 :=
 (c85 ra hs (by simp)).mono fun r ⟨x1,x2,x3,x4,t,e1,e2,e3⟩=>⟨x1,x2,x3,x4,t,e1,e2,e3⟩
theorem A4J:SpecQ Tryz.prog 85 [eSt s vt vp vs vi va vb,pt e,.str (J9 [97#8])] h fun r=>∃ x1 x2 x3 x4 t,r=(eSt s vt vp x1 x2 x3 x4,h++t)∧StR (h++t) { s with asks:=del fA s.asks e } vt vp x1 x2 x3 x4∧Lo h.length vs x1∧Lo h.length vi x2∧Lo h.length va x3∧Lo h.length vb x4 :=
 (c85 ra hs (by simp)).mono fun r ⟨x1,x2,x3,x4,t,e1,e2,e3⟩=>⟨x1,x2,x3,x4,t,e1,e2,e3⟩
theorem G0S:SpecQ Tryz.prog 85 [eSt s vt vp vs vi va vb,pt e,.str (J9 [98#8])] h fun r=>∃ x1 x2 x3 x4 t,r=(eSt s vt vp x1 x2 x3 x4,h++t)∧StR (h++t) { s with bans:=del fB s.bans e } vt vp x1 x2 x3 x4∧Lo h.length vs x1∧Lo h.length vi x2∧Lo h.length va x3∧Lo h.length vb x4 :=
 (c85 ra hs (by simp)).mono fun r ⟨x1,x2,x3,x4,t,e1,e2,e3⟩=>⟨x1,x2,x3,x4,t,e1,e2,e3⟩
end
end Go.Vab
