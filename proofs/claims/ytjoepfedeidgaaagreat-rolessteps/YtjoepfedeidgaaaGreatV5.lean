/-
  The program's lists: where somebody stands, whether they are there, whether there is room.
-/
import Derived.Test.YtjoepfedeidgaaaGreatV2
import Derived.Test.YtjoepfedeidgaaaGreatV4
import Derived.Test.YtjoepfedeidgaaaGreatV3
set_option linter.all false
set_option linter.unusedSectionVars false
set_option maxHeartbeats 8000000
set_option maxRecDepth 20000
namespace Go.Vab
open Go Go.Proofs
theorem F6u {G X:Prop} (f:Hd X→G:=by
 intro xX
 repeat' (first|refine stp (x:=?_)|(with_reducible refine A5 (F2q (w.app _).ws w.fs.le hs.s (hq _)) ?_;try dsimp only)|(with_reducible refine SpecQ.step (F2q (w.app _).ws w.fs.le hs.s (hq _)) ?_;rintro _ rfl;try dsimp only)|(simp (decide:=true) only [G2G,snB,if_true,if_false])|(with_reducible refine F8K _ _ _ ?_))
 exact xX.get) (x:X):G:=f ⟨x⟩
theorem F6v {G X:Prop} (f:Hd X→G:=by
 intro xX
 repeat' (first|refine stp (x:=?_)|(with_reducible refine SpecQ.step (c78 (w.app _) hs) ?_;rintro _ rfl;try dsimp only)|(simp (decide:=true) only [G2K,snB,if_true,if_false]))
 exact xX.get) (x:X):G:=f ⟨x⟩
theorem F6w {G X:Prop} (f:Hd X→G:=by
 intro xX
 repeat' (first|refine stp (x:=?_)|(simp (decide:=true) only [G2O,snB,if_true,if_false]))
 exact xX.get) (x:X):G:=f ⟨x⟩
theorem F6x {G X:Prop} (f:Hd X→G:=by
 intro xX
 repeat' (first|refine stp (x:=?_)|(with_reducible refine A5 (F2r (w.app _).wi w.fi.le hs.i (hq _)) ?_;try dsimp only)|(with_reducible refine SpecQ.step (F2r (w.app _).wi w.fi.le hs.i (hq _)) ?_;rintro _ rfl;try dsimp only)|(simp (decide:=true) only [G2H,snB,if_true,if_false])|(with_reducible refine F8L _ _ _ ?_))
 exact xX.get) (x:X):G:=f ⟨x⟩
theorem F6y {G X:Prop} (f:Hd X→G:=by
 intro xX
 repeat' (first|refine stp (x:=?_)|(with_reducible refine SpecQ.step (c99 (w.app _) hs) ?_;rintro _ rfl;try dsimp only)|(simp (decide:=true) only [G2L,snB,if_true,if_false]))
 exact xX.get) (x:X):G:=f ⟨x⟩
theorem F6z {G X:Prop} (f:Hd X→G:=by
 intro xX
 repeat' (first|refine stp (x:=?_)|(simp (decide:=true) only [G2P,snB,if_true,if_false]))
 exact xX.get) (x:X):G:=f ⟨x⟩
theorem F60 {G X:Prop} (f:Hd X→G:=by
 intro xX
 repeat' (first|refine stp (x:=?_)|(with_reducible refine A5 (F2s (w.app _).wa w.fa.le hs.a (hq _)) ?_;try dsimp only)|(with_reducible refine SpecQ.step (F2s (w.app _).wa w.fa.le hs.a (hq _)) ?_;rintro _ rfl;try dsimp only)|(simp (decide:=true) only [G0L,snB,if_true,if_false])|(with_reducible refine F6s _ _ _ ?_))
 exact xX.get) (x:X):G:=f ⟨x⟩
theorem F61 {G X:Prop} (f:Hd X→G:=by
 intro xX
 repeat' (first|refine stp (x:=?_)|(with_reducible refine SpecQ.step (A2x (w.app _) hs) ?_;rintro _ rfl;try dsimp only)|(simp (decide:=true) only [G2M,snB,if_true,if_false]))
 exact xX.get) (x:X):G:=f ⟨x⟩
theorem F62 {G X:Prop} (f:Hd X→G:=by
 intro xX
 repeat' (first|refine stp (x:=?_)|(simp (decide:=true) only [G2Q,snB,if_true,if_false]))
 exact xX.get) (x:X):G:=f ⟨x⟩
theorem F63 {G X:Prop} (f:Hd X→G:=by
 intro xX
 repeat' (first|refine stp (x:=?_)|(with_reducible refine A5 (F2t (w.app _).wb w.fb.le hs.b (hq _)) ?_;try dsimp only)|(with_reducible refine SpecQ.step (F2t (w.app _).wb w.fb.le hs.b (hq _)) ?_;rintro _ rfl;try dsimp only)|(simp (decide:=true) only [G0M,snB,if_true,if_false])|(with_reducible refine F6t _ _ _ ?_))
 exact xX.get) (x:X):G:=f ⟨x⟩
theorem F5M {G X:Prop} (f:Hd X→G:=by
 intro xX
 repeat' (first|refine stp (x:=?_)|(with_reducible refine SpecQ.step (A2y (w.app _) hs) ?_;rintro _ rfl;try dsimp only)|(simp (decide:=true) only [G2N,snB,if_true,if_false]))
 exact xX.get) (x:X):G:=f ⟨x⟩
theorem F5N {G X:Prop} (f:Hd X→G:=by
 intro xX
 repeat' (first|refine stp (x:=?_)|(simp (decide:=true) only [G0N,snB,if_true,if_false]))
 exact xX.get) (x:X):G:=f ⟨x⟩
attribute [local irreducible] E9 Evs gW D9 E8 G5
@[simp high] theorem G6Z (a b:AV) (r:List Nat):(AV.node [a,b]).get (0::r)=a.get r:=by simp
@[simp high] theorem G6a (a b:AV) (r:List Nat):(AV.node [a,b]).get (1::r)=b.get r:=by simp
theorem c78 {κ:Nat→Nat} {H:A3} {c:Nat} {s:Stt} {vt vp vs vi va vb:AV} {e:Pt} (w:Wk κ H c s vt vp vs vi va vb) (hs:Srt s):SpecQ Tryz.prog 78 [.node [.ptr c 0 [5] .cell,.fn 91 []],pt e] H fun r=>r=(.tuple [nat (low fS s.seats e),.bool (A8 fS s.seats e)],H):=by
 refine SpecQ.drop1 rfl (q78 fun env g0 g1=>?_)
 have wb:=w.blk
 have hq:∀ u l:A3,D6 .cell (.ptr H.length 0 [1] .cell) ((H++⟨.node [.ptr c 0 [5] .cell,.fn 91 []],0,.own⟩::u)++l)=some (.fn 91 []):=fun u l=>by simp
 have ff:=aI3 g0 g1 wb
 refine F6u (x:=?_)
 clear ff
 exact ⟨_,rfl⟩
theorem c76 {κ:Nat→Nat} {H:A3} {c:Nat} {s:Stt} {vt vp vs vi va vb:AV} {e:Pt} (w:Wk κ H c s vt vp vs vi va vb) (hs:Srt s):SpecQ Tryz.prog 76 [.node [.ptr c 0 [5] .cell,.fn 91 []],pt e] H fun r=>r=(.bool (A8 fS s.seats e),H):=by
 refine SpecQ.drop1 rfl (q76 fun env g0 g1=>?_)
 have ff:=aI g0 g1
 refine F6v (x:=?_)
 clear ff
 exact ⟨_,rfl⟩
theorem c67 {κ:Nat→Nat} {H:A3} {c:Nat} {s:Stt} {vt vp vs vi va vb:AV} (w:Wk κ H c s vt vp vs vi va vb):SpecQ Tryz.prog 67 [.node [.ptr c 0 [5] .cell,.fn 91 []]] H fun r=>r=(.bool (decide (40≤s.seats.length)),H):=by
 refine SpecQ.drop1 rfl (q67 fun env g0=>?_)
 have wb:=w.blk
 have wl:=w.fs.len
 have ff:=aI3 g0 wb wl
 refine F6w (x:=?_)
 clear ff
 exact ⟨_,rfl⟩
theorem c99 {κ:Nat→Nat} {H:A3} {c:Nat} {s:Stt} {vt vp vs vi va vb:AV} {e:Pt} (w:Wk κ H c s vt vp vs vi va vb) (hs:Srt s):SpecQ Tryz.prog 99 [.node [.ptr c 0 [6] .cell,.fn 92 []],pt e] H fun r=>r=(.tuple [nat (low fI s.invites e),.bool (A8 fI s.invites e)],H):=by
 refine SpecQ.drop1 rfl (q99 fun env g0 g1=>?_)
 have wb:=w.blk
 have hq:∀ u l:A3,D6 .cell (.ptr H.length 0 [1] .cell) ((H++⟨.node [.ptr c 0 [6] .cell,.fn 92 []],0,.own⟩::u)++l)=some (.fn 92 []):=fun u l=>by simp
 have ff:=aI3 g0 g1 wb
 refine F6x (x:=?_)
 clear ff
 exact ⟨_,rfl⟩
theorem c96 {κ:Nat→Nat} {H:A3} {c:Nat} {s:Stt} {vt vp vs vi va vb:AV} {e:Pt} (w:Wk κ H c s vt vp vs vi va vb) (hs:Srt s):SpecQ Tryz.prog 96 [.node [.ptr c 0 [6] .cell,.fn 92 []],pt e] H fun r=>r=(.bool (A8 fI s.invites e),H):=by
 refine SpecQ.drop1 rfl (q96 fun env g0 g1=>?_)
 have ff:=aI g0 g1
 refine F6y (x:=?_)
 clear ff
 exact ⟨_,rfl⟩
theorem c71 {κ:Nat→Nat} {H:A3} {c:Nat} {s:Stt} {vt vp vs vi va vb:AV} (w:Wk κ H c s vt vp vs vi va vb):SpecQ Tryz.prog 71 [.node [.ptr c 0 [6] .cell,.fn 92 []]] H fun r=>r=(.bool (decide (40≤s.invites.length)),H):=by
 refine SpecQ.drop1 rfl (q71 fun env g0=>?_)
 have wb:=w.blk
 have wl:=w.fi.len
 have ff:=aI3 g0 wb wl
 refine F6z (x:=?_)
 clear ff
 exact ⟨_,rfl⟩
theorem A2x {κ:Nat→Nat} {H:A3} {c:Nat} {s:Stt} {vt vp vs vi va vb:AV} {e:Pt} (w:Wk κ H c s vt vp vs vi va vb) (hs:Srt s):SpecQ Tryz.prog 101 [.node [.ptr c 0 [7] .cell,.fn 93 []],pt e] H fun r=>r=(.tuple [nat (low fA s.asks e),.bool (A8 fA s.asks e)],H):=by
 refine SpecQ.drop1 rfl (G2I fun env g0 g1=>?_)
 have wb:=w.blk
 have hq:∀ u l:A3,D6 .cell (.ptr H.length 0 [1] .cell) ((H++⟨.node [.ptr c 0 [7] .cell,.fn 93 []],0,.own⟩::u)++l)=some (.fn 93 []):=fun u l=>by simp
 have ff:=aI3 g0 g1 wb
 refine F60 (x:=?_)
 clear ff
 exact ⟨_,rfl⟩
theorem c97 {κ:Nat→Nat} {H:A3} {c:Nat} {s:Stt} {vt vp vs vi va vb:AV} {e:Pt} (w:Wk κ H c s vt vp vs vi va vb) (hs:Srt s):SpecQ Tryz.prog 97 [.node [.ptr c 0 [7] .cell,.fn 93 []],pt e] H fun r=>r=(.bool (A8 fA s.asks e),H):=by
 refine SpecQ.drop1 rfl (q97 fun env g0 g1=>?_)
 have ff:=aI g0 g1
 refine F61 (x:=?_)
 clear ff
 exact ⟨_,rfl⟩
theorem c74 {κ:Nat→Nat} {H:A3} {c:Nat} {s:Stt} {vt vp vs vi va vb:AV} (w:Wk κ H c s vt vp vs vi va vb):SpecQ Tryz.prog 74 [.node [.ptr c 0 [7] .cell,.fn 93 []]] H fun r=>r=(.bool (decide (40≤s.asks.length)),H):=by
 refine SpecQ.drop1 rfl (q74 fun env g0=>?_)
 have wb:=w.blk
 have wl:=w.fa.len
 have ff:=aI3 g0 wb wl
 refine F62 (x:=?_)
 clear ff
 exact ⟨_,rfl⟩
theorem A2y {κ:Nat→Nat} {H:A3} {c:Nat} {s:Stt} {vt vp vs vi va vb:AV} {e:Pt} (w:Wk κ H c s vt vp vs vi va vb) (hs:Srt s):SpecQ Tryz.prog 118 [.node [.ptr c 0 [8] .cell,.fn 117 []],pt e] H fun r=>r=(.tuple [nat (low fB s.bans e),.bool (A8 fB s.bans e)],H):=by
 refine SpecQ.drop1 rfl (G2J fun env g0 g1=>?_)
 have wb:=w.blk
 have hq:∀ u l:A3,D6 .cell (.ptr H.length 0 [1] .cell) ((H++⟨.node [.ptr c 0 [8] .cell,.fn 117 []],0,.own⟩::u)++l)=some (.fn 117 []):=fun u l=>by simp
 have ff:=aI3 g0 g1 wb
 refine F63 (x:=?_)
 clear ff
 exact ⟨_,rfl⟩
theorem c95 {κ:Nat→Nat} {H:A3} {c:Nat} {s:Stt} {vt vp vs vi va vb:AV} {e:Pt} (w:Wk κ H c s vt vp vs vi va vb) (hs:Srt s):SpecQ Tryz.prog 95 [.node [.ptr c 0 [8] .cell,.fn 117 []],pt e] H fun r=>r=(.bool (A8 fB s.bans e),H):=by
 refine SpecQ.drop1 rfl (q95 fun env g0 g1=>?_)
 have ff:=aI g0 g1
 refine F5M (x:=?_)
 clear ff
 exact ⟨_,rfl⟩
theorem D6W {κ:Nat→Nat} {H:A3} {c:Nat} {s:Stt} {vt vp vs vi va vb:AV} (w:Wk κ H c s vt vp vs vi va vb):SpecQ Tryz.prog 113 [.node [.ptr c 0 [8] .cell,.fn 117 []]] H fun r=>r=(.bool (decide (40≤s.bans.length)),H):=by
 refine SpecQ.drop1 rfl (G2R fun env g0=>?_)
 have wb:=w.blk
 have wl:=w.fb.len
 have ff:=aI3 g0 wb wl
 refine F5N (x:=?_)
 clear ff
 exact ⟨_,rfl⟩
end Go.Vab

namespace Go.Vab
open Go Go.Proofs
noncomputable section
def D6X:Ctx:=⟨fun _ _ _ => none,TT,34,[7,8,9,10,11,12,14,15,16,17,18,19,20,21,22,23,24,25,26,27,28,29,30,31,32,33]⟩
def D2S:=B8 Tryz.f77
def D2T:=cR D2S
def B4M:=cR D2T
def D2U:=cL B4M
def B4N:=cR D2U
def D2V:=cL B4N
def F0u:=cR D2V
def F0v:=cR B4N
def D2W:=cR B4M
def F0w:=cR D2W
def q77:=zQ2 D6X 77 Tryz.f77 D2S fun s=>(bnd (D6 A7 (s.env.get 4) s.heap) fun v=>bnd (bnd (some (s.env.get 5)) fun v=>bnd (some []) fun vs=>some (v::vs)) fun vs=>some (v::vs))
def E0g:=zDr D6X [F0u] [9,11] [0,1,0,4,12,28,0,0,128,508,1023,2047] [0,1,2,3,4,5,6,7,8] (.o 9 [10] [1] (.o 11 [] [] .f))
def F21:=B3 D6X [[F0u,D2V],[F0v],[D2V,F0v,B4N],[B4N,D2U],[F0w],[F0w,D2W],[D2U,D2W,B4M],[B4M,D2T],[D2T,D2S]]
end
end Go.Vab

namespace Go.Vab
open Go Go.Proofs
noncomputable section
def D6Y:Ctx:=⟨fun _ _ _ => none,TT,34,[7,8,9,10,11,12,14,15,16,17,18,19,20,21,22,23,24,25,26,27,28,29,30,31,32,33]⟩
def D2X:=B8 Tryz.f68
def D2Y:=cR D2X
def B4O:=cR D2Y
def D2Z:=cL B4O
def B4P:=cR D2Z
def D2a:=cL B4P
def F0x:=cR D2a
def F0y:=cR B4P
def D2b:=cR B4O
def F0z:=cR D2b
def q68:=zQ2 D6Y 68 Tryz.f68 D2X fun s=>(bnd (D6 B1 (s.env.get 4) s.heap) fun v=>bnd (bnd (some (s.env.get 5)) fun v=>bnd (some []) fun vs=>some (v::vs)) fun vs=>some (v::vs))
def E0h:=zDr D6Y [F0x] [9,11] [0,1,0,4,12,28,0,0,128,508,1023,2047] [0,1,2,3,4,5,6,7,8] (.o 9 [10] [1] (.o 11 [] [] .f))
def F22:=B3 D6Y [[F0x,D2a],[F0y],[D2a,F0y,B4P],[B4P,D2Z],[F0z],[F0z,D2b],[D2Z,D2b,B4O],[B4O,D2Y],[D2Y,D2X]]
end
end Go.Vab

namespace Go.Vab
open Go Go.Proofs
noncomputable section
def D6Z:Ctx:=⟨fun _ _ _ => none,TT,34,[7,8,9,10,11,12,14,15,16,17,18,19,20,21,22,23,24,25,26,27,28,29,30,31,32,33]⟩
def D2c:=B8 Tryz.f69
def D2d:=cR D2c
def B4Q:=cR D2d
def D2e:=cL B4Q
def B4R:=cR D2e
def D2f:=cL B4R
def F00:=cR D2f
def F01:=cR B4R
def D2g:=cR B4Q
def F02:=cR D2g
def q69:=zQ2 D6Z 69 Tryz.f69 D2c fun s=>(bnd (D6 B5 (s.env.get 4) s.heap) fun v=>bnd (bnd (some (s.env.get 5)) fun v=>bnd (some []) fun vs=>some (v::vs)) fun vs=>some (v::vs))
def E0i:=zDr D6Z [F00] [9,11] [0,1,0,4,12,28,0,0,128,508,1023,2047] [0,1,2,3,4,5,6,7,8] (.o 9 [10] [1] (.o 11 [] [] .f))
def F23:=B3 D6Z [[F00,D2f],[F01],[D2f,F01,B4R],[B4R,D2e],[F02],[F02,D2g],[D2e,D2g,B4Q],[B4Q,D2d],[D2d,D2c]]
end
end Go.Vab

namespace Go.Vab
open Go Go.Proofs
noncomputable section
def D2h:Ctx:=⟨fun _ _ _ => none,TT,34,[7,8,9,10,11,12,14,15,16,17,18,19,20,21,22,23,24,25,26,27,28,29,30,31,32,33]⟩
def C3k:=B8 Tryz.f112
def C3l:=cR C3k
def A8r:=cR C3l
def C3m:=cL A8r
def A8s:=cR C3m
def C3n:=cL A8s
def E4A:=cR C3n
def E4B:=cR A8s
def C3o:=cR A8r
def E4C:=cR C3o
def G2S:=zQ2 D2h 112 Tryz.f112 C3k fun s=>(bnd (D6 B4 (s.env.get 4) s.heap) fun v=>bnd (bnd (some (s.env.get 5)) fun v=>bnd (some []) fun vs=>some (v::vs)) fun vs=>some (v::vs))
def D89:=zDr D2h [E4A] [9,11] [0,1,0,4,12,28,0,0,128,508,1023,2047] [0,1,2,3,4,5,6,7,8] (.o 9 [10] [1] (.o 11 [] [] .f))
def F03:=B3 D2h [[E4A,C3n],[E4B],[C3n,E4B,A8s],[A8s,C3m],[E4C],[E4C,C3o],[C3m,C3o,A8r],[A8r,C3l],[C3l,C3k]]
end
end Go.Vab

namespace Go.Vab
open Go Go.Proofs
noncomputable section
def B4S:Ctx:=⟨fun _ _ _ => none,TT,28,[5,6,7,8,9,10,11,12,13,14,15,16,17,18,19,20,21,22,23,24,25,26,27]⟩
def C3p:=B8 Tryz.f103
def C3q:=cR C3p
def E4D:=cR C3q
def G2T:=zQ2 B4S 103 Tryz.f103 C3p fun s=>(some [])
def D9A:=zDr B4S [E4D] [8,9,11] [0,1,0,4,12,28,0,0,128,508,1023,2047] [0,1,2,3,4,5,6,7] (.o 8 [] [1,3,5] (.o 9 [10] [1] (.o 11 [] [] .f)))
def D9B:=zDr B4S [E4D,C3q] [] [0,0,2,6,14,30,62,127,255,511,511,1023,4095] [0,1,2,3,4,5,6,7,8,9,10,11,12] .f
def F04:=B3 B4S [[C3q,C3p]]
end
end Go.Vab

namespace Go.Vab
open Go Go.Proofs
noncomputable section
def B56:Ctx:=⟨fun _ _ _ => none,TT,28,[5,6,7,8,9,10,11,12,13,14,15,16,17,18,19,20,21,22,23,24,25,26,27]⟩
def D2i:=B8 Tryz.f72
def D2j:=cR D2i
def F05:=cR D2j
def q72:=zQ2 B56 72 Tryz.f72 D2i fun s=>(some [])
def E0j:=zDr B56 [F05] [8,9,11] [0,1,0,4,12,28,0,0,128,508,1023,2047] [0,1,2,3,4,5,6,7] (.o 8 [] [1,3,5] (.o 9 [10] [1] (.o 11 [] [] .f)))
def E0k:=zDr B56 [F05,D2j] [] [0,0,2,6,14,30,62,127,255,511,511,1023,4095] [0,1,2,3,4,5,6,7,8,9,10,11,12] .f
def F24:=B3 B56 [[D2j,D2i]]
end
end Go.Vab

namespace Go.Vab
open Go Go.Proofs
noncomputable section
def B57:Ctx:=⟨fun _ _ _ => none,TT,28,[5,6,7,8,9,10,11,12,13,14,15,16,17,18,19,20,21,22,23,24,25,26,27]⟩
def D2k:=B8 Tryz.f75
def D2l:=cR D2k
def F06:=cR D2l
def q75:=zQ2 B57 75 Tryz.f75 D2k fun s=>(some [])
def E0l:=zDr B57 [F06] [8,9,11] [0,1,0,4,12,28,0,0,128,508,1023,2047] [0,1,2,3,4,5,6,7] (.o 8 [] [1,3,5] (.o 9 [10] [1] (.o 11 [] [] .f)))
def E0m:=zDr B57 [F06,D2l] [] [0,0,2,6,14,30,62,127,255,511,511,1023,4095] [0,1,2,3,4,5,6,7,8,9,10,11,12] .f
def F25:=B3 B57 [[D2l,D2k]]
end
end Go.Vab

namespace Go.Vab
open Go Go.Proofs
noncomputable section
def B4T:Ctx:=⟨fun _ _ _ => none,TT,28,[5,6,7,8,9,10,11,12,13,14,15,16,17,18,19,20,21,22,23,24,25,26,27]⟩
def C3r:=B8 Tryz.f114
def C3s:=cR C3r
def E4E:=cR C3s
def G2U:=zQ2 B4T 114 Tryz.f114 C3r fun s=>(some [])
def D9C:=zDr B4T [E4E] [8,9,11] [0,1,0,4,12,28,0,0,128,508,1023,2047] [0,1,2,3,4,5,6,7] (.o 8 [] [1,3,5] (.o 9 [10] [1] (.o 11 [] [] .f)))
def D9D:=zDr B4T [E4E,C3s] [] [0,0,2,6,14,30,62,127,255,511,511,1023,4095] [0,1,2,3,4,5,6,7,8,9,10,11,12] .f
def F07:=B3 B4T [[C3s,C3r]]
end
end Go.Vab

namespace Go.Vab
open Go Go.Proofs
theorem D9E {G X:Prop} (f:Hd X→G:=by
 intro xX
 repeat' (first|refine stp (x:=?_)|(with_reducible refine SpecQ.step (c78 (w.app _) hs) ?_;rintro _ rfl;try dsimp only)|(with_reducible refine B6 (c78 (w.app _) hs) ?_)|(simp (decide:=true) only [F21,snB,if_true,if_false])|(with_reducible refine E0g _ _ _ ?_))
 exact xX.get) (x:X):G:=f ⟨x⟩
theorem F64 {G X:Prop} (f:Hd X→G:=by
 intro xX
 repeat' (first|refine stp (x:=?_)|(simp (decide:=true) only [F21,snB,if_true,if_false])|(with_reducible refine E0g _ _ _ ?_))
 exact xX.get) (x:X):G:=f ⟨x⟩
theorem F65 {G X:Prop} (f:Hd X→G:=by
 intro xX
 repeat' (first|refine stp (x:=?_)|(with_reducible refine A5 (c91) ?_;try dsimp only)|(with_reducible refine SpecQ.step (c91) ?_;rintro _ rfl;try dsimp only)|(with_reducible refine B6 (c91) ?_)|(with_reducible refine A5 (c78 (w.app _) hs) ?_;try dsimp only)|(with_reducible refine SpecQ.step (c78 (w.app _) hs) ?_;rintro _ rfl;try dsimp only)|(with_reducible refine B6 (c78 (w.app _) hs) ?_)|(simp (decide:=true) only [F04,snB,if_true,if_false])|(with_reducible refine D9A _ _ _ ?_)|(with_reducible refine D9B _ _ _ ?_))
 exact xX.get) (x:X):G:=f ⟨x⟩
theorem F66 {G X:Prop} (f:Hd X→G:=by
 intro xX
 repeat' (first|refine stp (x:=?_)|(simp (decide:=true) only [F04,snB,if_true,if_false])|(with_reducible refine D9A _ _ _ ?_)|(with_reducible refine D9B _ _ _ ?_))
 exact xX.get) (x:X):G:=f ⟨x⟩
theorem D9F {G X:Prop} (f:Hd X→G:=by
 intro xX
 repeat' (first|refine stp (x:=?_)|(with_reducible refine SpecQ.step (c99 (w.app _) hs) ?_;rintro _ rfl;try dsimp only)|(with_reducible refine B6 (c99 (w.app _) hs) ?_)|(simp (decide:=true) only [F22,snB,if_true,if_false])|(with_reducible refine E0h _ _ _ ?_))
 exact xX.get) (x:X):G:=f ⟨x⟩
theorem F67 {G X:Prop} (f:Hd X→G:=by
 intro xX
 repeat' (first|refine stp (x:=?_)|(simp (decide:=true) only [F22,snB,if_true,if_false])|(with_reducible refine E0h _ _ _ ?_))
 exact xX.get) (x:X):G:=f ⟨x⟩
theorem F68 {G X:Prop} (f:Hd X→G:=by
 intro xX
 repeat' (first|refine stp (x:=?_)|(with_reducible refine A5 (c92) ?_;try dsimp only)|(with_reducible refine SpecQ.step (c92) ?_;rintro _ rfl;try dsimp only)|(with_reducible refine B6 (c92) ?_)|(with_reducible refine A5 (c99 (w.app _) hs) ?_;try dsimp only)|(with_reducible refine SpecQ.step (c99 (w.app _) hs) ?_;rintro _ rfl;try dsimp only)|(with_reducible refine B6 (c99 (w.app _) hs) ?_)|(simp (decide:=true) only [F24,snB,if_true,if_false])|(with_reducible refine E0j _ _ _ ?_)|(with_reducible refine E0k _ _ _ ?_))
 exact xX.get) (x:X):G:=f ⟨x⟩
theorem F69 {G X:Prop} (f:Hd X→G:=by
 intro xX
 repeat' (first|refine stp (x:=?_)|(simp (decide:=true) only [F24,snB,if_true,if_false])|(with_reducible refine E0j _ _ _ ?_)|(with_reducible refine E0k _ _ _ ?_))
 exact xX.get) (x:X):G:=f ⟨x⟩
theorem D9G {G X:Prop} (f:Hd X→G:=by
 intro xX
 repeat' (first|refine stp (x:=?_)|(with_reducible refine SpecQ.step (A2x (w.app _) hs) ?_;rintro _ rfl;try dsimp only)|(with_reducible refine B6 (A2x (w.app _) hs) ?_)|(simp (decide:=true) only [F23,snB,if_true,if_false])|(with_reducible refine E0i _ _ _ ?_))
 exact xX.get) (x:X):G:=f ⟨x⟩
theorem F7A {G X:Prop} (f:Hd X→G:=by
 intro xX
 repeat' (first|refine stp (x:=?_)|(simp (decide:=true) only [F23,snB,if_true,if_false])|(with_reducible refine E0i _ _ _ ?_))
 exact xX.get) (x:X):G:=f ⟨x⟩
theorem F5O {G X:Prop} (f:Hd X→G:=by
 intro xX
 repeat' (first|refine stp (x:=?_)|(with_reducible refine A5 (c93) ?_;try dsimp only)|(with_reducible refine SpecQ.step (c93) ?_;rintro _ rfl;try dsimp only)|(with_reducible refine B6 (c93) ?_)|(with_reducible refine A5 (A2x (w.app _) hs) ?_;try dsimp only)|(with_reducible refine SpecQ.step (A2x (w.app _) hs) ?_;rintro _ rfl;try dsimp only)|(with_reducible refine B6 (A2x (w.app _) hs) ?_)|(simp (decide:=true) only [F25,snB,if_true,if_false])|(with_reducible refine E0l _ _ _ ?_)|(with_reducible refine E0m _ _ _ ?_))
 exact xX.get) (x:X):G:=f ⟨x⟩
theorem F5P {G X:Prop} (f:Hd X→G:=by
 intro xX
 repeat' (first|refine stp (x:=?_)|(simp (decide:=true) only [F25,snB,if_true,if_false])|(with_reducible refine E0l _ _ _ ?_)|(with_reducible refine E0m _ _ _ ?_))
 exact xX.get) (x:X):G:=f ⟨x⟩
theorem D8I {G X:Prop} (f:Hd X→G:=by
 intro xX
 repeat' (first|refine stp (x:=?_)|(with_reducible refine SpecQ.step (A2y (w.app _) hs) ?_;rintro _ rfl;try dsimp only)|(with_reducible refine B6 (A2y (w.app _) hs) ?_)|(simp (decide:=true) only [F03,snB,if_true,if_false])|(with_reducible refine D89 _ _ _ ?_))
 exact xX.get) (x:X):G:=f ⟨x⟩
theorem F5Q {G X:Prop} (f:Hd X→G:=by
 intro xX
 repeat' (first|refine stp (x:=?_)|(simp (decide:=true) only [F03,snB,if_true,if_false])|(with_reducible refine D89 _ _ _ ?_))
 exact xX.get) (x:X):G:=f ⟨x⟩
theorem F5R {G X:Prop} (f:Hd X→G:=by
 intro xX
 repeat' (first|refine stp (x:=?_)|(with_reducible refine A5 (A4U) ?_;try dsimp only)|(with_reducible refine SpecQ.step (A4U) ?_;rintro _ rfl;try dsimp only)|(with_reducible refine B6 (A4U) ?_)|(with_reducible refine A5 (A2y (w.app _) hs) ?_;try dsimp only)|(with_reducible refine SpecQ.step (A2y (w.app _) hs) ?_;rintro _ rfl;try dsimp only)|(with_reducible refine B6 (A2y (w.app _) hs) ?_)|(simp (decide:=true) only [F07,snB,if_true,if_false])|(with_reducible refine D9C _ _ _ ?_)|(with_reducible refine D9D _ _ _ ?_))
 exact xX.get) (x:X):G:=f ⟨x⟩
theorem F5S {G X:Prop} (f:Hd X→G:=by
 intro xX
 repeat' (first|refine stp (x:=?_)|(simp (decide:=true) only [F07,snB,if_true,if_false])|(with_reducible refine D9C _ _ _ ?_)|(with_reducible refine D9D _ _ _ ?_))
 exact xX.get) (x:X):G:=f ⟨x⟩
attribute [local irreducible] E9 Evs gW D9 E8 G5
theorem c77 {κ : Nat → Nat} {H : A3} {c : Nat} {s : Stt} {vt vp vs vi va vb : AV} {e : Pt} (w : Wk κ H c s vt vp vs vi va vb) (hs : Srt s) : SpecQ Tryz.prog 77 [.node [.ptr c 0 [5] .cell, .fn 91 []], pt e] H fun r =>
  ∃ (y:Seat) (κ':Nat→Nat) (H':A3) (q:AV),r=(.tuple [B0 y,.bool (A8 fS s.seats e)],H')∧(∀ x,fnd fS s.seats e=some x→y=x)∧Wk κ' H' c { s with seats:=del fS s.seats e } vt vp q vi va vb∧Fr κ H κ' H':=by
 refine q77 fun env g0 g1=>?_
 have wb:=w.blk
 have wc:=w.cells
 have wl:=w.lt
 cases hp:A8 fS s.seats e
 ·have ff:=aI5 g0 g1 wb wc hp
  refine D9E (x:=?_)
  clear ff
  refine ⟨⟨ci0,0#8,0#32⟩,κ,_,vs,rfl,fun x hx=>?_,?_,(Fr.refl _ _).app⟩
  ·rw [S0 hp] at hx;cases hx
  ·rw [A1O hp];exact w.app _
 ·obtain ⟨hlow,he,hf⟩:=U4 hs.s hp
  obtain ⟨pb,pv,pp,bb,p1,p2,p3,p4⟩:=w.ws.idxE hlow
  have ad:C6 .add (nat (low fS s.seats e)) (nat 1)=some (nat (low fS s.seats e+1)):=Q0 (by have:=w.fs.le;omega)
  have ff:=E3 ad g0 g1 wb wc hp p1 p2 p3 p4
  refine D9E (x:=?_)
  clear ff
  have w1:=w.app (⟨.node [.ptr c 0 [5] .cell,.fn 91 []],0,.own⟩::⟨pt e,0,.own⟩::[⟨B0 s.seats[low fS s.seats e],0,.own⟩])
  refine SpecQ.step (G1m w1.fs hlow) ?_
  rintro _ ⟨q,H1,rfl,k1,ch⟩
  have hr:=A9 (ch.blk (by decide) (i:=H.length) (b:=⟨.node [.ptr c 0 [5] .cell,.fn 91 []],0,.own⟩) (by simp) (w.top _ (Nat.le_refl _)))
  have hz1:=ch.blk (by decide) (i:=H.length+2) (b:=⟨B0 s.seats[low fS s.seats e],0,.own⟩) (by simp) (w.top _ (by omega))
  have hc1:=A9 (w1.rest ch (by decide)).1
  obtain ⟨w2,fr⟩:=w1.newS ch k1
  obtain ⟨H2,h2⟩:∃ G,G=H1.set c ⟨eSt { s with seats:=s.seats.take (low fS s.seats e)++s.seats.drop (low fS s.seats e+1) } vt vp q vi va vb,0,.own⟩:=⟨_,rfl⟩
  rw [←h2] at w2 fr
  have h2':H1.set c ⟨C1 s.version s.key s.acc vt vp q vi va vb,0,.own⟩=H2:=h2.symm
  have hz2:H2[H.length+2]?=some ⟨B0 s.seats[low fS s.seats e],0,.own⟩:=by rw [h2,List.getElem?_set_ne (by omega)];exact hz1
  have hz3:=A9 hz2
  have hz4:=A0K hz2
  have qc:=k1.cell
  have ff:=E3 g0 g1 hr hc1 h2' hz3 hz4 qc wc hp
  refine F64 (x:=?_)
  clear ff
  refine ⟨_,κ,H2,q,rfl,fun x hx=>?_,?_,fr.app⟩
  ·rw [hf] at hx;exact Option.some.inj hx
  ·rw [A3T hs.s hp];exact w2
theorem G2V {κ : Nat → Nat} {H : A3} {c : Nat} {s : Stt} {vt vp vs vi va vb : AV} {x : Seat} (w : Wk κ H c s vt vp vs vi va vb) (hs : Srt s) (hl : s.seats.length < 1000) : SpecQ Tryz.prog 103 [.node [.ptr c 0 [5] .cell, .fn 91 []], B0 x] H fun r =>
  ∃ (v:AV) (κ':Nat→Nat) (H':A3) (q:AV),r=(v,H')∧Wk κ' H' c { s with seats:=ins fS s.seats x } vt vp q vi va vb∧Fr κ H κ' H':=by
 refine G2T fun env g0 g1=>?_
 have wb:=w.blk
 have wc:=w.cells
 have wl:=w.lt
 have ff:=aI4 g0 g1 wb wc
 refine F65 (x:=?_)
 clear ff
 have w1:=w.app (⟨.node [.ptr c 0 [5] .cell,.fn 91 []],0,.own⟩::⟨B0 x,0,.own⟩::[⟨.node [B0 x],0,.own⟩])
 refine SpecQ.step (G1n w1.fs (A0o _ _ _) hl (vb:=H.length+2) (e:=x) (by simp) (by rw [w.top _ (by omega)];decide)) ?_
 rintro _ ⟨q,H1,κ',rfl,k1,ch⟩
 have hr:=A9 (ch.blk (by decide) (i:=H.length) (b:=⟨.node [.ptr c 0 [5] .cell,.fn 91 []],0,.own⟩) (by simp) (w.top _ (Nat.le_refl _)))
 have hc1:=A9 (w1.rest ch (by decide)).1
 obtain ⟨w2,fr⟩:=w1.newS ch k1
 obtain ⟨H2,h2⟩:∃ G,G=H1.set c ⟨eSt { s with seats:=s.seats.take (low fS s.seats x.who.e)++x::s.seats.drop (low fS s.seats x.who.e) } vt vp q vi va vb,0,.own⟩:=⟨_,rfl⟩
 rw [←h2] at w2 fr
 have h2':H1.set c ⟨C1 s.version s.key s.acc vt vp q vi va vb,0,.own⟩=H2:=h2.symm
 have qc:=k1.cell
 have ff:=aI7 g0 g1 hr hc1 h2' qc wc
 refine F66 (x:=?_)
 clear ff
 exact ⟨_,κ',H2,q,rfl,w2,fr.app⟩
theorem c68 {κ : Nat → Nat} {H : A3} {c : Nat} {s : Stt} {vt vp vs vi va vb : AV} {e : Pt} (w : Wk κ H c s vt vp vs vi va vb) (hs : Srt s) : SpecQ Tryz.prog 68 [.node [.ptr c 0 [6] .cell, .fn 92 []], pt e] H fun r =>
  ∃ (y:Inv) (κ':Nat→Nat) (H':A3) (q:AV),r=(.tuple [B7 y,.bool (A8 fI s.invites e)],H')∧(∀ x,fnd fI s.invites e=some x→y=x)∧Wk κ' H' c { s with invites:=del fI s.invites e } vt vp vs q va vb∧Fr κ H κ' H':=by
 refine q68 fun env g0 g1=>?_
 have wb:=w.blk
 have wc:=w.cells
 have wl:=w.lt
 cases hp:A8 fI s.invites e
 ·have ff:=aI5 g0 g1 wb wc hp
  refine D9F (x:=?_)
  clear ff
  refine ⟨⟨ci0,0#8,ci0⟩,κ,_,vi,rfl,fun x hx=>?_,?_,(Fr.refl _ _).app⟩
  ·rw [S0 hp] at hx;cases hx
  ·rw [A1O hp];exact w.app _
 ·obtain ⟨hlow,he,hf⟩:=U4 hs.i hp
  obtain ⟨pb,pv,pp,bb,p1,p2,p3,p4⟩:=w.wi.idxE hlow
  have ad:C6 .add (nat (low fI s.invites e)) (nat 1)=some (nat (low fI s.invites e+1)):=Q0 (by have:=w.fi.le;omega)
  have ff:=E3 ad g0 g1 wb wc hp p1 p2 p3 p4
  refine D9F (x:=?_)
  clear ff
  have w1:=w.app (⟨.node [.ptr c 0 [6] .cell,.fn 92 []],0,.own⟩::⟨pt e,0,.own⟩::[⟨B7 s.invites[low fI s.invites e],0,.own⟩])
  refine SpecQ.step (G1o w1.fi hlow) ?_
  rintro _ ⟨q,H1,rfl,k1,ch⟩
  have hr:=A9 (ch.blk (by decide) (i:=H.length) (b:=⟨.node [.ptr c 0 [6] .cell,.fn 92 []],0,.own⟩) (by simp) (w.top _ (Nat.le_refl _)))
  have hz1:=ch.blk (by decide) (i:=H.length+2) (b:=⟨B7 s.invites[low fI s.invites e],0,.own⟩) (by simp) (w.top _ (by omega))
  have hc1:=A9 (w1.rest ch (by decide)).1
  obtain ⟨w2,fr⟩:=w1.newI ch k1
  obtain ⟨H2,h2⟩:∃ G,G=H1.set c ⟨eSt { s with invites:=s.invites.take (low fI s.invites e)++s.invites.drop (low fI s.invites e+1) } vt vp vs q va vb,0,.own⟩:=⟨_,rfl⟩
  rw [←h2] at w2 fr
  have h2':H1.set c ⟨C1 s.version s.key s.acc vt vp vs q va vb,0,.own⟩=H2:=h2.symm
  have hz2:H2[H.length+2]?=some ⟨B7 s.invites[low fI s.invites e],0,.own⟩:=by rw [h2,List.getElem?_set_ne (by omega)];exact hz1
  have hz3:=A9 hz2
  have hz4:=A0K hz2
  have qc:=k1.cell
  have ff:=E3 g0 g1 hr hc1 h2' hz3 hz4 qc wc hp
  refine F67 (x:=?_)
  clear ff
  refine ⟨_,κ,H2,q,rfl,fun x hx=>?_,?_,fr.app⟩
  ·rw [hf] at hx;exact Option.some.inj hx
  ·rw [A3T hs.i hp];exact w2
theorem c72 {κ : Nat → Nat} {H : A3} {c : Nat} {s : Stt} {vt vp vs vi va vb : AV} {x : Inv} (w : Wk κ H c s vt vp vs vi va vb) (hs : Srt s) (hl : s.invites.length < 1000) : SpecQ Tryz.prog 72 [.node [.ptr c 0 [6] .cell, .fn 92 []], B7 x] H fun r =>
  ∃ (v:AV) (κ':Nat→Nat) (H':A3) (q:AV),r=(v,H')∧Wk κ' H' c { s with invites:=ins fI s.invites x } vt vp vs q va vb∧Fr κ H κ' H':=by
 refine q72 fun env g0 g1=>?_
 have wb:=w.blk
 have wc:=w.cells
 have wl:=w.lt
 have ff:=aI4 g0 g1 wb wc
 refine F68 (x:=?_)
 clear ff
 have w1:=w.app (⟨.node [.ptr c 0 [6] .cell,.fn 92 []],0,.own⟩::⟨B7 x,0,.own⟩::[⟨.node [B7 x],0,.own⟩])
 refine SpecQ.step (G1p w1.fi (A0o _ _ _) hl (vb:=H.length+2) (e:=x) (by simp) (by rw [w.top _ (by omega)];decide)) ?_
 rintro _ ⟨q,H1,κ',rfl,k1,ch⟩
 have hr:=A9 (ch.blk (by decide) (i:=H.length) (b:=⟨.node [.ptr c 0 [6] .cell,.fn 92 []],0,.own⟩) (by simp) (w.top _ (Nat.le_refl _)))
 have hc1:=A9 (w1.rest ch (by decide)).1
 obtain ⟨w2,fr⟩:=w1.newI ch k1
 obtain ⟨H2,h2⟩:∃ G,G=H1.set c ⟨eSt { s with invites:=s.invites.take (low fI s.invites x.who.e)++x::s.invites.drop (low fI s.invites x.who.e) } vt vp vs q va vb,0,.own⟩:=⟨_,rfl⟩
 rw [←h2] at w2 fr
 have h2':H1.set c ⟨C1 s.version s.key s.acc vt vp vs q va vb,0,.own⟩=H2:=h2.symm
 have qc:=k1.cell
 have ff:=aI7 g0 g1 hr hc1 h2' qc wc
 refine F69 (x:=?_)
 clear ff
 exact ⟨_,κ',H2,q,rfl,w2,fr.app⟩
theorem c69 {κ : Nat → Nat} {H : A3} {c : Nat} {s : Stt} {vt vp vs vi va vb : AV} {e : Pt} (w : Wk κ H c s vt vp vs vi va vb) (hs : Srt s) : SpecQ Tryz.prog 69 [.node [.ptr c 0 [7] .cell, .fn 93 []], pt e] H fun r =>
  ∃ (y:Ask) (κ':Nat→Nat) (H':A3) (q:AV),r=(.tuple [B9 y,.bool (A8 fA s.asks e)],H')∧(∀ x,fnd fA s.asks e=some x→y=x)∧Wk κ' H' c { s with asks:=del fA s.asks e } vt vp vs vi q vb∧Fr κ H κ' H':=by
 refine q69 fun env g0 g1=>?_
 have wb:=w.blk
 have wc:=w.cells
 have wl:=w.lt
 cases hp:A8 fA s.asks e
 ·have ff:=aI5 g0 g1 wb wc hp
  refine D9G (x:=?_)
  clear ff
  refine ⟨⟨ci0,0#32⟩,κ,_,va,rfl,fun x hx=>?_,?_,(Fr.refl _ _).app⟩
  ·rw [S0 hp] at hx;cases hx
  ·rw [A1O hp];exact w.app _
 ·obtain ⟨hlow,he,hf⟩:=U4 hs.a hp
  obtain ⟨pb,pv,pp,bb,p1,p2,p3,p4⟩:=w.wa.idxE hlow
  have ad:C6 .add (nat (low fA s.asks e)) (nat 1)=some (nat (low fA s.asks e+1)):=Q0 (by have:=w.fa.le;omega)
  have ff:=E3 ad g0 g1 wb wc hp p1 p2 p3 p4
  refine D9G (x:=?_)
  clear ff
  have w1:=w.app (⟨.node [.ptr c 0 [7] .cell,.fn 93 []],0,.own⟩::⟨pt e,0,.own⟩::[⟨B9 s.asks[low fA s.asks e],0,.own⟩])
  refine SpecQ.step (G1q w1.fa hlow) ?_
  rintro _ ⟨q,H1,rfl,k1,ch⟩
  have hr:=A9 (ch.blk (by decide) (i:=H.length) (b:=⟨.node [.ptr c 0 [7] .cell,.fn 93 []],0,.own⟩) (by simp) (w.top _ (Nat.le_refl _)))
  have hz1:=ch.blk (by decide) (i:=H.length+2) (b:=⟨B9 s.asks[low fA s.asks e],0,.own⟩) (by simp) (w.top _ (by omega))
  have hc1:=A9 (w1.rest ch (by decide)).1
  obtain ⟨w2,fr⟩:=w1.newA ch k1
  obtain ⟨H2,h2⟩:∃ G,G=H1.set c ⟨eSt { s with asks:=s.asks.take (low fA s.asks e)++s.asks.drop (low fA s.asks e+1) } vt vp vs vi q vb,0,.own⟩:=⟨_,rfl⟩
  rw [←h2] at w2 fr
  have h2':H1.set c ⟨C1 s.version s.key s.acc vt vp vs vi q vb,0,.own⟩=H2:=h2.symm
  have hz2:H2[H.length+2]?=some ⟨B9 s.asks[low fA s.asks e],0,.own⟩:=by rw [h2,List.getElem?_set_ne (by omega)];exact hz1
  have hz3:=A9 hz2
  have hz4:=A0K hz2
  have qc:=k1.cell
  have ff:=E3 g0 g1 hr hc1 h2' hz3 hz4 qc wc hp
  refine F7A (x:=?_)
  clear ff
  refine ⟨_,κ,H2,q,rfl,fun x hx=>?_,?_,fr.app⟩
  ·rw [hf] at hx;exact Option.some.inj hx
  ·rw [A3T hs.a hp];exact w2
theorem c75 {κ : Nat → Nat} {H : A3} {c : Nat} {s : Stt} {vt vp vs vi va vb : AV} {x : Ask} (w : Wk κ H c s vt vp vs vi va vb) (hs : Srt s) (hl : s.asks.length < 1000) : SpecQ Tryz.prog 75 [.node [.ptr c 0 [7] .cell, .fn 93 []], B9 x] H fun r =>
  ∃ (v:AV) (κ':Nat→Nat) (H':A3) (q:AV),r=(v,H')∧Wk κ' H' c { s with asks:=ins fA s.asks x } vt vp vs vi q vb∧Fr κ H κ' H':=by
 refine q75 fun env g0 g1=>?_
 have wb:=w.blk
 have wc:=w.cells
 have wl:=w.lt
 have ff:=aI4 g0 g1 wb wc
 refine F5O (x:=?_)
 clear ff
 have w1:=w.app (⟨.node [.ptr c 0 [7] .cell,.fn 93 []],0,.own⟩::⟨B9 x,0,.own⟩::[⟨.node [B9 x],0,.own⟩])
 refine SpecQ.step (G1r w1.fa (A0o _ _ _) hl (vb:=H.length+2) (e:=x) (by simp) (by rw [w.top _ (by omega)];decide)) ?_
 rintro _ ⟨q,H1,κ',rfl,k1,ch⟩
 have hr:=A9 (ch.blk (by decide) (i:=H.length) (b:=⟨.node [.ptr c 0 [7] .cell,.fn 93 []],0,.own⟩) (by simp) (w.top _ (Nat.le_refl _)))
 have hc1:=A9 (w1.rest ch (by decide)).1
 obtain ⟨w2,fr⟩:=w1.newA ch k1
 obtain ⟨H2,h2⟩:∃ G,G=H1.set c ⟨eSt { s with asks:=s.asks.take (low fA s.asks x.who.e)++x::s.asks.drop (low fA s.asks x.who.e) } vt vp vs vi q vb,0,.own⟩:=⟨_,rfl⟩
 rw [←h2] at w2 fr
 have h2':H1.set c ⟨C1 s.version s.key s.acc vt vp vs vi q vb,0,.own⟩=H2:=h2.symm
 have qc:=k1.cell
 have ff:=aI7 g0 g1 hr hc1 h2' qc wc
 refine F5P (x:=?_)
 clear ff
 exact ⟨_,κ',H2,q,rfl,w2,fr.app⟩
theorem G2W {κ : Nat → Nat} {H : A3} {c : Nat} {s : Stt} {vt vp vs vi va vb : AV} {e : Pt} (w : Wk κ H c s vt vp vs vi va vb) (hs : Srt s) : SpecQ Tryz.prog 112 [.node [.ptr c 0 [8] .cell, .fn 117 []], pt e] H fun r =>
  ∃ (y:Ban) (κ':Nat→Nat) (H':A3) (q:AV),r=(.tuple [B2 y,.bool (A8 fB s.bans e)],H')∧(∀ x,fnd fB s.bans e=some x→y=x)∧Wk κ' H' c { s with bans:=del fB s.bans e } vt vp vs vi va q∧Fr κ H κ' H':=by
 refine G2S fun env g0 g1=>?_
 have wb:=w.blk
 have wc:=w.cells
 have wl:=w.lt
 cases hp:A8 fB s.bans e
 ·have ff:=aI5 g0 g1 wb wc hp
  refine D8I (x:=?_)
  clear ff
  refine ⟨⟨ci0,ci0⟩,κ,_,vb,rfl,fun x hx=>?_,?_,(Fr.refl _ _).app⟩
  ·rw [S0 hp] at hx;cases hx
  ·rw [A1O hp];exact w.app _
 ·obtain ⟨hlow,he,hf⟩:=U4 hs.b hp
  obtain ⟨pb,pv,pp,bb,p1,p2,p3,p4⟩:=w.wb.idxE hlow
  have ad:C6 .add (nat (low fB s.bans e)) (nat 1)=some (nat (low fB s.bans e+1)):=Q0 (by have:=w.fb.le;omega)
  have ff:=E3 ad g0 g1 wb wc hp p1 p2 p3 p4
  refine D8I (x:=?_)
  clear ff
  have w1:=w.app (⟨.node [.ptr c 0 [8] .cell,.fn 117 []],0,.own⟩::⟨pt e,0,.own⟩::[⟨B2 s.bans[low fB s.bans e],0,.own⟩])
  refine SpecQ.step (G1s w1.fb hlow) ?_
  rintro _ ⟨q,H1,rfl,k1,ch⟩
  have hr:=A9 (ch.blk (by decide) (i:=H.length) (b:=⟨.node [.ptr c 0 [8] .cell,.fn 117 []],0,.own⟩) (by simp) (w.top _ (Nat.le_refl _)))
  have hz1:=ch.blk (by decide) (i:=H.length+2) (b:=⟨B2 s.bans[low fB s.bans e],0,.own⟩) (by simp) (w.top _ (by omega))
  have hc1:=A9 (w1.rest ch (by decide)).1
  obtain ⟨w2,fr⟩:=w1.newB ch k1
  obtain ⟨H2,h2⟩:∃ G,G=H1.set c ⟨eSt { s with bans:=s.bans.take (low fB s.bans e)++s.bans.drop (low fB s.bans e+1) } vt vp vs vi va q,0,.own⟩:=⟨_,rfl⟩
  rw [←h2] at w2 fr
  have h2':H1.set c ⟨C1 s.version s.key s.acc vt vp vs vi va q,0,.own⟩=H2:=h2.symm
  have hz2:H2[H.length+2]?=some ⟨B2 s.bans[low fB s.bans e],0,.own⟩:=by rw [h2,List.getElem?_set_ne (by omega)];exact hz1
  have hz3:=A9 hz2
  have hz4:=A0K hz2
  have qc:=k1.cell
  have ff:=E3 g0 g1 hr hc1 h2' hz3 hz4 qc wc hp
  refine F5Q (x:=?_)
  clear ff
  refine ⟨_,κ,H2,q,rfl,fun x hx=>?_,?_,fr.app⟩
  ·rw [hf] at hx;exact Option.some.inj hx
  ·rw [A3T hs.b hp];exact w2
theorem D6a {κ : Nat → Nat} {H : A3} {c : Nat} {s : Stt} {vt vp vs vi va vb : AV} {x : Ban} (w : Wk κ H c s vt vp vs vi va vb) (hs : Srt s) (hl : s.bans.length < 1000) : SpecQ Tryz.prog 114 [.node [.ptr c 0 [8] .cell, .fn 117 []], B2 x] H fun r =>
  ∃ (v:AV) (κ':Nat→Nat) (H':A3) (q:AV),r=(v,H')∧Wk κ' H' c { s with bans:=ins fB s.bans x } vt vp vs vi va q∧Fr κ H κ' H':=by
 refine G2U fun env g0 g1=>?_
 have wb:=w.blk
 have wc:=w.cells
 have wl:=w.lt
 have ff:=aI4 g0 g1 wb wc
 refine F5R (x:=?_)
 clear ff
 have w1:=w.app (⟨.node [.ptr c 0 [8] .cell,.fn 117 []],0,.own⟩::⟨B2 x,0,.own⟩::[⟨.node [B2 x],0,.own⟩])
 refine SpecQ.step (G1t w1.fb (A0o _ _ _) hl (vb:=H.length+2) (e:=x) (by simp) (by rw [w.top _ (by omega)];decide)) ?_
 rintro _ ⟨q,H1,κ',rfl,k1,ch⟩
 have hr:=A9 (ch.blk (by decide) (i:=H.length) (b:=⟨.node [.ptr c 0 [8] .cell,.fn 117 []],0,.own⟩) (by simp) (w.top _ (Nat.le_refl _)))
 have hc1:=A9 (w1.rest ch (by decide)).1
 obtain ⟨w2,fr⟩:=w1.newB ch k1
 obtain ⟨H2,h2⟩:∃ G,G=H1.set c ⟨eSt { s with bans:=s.bans.take (low fB s.bans x.who.e)++x::s.bans.drop (low fB s.bans x.who.e) } vt vp vs vi va q,0,.own⟩:=⟨_,rfl⟩
 rw [←h2] at w2 fr
 have h2':H1.set c ⟨C1 s.version s.key s.acc vt vp vs vi va q,0,.own⟩=H2:=h2.symm
 have qc:=k1.cell
 have ff:=aI7 g0 g1 hr hc1 h2' qc wc
 refine F5S (x:=?_)
 clear ff
 exact ⟨_,κ',H2,q,rfl,w2,fr.app⟩
end Go.Vab

namespace Go.Vab
open Go Go.Proofs
noncomputable section
def F26:Ctx:=⟨fun _ _ _ => none,TT,10,[5,6,7,8,9]⟩
def D2m:=B8 Tryz.f98
def D2n:=cR D2m
def F08:=cR D2n
def q98:=zQ2 F26 98 Tryz.f98 D2m fun s=>(bnd (some (s.env.get 4)) fun v=>bnd (some []) fun vs=>some (v::vs))
def G2X:=B3 F26 [[F08],[F08,D2n],[D2n,D2m]]
end
end Go.Vab

namespace Go.Vab
open Go Go.Proofs
theorem c98 {h:A3} {x y:AV} {a b:Bs} (hx:BytL h x a) (hy:BytL h y b):SpecQ Tryz.prog 98 [x,y] h fun r=>r=(.bool (decide (a=b)),h):=by
 have sx:=hx.str
 have sy:=hy.str
 refine SpecQ.drop1 rfl (q98 fun env g0 g1=>?_)
 repeat' (first|((with_reducible refine I6 (a:=?_) ?_ ?_);rotate_left;(focus ((conv=>lhs;simp (disch:=omega) [g0,g1,sx,sy]);done));try dsimp only)|(simp (decide:=true) only [G2X,J7,J4,I3,J3,I2,J2,J1,if_true,if_false,J5,J6]))
 exact ⟨[],by simp [C8]⟩
end Go.Vab

namespace Go.Vab
open Go Go.Proofs
noncomputable section
def F09:Ctx:=⟨fun _ _ _ => none,TT,7,[2,5]⟩
def C3t:=B8 Tryz.f109
def A8t:=cR C3t
def C3u:=cL A8t
def A8u:=cR C3u
def C3v:=cL A8u
def E4F:=cR C3v
def E4G:=cR A8u
def C3w:=cR A8t
def E4H:=cR C3w
def G2Y:=zQ2 F09 109 Tryz.f109 C3t fun s=>(bnd (some (s.env.get 4)) fun v=>bnd (some []) fun vs=>some (v::vs))
def G0O:=B3 F09 [[E4F],[E4F,C3v],[E4G],[C3v,E4G,A8u],[A8u,C3u],[E4H],[E4H,C3w],[C3u,C3w,A8t],[A8t,C3t]]
end
end Go.Vab

namespace Go.Vab
open Go Go.Proofs
noncomputable section
def F1A:Ctx:=⟨fun _ _ _ => none,TT,7,[2,5]⟩
def C3x:=B8 Tryz.f110
def A8v:=cR C3x
def C3y:=cL A8v
def A8w:=cR C3y
def C3z:=cL A8w
def E4I:=cR C3z
def E4J:=cR A8w
def C30:=cR A8v
def E4K:=cR C30
def G2Z:=zQ2 F1A 110 Tryz.f110 C3x fun s=>(bnd (some (s.env.get 4)) fun v=>bnd (some []) fun vs=>some (v::vs))
def G0P:=B3 F1A [[E4I],[E4I,C3z],[E4J],[C3z,E4J,A8w],[A8w,C3y],[E4K],[E4K,C30],[C3y,C30,A8v],[A8v,C3x]]
end
end Go.Vab

namespace Go.Vab
open Go Go.Proofs
noncomputable section
def F1B:Ctx:=⟨fun _ _ _ => none,TT,7,[2,5]⟩
def C31:=B8 Tryz.f111
def A8x:=cR C31
def C32:=cL A8x
def A8y:=cR C32
def C33:=cL A8y
def E4L:=cR C33
def E4M:=cR A8y
def C34:=cR A8x
def E4N:=cR C34
def G2a:=zQ2 F1B 111 Tryz.f111 C31 fun s=>(bnd (some (s.env.get 4)) fun v=>bnd (some []) fun vs=>some (v::vs))
def G0Q:=B3 F1B [[E4L],[E4L,C33],[E4M],[C33,E4M,A8y],[A8y,C32],[E4N],[E4N,C34],[C32,C34,A8x],[A8x,C31]]
end
end Go.Vab

namespace Go.Vab
open Go Go.Proofs
noncomputable section
def D6b:Ctx:=⟨fun _ _ _ => none,TT,29,[4,5,6,7,8,9,10,11,12,13,14,15,16,17,18,19,20,21,22,23,24,25,26,27,28]⟩
def D2o:=B8 Tryz.f73
def D2p:=cR D2o
def D2q:=cR D2p
def F1C:=cR D2q
def q73:=zQ1 D6b 73 Tryz.f73 D2o fun s=>(bnd (D6 C3 (s.env.get 2) s.heap) fun v=>bnd (some []) fun vs=>some (v::vs))
def F8M:=zDr D6b [D2q,D2p] [] [0,1,3,7,15,0,32,96,224,511,1023,2047,2047,4095,16383] [0,1,2,3,4,5,6,7,8,9,10,11,12,13,14] .f
def G2b:=B3 D6b [[F1C],[F1C,D2q],[D2p,D2o]]
end
end Go.Vab

namespace Go.Vab
open Go Go.Proofs
noncomputable section
def F27:Ctx:=⟨fun _ _ _ => none,TT,26,[6,7,8,9,10,11,16,17,18,19,21,22,23,24,25]⟩
def D2r:=B8 Tryz.f79
def D2s:=cR D2r
def B4U:=cR D2s
def D2t:=cL B4U
def D2u:=cR D2t
def D2v:=cB D2u
def D2w:=cB D2v
def B4V:=cR D2w
def B4W:=cL B4V
def F1D:=cL B4W
def E4O:=cR B4W
def A8z:=cR B4V
def C35:=cL A8z
def C36:=cB C35
def C37:=cR C36
def A80:=cR C37
def E4P:=cL A80
def E4Q:=cR A80
def E4R:=cR A8z
def C38:=cR B4U
def E4S:=cR C38
def q79:=zQ1 F27 79 Tryz.f79 D2r fun s=>(bnd (some (s.env.get 2)) fun v=>bnd (some []) fun vs=>some (v::vs))
def G2c:=B3 F27 [[F1D],[E4O],[F1D,E4O,B4W],[E4P],[E4Q],[E4P,E4Q,A80],[A80,C37],[C37,C36],[C36,C35],[E4R],[C35,E4R,A8z],[B4W,A8z,B4V],[B4V,D2w],[D2w,D2v],[D2v,D2u],[D2u,D2t],[E4S],[E4S,C38],[D2t,C38,B4U],[B4U,D2s],[D2s,D2r]]
end
end Go.Vab

namespace Go.Vab
open Go Go.Proofs
noncomputable section
def D6c:Ctx:=⟨fun _ _ _ => none,TT,21,[7,8,9,10,11,12,13,14,15,16,17,18,19,20]⟩
def D2x:=B8 Tryz.f70
def D2y:=cR D2x
def D2z:=cR D2y
def F1E:=cR D2z
def q70:=zQ3 D6c 70 Tryz.f70 D2x fun s=>(bnd (some (s.env.get 6)) fun v=>bnd (some []) fun vs=>some (v::vs))
def E0n:=zDr D6c [D2z,D2y] [13] [0,1,3,7,15,0,0,0,128,384,896,1920,4064,8191] [0,1,2,3,4,5,6,7,8,9,10,11,12] (.o 13 [] [] .f)
def F28:=B3 D6c [[F1E],[F1E,D2z],[D2y,D2x]]
end
end Go.Vab

namespace Go.Vab
open Go Go.Proofs
noncomputable section
def A1b:Ctx:=⟨fun _ _ _ => none,TT,97,[10,11,12,13,14,15,17,18,19,20,21,22,23,25,26,27,28,29,30,31,32,33,34,35,36,37,38,39,40,41,42,43,44,45,46,47,48,49,50,51,53,54,55,56,57,58,59,60,61,62,63,64,65,66,68,69,70,71,72,73,74,75,76,77,78,79,80,81,82,83,84,85,86,87,88,89,90,91,92,93,94,95,96]⟩
def D20:=B8 Tryz.f66
def D21:=cR D20
def B4X:=cR D21
def D22:=cL B4X
def D23:=cB D22
def B4Y:=cR D23
def D24:=cL B4Y
def F1F:=cR D24
def B4Z:=cR B4Y
def D25:=cL B4Z
def A81:=cR D25
def E4T:=cL A81
def C39:=cR A81
def A82:=cR C39
def E4U:=cL A82
def E4V:=cR A82
def A83:=cR B4Z
def C4A:=cL A83
def E4W:=cR C4A
def C4B:=cR A83
def A84:=cR C4B
def C4C:=cL A84
def E4X:=cR C4C
def C4D:=cR A84
def A85:=cR C4D
def C4E:=cL A85
def E4Y:=cR C4E
def E4Z:=cR A85
def C4F:=cR B4X
def E4a:=cR C4F
def q66:=zQ4 A1b 66 Tryz.f66 D20 fun s=>(bnd (some (s.env.get 8)) fun v=>bnd (some []) fun vs=>some (v::vs))
def A3N:=zDr A1b [E4V] [] [0,1,3,7,15,31,63,3,255,511,1023] [0,1,2,3,4,5,6,7,8,9,10] .f
def A3O:=zDr A1b [A82,C39] [] [0,1,3,7,15,31,63,3,255,511,1023] [0,1,2,3,4,5,6,7,8,9,10] .f
def A3U:=zDr A1b [A81,D25] [] [0,1,3,7,15,0,63,127] [0,1,2,3,4,5,6,7] .f
def A3P:=zDr A1b [A85,C4D] [] [0,1,3,7,15,31,63,127,255,511,1023,2047,4095,8191,16383,32767,65535,131071,262143,524287,8191,1056767,3153919,7348223,15736831,33554431,67108863,134217727,268435455,536870911] [0,1,2,3,4,5,6,7,8,9,10,11,12,13,14,15,16,17,18,19,20,21,22,23,24,25,26,27,28,29] .f
def A3V:=zDr A1b [B4Y,D23] [] [0,1,3,7,15,0,63,127] [0,1,2,3,4,5,6,7] .f
def A4V:=B3 A1b [[F1F],[F1F,D24],[E4T],[E4U],[E4U,E4V,A82],[E4T,C39,A81],[E4W],[E4W,C4A],[E4X],[E4X,C4C],[E4Y],[E4Y,C4E],[E4Z],[C4E,E4Z,A85],[C4C,C4D,A84],[A84,C4B],[C4A,C4B,A83],[D25,A83,B4Z],[D24,B4Z,B4Y],[D23,D22],[E4a],[E4a,C4F],[D22,C4F,B4X],[B4X,D21],[D21,D20]]
end
end Go.Vab

namespace Go.Vab
open Go Go.Proofs
theorem D9H {G X:Prop} (f:Hd X→G:=by
 intro xX
 repeat' (first|refine stp (x:=?_)|(simp (decide:=true) only [G0O,snB,if_true,if_false]))
 exact xX.get) (x:X):G:=f ⟨x⟩
theorem D9I {G X:Prop} (f:Hd X→G:=by
 intro xX
 repeat' (first|refine stp (x:=?_)|(simp (decide:=true) only [G0P,snB,if_true,if_false]))
 exact xX.get) (x:X):G:=f ⟨x⟩
theorem D9J {G X:Prop} (f:Hd X→G:=by
 intro xX
 repeat' (first|refine stp (x:=?_)|(simp (decide:=true) only [G0Q,snB,if_true,if_false]))
 exact xX.get) (x:X):G:=f ⟨x⟩
theorem F7B {G X:Prop} (f:Hd X→G:=by
 intro xX
 repeat' (first|refine stp (x:=?_)|(with_reducible refine A5 (c63 (x.lt _)) ?_;try dsimp only)|(with_reducible refine SpecQ.step (c63 (x.lt _)) ?_;rintro _ rfl;try dsimp only)|(with_reducible refine A5 (c78 (x.w.app _) hs) ?_;try dsimp only)|(with_reducible refine SpecQ.step (c78 (x.w.app _) hs) ?_;rintro _ rfl;try dsimp only)|(simp (decide:=true) only [G2b,snB,if_true,if_false])|(with_reducible refine F8M _ _ _ ?_))
 exact xX.get) (x:X):G:=f ⟨x⟩
theorem A3Q {G X:Prop} (f:Hd X→G:=by
 intro xX
 repeat' (first|refine stp (x:=?_)|(simp (decide:=true) only [G2c,snB,if_true,if_false]))
 exact xX.get) (x:X):G:=f ⟨x⟩
theorem F7C {G X:Prop} (f:Hd X→G:=by
 intro xX
 repeat' (first|refine stp (x:=?_)|(with_reducible refine A5 (c63 (x.lt _)) ?_;try dsimp only)|(with_reducible refine SpecQ.step (c63 (x.lt _)) ?_;rintro _ rfl;try dsimp only)|(simp (decide:=true) only [F28,snB,if_true,if_false])|(with_reducible refine E0n _ _ _ ?_))
 exact xX.get) (x:X):G:=f ⟨x⟩
theorem F7D {G X:Prop} (f:Hd X→G:=by
 intro xX
 repeat' (first|refine stp (x:=?_)|(simp (decide:=true) only [F28,snB,if_true,if_false])|(with_reducible refine E0n _ _ _ ?_))
 exact xX.get) (x:X):G:=f ⟨x⟩
theorem F7E {G X:Prop} (f:Hd X→G:=by
 intro xX
 repeat' (first|refine stp (x:=?_)|(with_reducible refine A5 (c94 (x.lt _)) ?_;try dsimp only)|(with_reducible refine SpecQ.step (c94 (x.lt _)) ?_;rintro _ rfl;try dsimp only)|(with_reducible refine A5 (c95 (x.w.app _) hs) ?_;try dsimp only)|(with_reducible refine SpecQ.step (c95 (x.w.app _) hs) ?_;rintro _ rfl;try dsimp only)|(simp (decide:=true) only [A4V,snB,if_true,if_false])|(with_reducible refine A3N _ _ _ ?_)|(with_reducible refine A3O _ _ _ ?_)|(with_reducible refine A3U _ _ _ ?_)|(with_reducible refine A3P _ _ _ ?_)|(with_reducible refine A3V _ _ _ ?_))
 exact xX.get) (x:X):G:=f ⟨x⟩
theorem F7F {G X:Prop} (f:Hd X→G:=by
 intro xX
 repeat' (first|refine stp (x:=?_)|(with_reducible refine A5 (c94 (x.lt _)) ?_;try dsimp only)|(with_reducible refine SpecQ.step (c94 (x.lt _)) ?_;rintro _ rfl;try dsimp only)|(with_reducible refine A5 (c95 (x.w.app _) hs) ?_;try dsimp only)|(with_reducible refine SpecQ.step (c95 (x.w.app _) hs) ?_;rintro _ rfl;try dsimp only)|(with_reducible refine A5 (c63 (x.lt _)) ?_;try dsimp only)|(with_reducible refine SpecQ.step (c63 (x.lt _)) ?_;rintro _ rfl;try dsimp only)|(with_reducible refine A5 (c76 (x.w.app _) hs) ?_;try dsimp only)|(with_reducible refine SpecQ.step (c76 (x.w.app _) hs) ?_;rintro _ rfl;try dsimp only)|(simp (decide:=true) only [A4V,snB,if_true,if_false])|(with_reducible refine A3N _ _ _ ?_)|(with_reducible refine A3O _ _ _ ?_)|(with_reducible refine A3U _ _ _ ?_)|(with_reducible refine A3P _ _ _ ?_)|(with_reducible refine A3V _ _ _ ?_))
 exact xX.get) (x:X):G:=f ⟨x⟩
theorem F7G {G X:Prop} (f:Hd X→G:=by
 intro xX
 repeat' (first|refine stp (x:=?_)|(with_reducible refine A5 (c94 (x.lt _)) ?_;try dsimp only)|(with_reducible refine SpecQ.step (c94 (x.lt _)) ?_;rintro _ rfl;try dsimp only)|(with_reducible refine A5 (c95 (x.w.app _) hs) ?_;try dsimp only)|(with_reducible refine SpecQ.step (c95 (x.w.app _) hs) ?_;rintro _ rfl;try dsimp only)|(with_reducible refine A5 (c63 (x.lt _)) ?_;try dsimp only)|(with_reducible refine SpecQ.step (c63 (x.lt _)) ?_;rintro _ rfl;try dsimp only)|(with_reducible refine A5 (c76 (x.w.app _) hs) ?_;try dsimp only)|(with_reducible refine SpecQ.step (c76 (x.w.app _) hs) ?_;rintro _ rfl;try dsimp only)|(with_reducible refine A5 (c64 (x.lt _)) ?_;try dsimp only)|(with_reducible refine SpecQ.step (c64 (x.lt _)) ?_;rintro _ rfl;try dsimp only)|(with_reducible refine A5 (c96 (x.w.app _) hs) ?_;try dsimp only)|(with_reducible refine SpecQ.step (c96 (x.w.app _) hs) ?_;rintro _ rfl;try dsimp only)|(with_reducible refine A5 (c65 (x.lt _)) ?_;try dsimp only)|(with_reducible refine SpecQ.step (c65 (x.lt _)) ?_;rintro _ rfl;try dsimp only)|(with_reducible refine A5 (c97 (x.w.app _) hs) ?_;try dsimp only)|(with_reducible refine SpecQ.step (c97 (x.w.app _) hs) ?_;rintro _ rfl;try dsimp only)|(simp (decide:=true) only [A4V,snB,if_true,if_false])|(with_reducible refine A3N _ _ _ ?_)|(with_reducible refine A3O _ _ _ ?_)|(with_reducible refine A3U _ _ _ ?_)|(with_reducible refine A3P _ _ _ ?_)|(with_reducible refine A3V _ _ _ ?_))
 exact xX.get) (x:X):G:=f ⟨x⟩
theorem B6n {G X:Prop} (f:Hd X→G:=by
 intro xX
 repeat' (first|refine stp (x:=?_)|(simp (decide:=true) only [A4V,snB,if_true,if_false])|(with_reducible refine A3N _ _ _ ?_)|(with_reducible refine A3O _ _ _ ?_)|(with_reducible refine A3U _ _ _ ?_)|(with_reducible refine A3P _ _ _ ?_)|(with_reducible refine A3V _ _ _ ?_))
 exact xX.get) (x:X):G:=f ⟨x⟩
theorem F5T {G X:Prop} (f:Hd X→G:=by
 intro xX
 repeat' (first|refine stp (x:=?_)|(with_reducible refine A5 (c98 (x.w.app _).fp.b (x.app _).ra.p) ?_;try dsimp only)|(with_reducible refine SpecQ.step (c98 (x.w.app _).fp.b (x.app _).ra.p) ?_;rintro _ rfl;try dsimp only)|(simp (decide:=true) only [A4V,snB,if_true,if_false])|(with_reducible refine A3N _ _ _ ?_)|(with_reducible refine A3O _ _ _ ?_)|(with_reducible refine A3U _ _ _ ?_)|(with_reducible refine A3P _ _ _ ?_)|(with_reducible refine A3V _ _ _ ?_))
 exact xX.get) (x:X):G:=f ⟨x⟩
attribute [local irreducible] E9 Evs gW D9 E8 G5
theorem D6d {h:A3} {y:Inv} {ok:Bool}:SpecQ Tryz.prog 109 [B7 y,.bool ok] h fun r=>r=(nat (if ok=true then 0 else 7),h):=by
 refine SpecQ.drop1 rfl (G2Y fun env g0 g1=>?_)
 cases ok
 ·have ff:=aI g0 g1
  refine D9H (x:=?_)
  clear ff
  exact ⟨_,rfl⟩
 ·have ff:=aI g0 g1
  refine D9H (x:=?_)
  clear ff
  exact ⟨_,rfl⟩
theorem D6e {h:A3} {y:Ask} {ok:Bool}:SpecQ Tryz.prog 110 [B9 y,.bool ok] h fun r=>r=(nat (if ok=true then 0 else 7),h):=by
 refine SpecQ.drop1 rfl (G2Z fun env g0 g1=>?_)
 cases ok
 ·have ff:=aI g0 g1
  refine D9I (x:=?_)
  clear ff
  exact ⟨_,rfl⟩
 ·have ff:=aI g0 g1
  refine D9I (x:=?_)
  clear ff
  exact ⟨_,rfl⟩
theorem D6f {h:A3} {y:Ban} {ok:Bool}:SpecQ Tryz.prog 111 [B2 y,.bool ok] h fun r=>r=(nat (if ok=true then 0 else 7),h):=by
 refine SpecQ.drop1 rfl (G2a fun env g0 g1=>?_)
 cases ok
 ·have ff:=aI g0 g1
  refine D9J (x:=?_)
  clear ff
  exact ⟨_,rfl⟩
 ·have ff:=aI g0 g1
  refine D9J (x:=?_)
  clear ff
  exact ⟨_,rfl⟩
section
variable {κ:Nat→Nat} {H:A3} {c xb:Nat} {s:Stt} {b:Pt} {a:Actn} {m:BitVec 8} {vt vp vs vi va vb wt wp:AV}
theorem c73 (x:Sx κ H c xb s b a m vt vp vs vi va vb wt wp) (hs:Srt s) (hp:A8 fS s.seats b=true):SpecQ Tryz.prog 73 [.ptr xb 0 [] G6] H fun r=>r=(eCi (I1 s b),H):=by
 refine SpecQ.drop1 rfl (q73 fun env g0=>?_)
 have sx:=x.blk
 have wb:=x.w.blk
 have sx0:=A9 x.st
 have wb0:=A9 x.w.cell
 obtain ⟨hlow,he,hf⟩:=U4 hs.s hp
 obtain ⟨pb,pv,pp,bb,p1,p2,p3,p4⟩:=x.w.ws.idxE hlow
 have ff:=aI9 g0 sx wb sx0 wb0 p1 p2 p3 p4
 refine F7B (x:=?_)
 clear ff
 exact ⟨_,by simp only [I1,hf];rfl⟩
theorem c79 (x:Sx κ H c xb s b a m vt vp vs vi va vb wt wp):SpecQ Tryz.prog 79 [.ptr xb 0 [] G6] H fun r=>r=(.bool (decide (v8 s=1)),H):=by
 have sx:=x.blk
 have wb:=x.w.blk
 have sx0:=A9 x.st
 have wb0:=A9 x.w.cell
 have lx:=x.w.fs.len
 have bx:=x.w.fs.le
 refine SpecQ.drop1 rfl (q79 fun env g0=>?_)
 have ff:=aI6 g0 sx wb sx0 wb0 lx
 refine A3Q (x:=?_)
 clear ff
 refine G0 s.seats.length (fun i st=>∃ env' t,st=⟨env',H++t⟩∧env'.get 3=nat ((s.seats.take i).countP fun x=>decide (x.role=2#8))∧env'.get 12=vs∧env'.get 13=nat s.seats.length∧env'.get 14=nat i) ?_ ?_ ⟨_,[],by simp only [List.append_nil];rfl,by simp,by simp,by simp,by simp⟩
 ·rintro i st hi ⟨env',t,rfl,e3,e12,e13,e14⟩
  obtain ⟨pb,pv,pp,bb,p1,p2,p3,p4⟩:=x.w.ws.idxE hi
  have hc:(s.seats.take (i+1)).countP (fun x=>decide (x.role=2#8))=(s.seats.take i).countP (fun x=>decide (x.role=2#8))+if s.seats[i].role=2#8 then 1 else 0:=by
   rw [List.take_add_one,List.getElem?_eq_getElem hi,List.countP_append]
   simp [List.countP_cons]
  have hle:(s.seats.take i).countP (fun x=>decide (x.role=2#8))≤s.seats.length:=Nat.le_trans List.countP_le_length (by simp;omega)
  generalize (s.seats.take i).countP (fun x=>decide (x.role=2#8))=n at *
  have hl:(H++t).length=H.length+t.length:=List.length_append
  by_cases hq:s.seats[i].role=2#8
  ·have ff:=E3 e3 e12 e13 e14 hi p1 p2 p3 p4 hq
   refine A3Q (x:=?_)
   clear ff
   exact .inl ⟨by simp,_,_,rfl,by simp [hc,hq],by simp [e12],by simp [e13],by simp⟩
  ·have ff:=E3 e3 e12 e13 e14 hi p1 p2 p3 p4 hq
   refine A3Q (x:=?_)
   clear ff
   exact .inl ⟨by simp,_,_,rfl,by simp [hc,hq,e3],by simp [e12],by simp [e13],by simp⟩
 ·rintro st ⟨env',t,rfl,e3,e12,e13,e14⟩
  rw [List.take_length] at e3
  have ff:=aI3 e3 e13 e14
  refine A3Q (x:=?_)
  clear ff
  refine ⟨by simp,?_⟩
  have ff:=aI3 e3 e13 e14
  refine A3Q (x:=?_)
  clear ff
  exact ⟨_,rfl⟩
theorem c70 (x : Sx κ H c xb s b a m vt vp vs vi va vb wt wp) (hs : Srt s) (hl : s.seats.length < 1000) {w : Ci} {r : BitVec 8} : SpecQ Tryz.prog 70 [.ptr xb 0 [] G6, eCi w, u8 r] H fun q =>
  ∃ (κ':Nat→Nat) (H':A3) (us:AV),q=(nat 0,H')∧Wk κ' H' c { s with seats:=ins fS s.seats ⟨w,r,a.version⟩ } vt vp us vi va vb∧Fr κ H κ' H':=by
 refine q70 fun env g0 g1 g2=>?_
 have sx:=x.blk
 have wb:=x.w.blk
 have sx0:=A9 x.st
 have wb0:=A9 x.w.cell
 have ff:=aI7 g0 g1 g2 sx wb sx0 wb0
 refine F7C (x:=?_)
 clear ff
 refine SpecQ.step (G2V (x:=⟨w,r,a.version⟩) (x.w.app _) hs hl) ?_
 rintro _ ⟨v,κ',H',q,rfl,w2,fr⟩
 have ff:=aI3 g0 g1 g2
 refine F7D (x:=?_)
 clear ff
 exact ⟨κ',H',q,rfl,w2,fr.app⟩
theorem c66 (x:Sx κ H c xb s b a m vt vp vs vi va vb wt wp) (hs:Srt s) {link:BitVec 8} {iv ak:Bool}:SpecQ Tryz.prog 66 [.ptr xb 0 [] G6,u8 link,.bool iv,.bool ak] H fun r=>r=(nat (I7 s a link iv ak),H):=by
 refine SpecQ.drop1 rfl (q66 fun env g0 g1 g2 g3=>?_)
 have sx:=x.blk
 have wb:=x.w.blk
 have sx0:=A9 x.st
 have wb0:=A9 x.w.cell
 have lp:=x.w.fp.len
 cases h1:A8 fB s.bans a.who.e
 rotate_left
 ·have ff:=aI9 g0 g1 g2 g3 sx wb sx0 wb0 h1
  refine F7E (x:=?_)
  clear ff
  exact ⟨_,by simp only [I7,h1,if_true];rfl⟩
 cases h2:A8 fS s.seats a.who.e
 rotate_left
 ·have ff:=E3 g0 g1 g2 g3 sx wb sx0 wb0 h1 h2
  refine F7F (x:=?_)
  clear ff
  exact ⟨_,by simp only [I7,h1,h2,if_true];rfl⟩
 cases iv
 all_goals cases ak
 all_goals cases h3:A8 fI s.invites a.who.e
 all_goals cases h4:A8 fA s.asks a.who.e
 all_goals
  have ff:=F8 g0 g1 g2 g3 sx wb sx0 wb0 h1 h2 h3 h4
  refine F7G (x:=?_)
  clear ff
 all_goals first|exact ⟨_,by simp only [I7,h1,h2,h3,h4,Bool.and_true,Bool.true_and,if_true];rfl⟩|skip
 all_goals by_cases h5:link=0#8
 all_goals
  have ff:=H7 g0 g1 g2 g3 sx wb sx0 wb0 h1 h2 h3 h4 h5
  refine B6n (x:=?_)
  clear ff
 all_goals first|exact ⟨_,by simp only [I7,h1,h2,h3,h4,h5,Bool.and_true,Bool.true_and,if_true];rfl⟩|skip
 all_goals by_cases h6:s.acc.link=link
 all_goals
  have ff:=F8 g0 g1 g2 g3 sx wb h1 h2 h3 h4 h5 h6
  refine B6n (x:=?_)
  clear ff
 all_goals first|exact ⟨_,by simp only [I7,h1,h2,h3,h4,h5,h6,Bool.and_true,Bool.true_and,Bool.and_false,Bool.false_and,Bool.false_eq_true,if_true,if_false,ne_eq,not_true_eq_false,not_false_eq_true];rfl⟩|skip
 all_goals by_cases h7:s.pass.length=0
 all_goals
  have ff:=N9 g0 g1 g2 g3 sx wb h1 h2 h3 h4 h5 h6 h7 lp
  refine F5T (x:=?_)
  clear ff
 all_goals first|exact ⟨_,by simp only [I7,h1,h2,h3,h4,h5,h6,V5,h7,Bool.and_true,Bool.true_and,Bool.and_false,Bool.false_and,Bool.false_eq_true,if_true,if_false,ne_eq,not_true_eq_false,not_false_eq_true,Nat.lt_irrefl,decide_false];rfl⟩|skip
 all_goals
  have hpk:V5 s a=decide (s.pass=a.pass):=by
   have:0 < s.pass.length:=by omega
   simp [V5,this]
 all_goals by_cases h8:s.pass=a.pass
 all_goals
  have ff:=N9 g0 g1 g2 g3 sx wb h1 h2 h3 h4 h5 h6 h7 h8
  refine B6n (x:=?_)
  clear ff
 all_goals exact ⟨_,by simp only [I7,h1,h2,h3,h4,h5,h6,hpk,h8,eq_self,Bool.and_true,Bool.true_and,Bool.and_false,Bool.false_and,Bool.false_eq_true,Bool.true_eq_false,if_true,if_false,ne_eq,not_true_eq_false,not_false_eq_true,decide_true,decide_false];rfl⟩
end
end Go.Vab

namespace Go.Vab
open Go Go.Proofs
noncomputable section
def O3:Ctx:=⟨fun _ _ _ => none,TT,209,[15,16,17,18,19,20,21,22,23,24,25,26,27,28,29,30,31,32,33,34,35,36,37,38,39,40,41,42,43,44,46,47,49,50,51,52,53,54,55,56,57,58,59,60,62,63,64,65,67,68,70,71,72,73,74,75,76,77,78,79,80,81,82,83,85,86,87,88,90,91,93,94,95,96,97,98,99,100,101,102,103,104,105,106,107,108,109,110,112,113,114,115,117,118,120,121,122,123,124,125,126,127,128,129,130,131,132,134,135,136,137,139,140,141,142,143,145,146,147,149,150,151,152,153,154,155,157,158,160,161,162,163,164,165,166,167,168,169,170,171,172,173,174,175,176,178,179,180,181,182,183,184,185,186,187,188,189,190,191,192,193,194,195,196,197,198,199,200,201,202,203,204,205,206,207,208]⟩
def A2n:=B8 Tryz.f33
def B4a:=cR A2n
def A4G:=cR B4a
def Z9:=cR A4G
def D26:=cL Z9
def D27:=cR D26
def B4b:=cB D27
def D28:=cL B4b
def B4c:=cR D28
def F1G:=cL B4c
def E4b:=cR B4c
def A86:=cR B4b
def C4G:=cL A86
def A87:=cR C4G
def C4H:=cL A87
def A88:=cR C4H
def E4c:=cL A88
def E4d:=cR A88
def A89:=cR A87
def C4I:=cL A89
def C4J:=cR C4I
def A9A:=cR C4J
def C4K:=cL A9A
def E4e:=cR C4K
def E4f:=cR A9A
def A9B:=cR A89
def C4L:=cL A9B
def A9C:=cR C4L
def C4M:=cL A9C
def E4g:=cR C4M
def E4h:=cR A9C
def C4N:=cR A9B
def C4O:=cR C4N
def C4P:=cR C4O
def E4i:=cR C4P
def C4Q:=cR A86
def A9D:=cR C4Q
def A9E:=cL A9D
def C4R:=cL A9E
def C4S:=cR C4R
def A9F:=cR C4S
def C4T:=cL A9F
def E4j:=cR C4T
def E4k:=cR A9F
def A9G:=cR A9E
def C4U:=cL A9G
def A9H:=cR C4U
def C4V:=cL A9H
def E4l:=cR C4V
def E4m:=cR A9H
def C4W:=cR A9G
def E4n:=cR C4W
def C4X:=cR A9D
def A9I:=cR C4X
def A9J:=cL A9I
def C4Y:=cL A9J
def C4Z:=cR C4Y
def A9K:=cR C4Z
def C4a:=cL A9K
def E4o:=cR C4a
def E4p:=cR A9K
def A9L:=cR A9J
def C4b:=cL A9L
def A9M:=cR C4b
def C4c:=cL A9M
def E4q:=cR C4c
def E4r:=cR A9M
def E4s:=cR A9L
def C4d:=cR A9I
def A9N:=cR C4d
def A9O:=cL A9N
def C4e:=cL A9O
def A9P:=cR C4e
def C4f:=cL A9P
def E4t:=cR C4f
def E4u:=cR A9P
def A9Q:=cR A9O
def C4g:=cL A9Q
def A9R:=cR C4g
def C4h:=cL A9R
def E4v:=cR C4h
def E4w:=cR A9R
def E4x:=cR A9Q
def C4i:=cR A9N
def A9S:=cR C4i
def C4j:=cL A9S
def A9T:=cR C4j
def C4k:=cL A9T
def C4l:=cB C4k
def A9U:=cR C4l
def C4m:=cL A9U
def E4y:=cR C4m
def C4n:=cR A9U
def A9V:=cR C4n
def C4o:=cL A9V
def E4z:=cR C4o
def C4p:=cR A9V
def A9W:=cR C4p
def C4q:=cL A9W
def E40:=cR C4q
def E0o:=cR A9W
def E0p:=cR A9T
def B8t:=cR A9S
def E0q:=cR B8t
def B8u:=cR Z9
def E0r:=cR B8u
def q33:=zQ1 O3 33 Tryz.f33 A2n fun s=>(bnd (some (s.env.get 2)) fun v=>bnd (some []) fun vs=>some (v::vs))
def F7H:=B3 O3 [[B4a,A2n]]
def n9:=zDr O3 [A87,C4G] [] [0,1,3,7,15,0,63] [0,1,2,3,4,5,6] .f
def o0:=zDr O3 [E4n] [14] [0,0,2,6,14,30,0,64,192,448,960,0,2048,8190,16383] [0,1,2,3,4,5,6,7,8,9,10,11,12,13] (.o 14 [] [] .f)
def o6:=zDr O3 [E4s] [12] [0,0,2,6,14,30,0,64,192,448,960,2046,4095] [0,1,2,3,4,5,6,7,8,9,10,11] (.o 12 [] [] .f)
def o7:=zDr O3 [A9R,C4g] [] [0,0,2,6,14,31] [0,1,2,3,4,5] .f
def o8:=zDr O3 [A9V,C4n] [] [0,1,3,7,15,31,63,0,255,511,1023,0,2048,6144,14336,30720,65535,131071] [0,1,2,3,4,5,6,7,8,9,10,11,12,13,14,15,16,17] .f
def l9:=zDr O3 [E0p] [15] [0,1,3,7,15,31,63,0,0,256,768,1792,3840,8191,16383,32767] [0,1,2,3,4,5,6,7,8,9,10,11,12,13,14] (.o 15 [] [] .f)
def i6:=zDr O3 [Z9,A4G] [11,12,13,14] [0,1,3,7,15,31,0,64,192,448,960,0,0,6207,16383] [0,1,2,3,4,5,6,7,8,9,10] (.b 11 [] [5,10] (.o 12 [] [5,10] (.o 13 [] [10] (.o 14 [] [] .f))) (.o 12 [] [5,10] (.o 11 [] [5,10] (.o 13 [] [10] (.o 14 [] [] .f)))))
def i7:=zDr O3 [A4G,B4a] [15,16,17,18,19,20] [0,1,3,7,15,0,32,96,224,511,0,1024,3072,7168,16383,0,0,0,262143,524287,1048575] [0,1,2,3,4,5,6,7,8,9,10,11,12,13,14] (.b 15 [] [3,4,8,9,13,14] (.b 16 [] [3,4,8,9,13,14] (.o 17 [] [3,4,8,9,13,14] (.o 18 [] [] (.o 19 [] [] (.o 20 [] [] .f)))) (.o 17 [] [3,4,8,9,13,14] (.o 16 [] [3,4,8,9,13,14] (.o 18 [] [] (.o 19 [] [] (.o 20 [] [] .f)))))) (.b 16 [] [3,4,8,9,13,14] (.b 15 [] [3,4,8,9,13,14] (.o 17 [] [3,4,8,9,13,14] (.o 18 [] [] (.o 19 [] [] (.o 20 [] [] .f)))) (.o 17 [] [3,4,8,9,13,14] (.o 15 [] [3,4,8,9,13,14] (.o 18 [] [] (.o 19 [] [] (.o 20 [] [] .f)))))) (.o 17 [] [3,4,8,9,13,14] (.b 15 [] [3,4,8,9,13,14] (.o 16 [] [3,4,8,9,13,14] (.o 18 [] [] (.o 19 [] [] (.o 20 [] [] .f)))) (.o 16 [] [3,4,8,9,13,14] (.o 15 [] [3,4,8,9,13,14] (.o 18 [] [] (.o 19 [] [] (.o 20 [] [] .f)))))))))
def A0D:=B3 O3 [[F1G],[E4b],[F1G,E4b,B4c],[B4c,D28],[E4c],[E4d],[E4c,E4d,A88],[A88,C4H],[E4e],[E4e,C4K],[E4f],[C4K,E4f,A9A],[A9A,C4J],[C4J,C4I],[E4g],[E4g,C4M],[E4h],[C4M,E4h,A9C],[A9C,C4L],[E4i],[E4i,C4P],[C4P,C4O],[C4O,C4N],[C4L,C4N,A9B],[C4I,A9B,A89],[C4H,A89,A87],[E4j],[E4j,C4T],[E4k],[C4T,E4k,A9F],[A9F,C4S],[C4S,C4R],[E4l],[E4l,C4V],[E4m],[C4V,E4m,A9H],[A9H,C4U],[E4n,C4W],[C4U,C4W,A9G],[C4R,A9G,A9E],[E4o],[E4o,C4a],[E4p],[C4a,E4p,A9K],[A9K,C4Z],[C4Z,C4Y],[E4q],[E4q,C4c],[E4r],[C4c,E4r,A9M],[A9M,C4b],[C4b,E4s,A9L],[C4Y,A9L,A9J],[E4t],[E4t,C4f],[E4u],[C4f,E4u,A9P],[A9P,C4e],[E4v],[E4v,C4h],[E4w],[C4h,E4w,A9R],[E4x],[C4g,E4x,A9Q],[C4e,A9Q,A9O],[E4y],[E4y,C4m],[E4z],[E4z,C4o],[E40],[E40,C4q],[E0o],[C4q,E0o,A9W],[A9W,C4p],[C4o,C4p,A9V],[C4m,C4n,A9U],[A9U,C4l],[C4l,C4k],[C4k,E0p,A9T],[A9T,C4j],[E0q],[E0q,B8t],[C4j,B8t,A9S],[A9S,C4i],[A9O,C4i,A9N],[A9N,C4d],[A9J,C4d,A9I],[A9I,C4X],[A9E,C4X,A9D],[A9D,C4Q],[C4G,C4Q,A86],[D28,A86,B4b],[B4b,D27],[D27,D26],[E0r],[E0r,B8u],[D26,B8u,Z9],[B4a,A2n]]
end
end Go.Vab

namespace Go.Vab
open Go Go.Proofs
attribute [local irreducible] E9 Evs gW D9 E8 G5
def Cel (κ:Nat→Nat) (G:A3) (p:Nat) (v:AV):Prop:=G[p]?=some ⟨v,0,.own⟩∧(κ p=0∨6≤κ p)
theorem Cel.lt {κ:Nat→Nat} {G:A3} {p:Nat} {v:AV} (h:Cel κ G p v):p < G.length:=(List.getElem?_eq_some_iff.1 h.1).1
theorem Cel.next {κ κ':Nat→Nat} {G G':A3} {p:Nat} {v:AV} (h:Cel κ G p v) (fr:Fr κ G κ' G'):Cel κ' G' p v:=⟨fr.blk h.1 h.2,by rw [fr.old _ h.lt];exact h.2⟩
theorem Cel.app {κ:Nat→Nat} {G:A3} {p:Nat} {v:AV} (h:Cel κ G p v) (l:A3):Cel κ (G++l) p v:=⟨by rw [List.getElem?_append_left h.lt];exact h.1,h.2⟩
theorem Cel.blk {κ:Nat→Nat} {G:A3} {p:Nat} {v:AV} (h:Cel κ G p v) (l:A3):blkAt (G++l) p 0=some ⟨v,0,.own⟩:=L6 (A9 h.1) l
theorem Cel.blk0 {κ:Nat→Nat} {G:A3} {p:Nat} {v:AV} (h:Cel κ G p v):blkAt G p 0=some ⟨v,0,.own⟩:=A9 h.1
theorem Cel.new {κ:Nat→Nat} {H l:A3} {k:Nat} {v:AV} (top:∀ i,H.length≤i→κ i=0) (h:l[k]?=some ⟨v,0,.own⟩):Cel κ (H++l) (H.length+k) v:=⟨by rw [List.getElem?_append_right (by omega),Nat.add_sub_cancel_left];exact h,.inl (top _ (by omega))⟩
theorem Cel.new0 {κ:Nat→Nat} {H l:A3} {v:AV} (top:∀ i,H.length≤i→κ i=0) (h:l[0]?=some ⟨v,0,.own⟩):Cel κ (H++l) H.length v:=Cel.new top h
theorem Cel.scr {κ:Nat→Nat} {G:A3} {p:Nat} {v:AV} (h:Cel κ G p v) (w:Blk):Cel (Go.Vab.scr κ G.length) (G++[w]) p v:=⟨by rw [List.getElem?_append_left h.lt];exact h.1,by rw [A0p (by have:=h.lt;omega)];exact h.2⟩
theorem Cel.own (κ:Nat→Nat) (G:A3) (v:AV):Cel (Go.Vab.scr κ G.length) (G++[⟨v,0,.own⟩]) G.length v:=⟨by simp,.inr (by rw [A5C];decide)⟩
theorem Cel.wr {κ:Nat→Nat} {G:A3} {p q:Nat} {v:AV} (h:Cel κ G p v) (hq:q≠p) (w:Blk):Cel κ (G.set q w) p v:=⟨by rw [List.getElem?_set_ne hq];exact h.1,h.2⟩
theorem Cel.set {κ:Nat→Nat} {G:A3} {p:Nat} {v:AV} (h:Cel κ G p v) (w:AV):Cel κ (G.set p ⟨w,0,.own⟩) p w:=⟨List.getElem?_set_self h.lt,h.2⟩
abbrev B4d (c:Nat):AV:=.node [.ptr c 0 [5] .cell,.fn 91 []]
abbrev B4e (c:Nat):AV:=.node [.ptr c 0 [6] .cell,.fn 92 []]
abbrev B4f (c:Nat):AV:=.node [.ptr c 0 [7] .cell,.fn 93 []]
abbrev F1H (c:Nat):AV:=.node [.ptr c 0 [8] .cell,.fn 117 []]
section
variable {κ:Nat→Nat} {H:A3} {c xb:Nat} {s:Stt} {b:Pt} {a:Actn} {m:BitVec 8} {vt vp vs vi va vb wt wp:AV}
theorem F5U (x : Sx κ H c xb s b a m vt vp vs vi va vb wt wp) {Q : Ex × St → Prop} {env : Env} (g0 : env.get 0 = .ptr xb 0 [] G6)
  (tail:∀ (env':Env) (l:A3) (p3 p4 p5:Nat),env'.get 0=.ptr xb 0 [] G6→env'.get 3=.ptr p3 0 [] K9→env'.get 4=.ptr p4 0 [] K8→env'.get 5=.ptr p5 0 [] L0→Cel κ (H++l) p3 (B4d c)→Cel κ (H++l) p4 (B4e c)→Cel κ (H++l) p5 (B4f c)→wC Tryz.prog O3 A4G Q ⟨env',H++l⟩) :
  wC Tryz.prog O3 A2n Q ⟨env,H⟩:=by
 have sx:=x.blk
 have wb:=x.w.blk
 have sx0:=A9 x.st
 have wb0:=A9 x.w.cell
 have top:=x.w.top
 repeat' (first|((with_reducible refine I6 (a:=?_) ?_ ?_);rotate_left;(focus ((conv=>lhs;simp (disch:=omega) [g0,sx,wb,sx0,wb0]);done));try dsimp only)|((with_reducible refine S6 ?_ ?_);(focus (simp (disch:=omega) [g0,sx,wb,sx0,wb0];done)))|((with_reducible refine T4 ?_ ?_);(focus (simp (disch:=omega) [g0,sx,wb,sx0,wb0];done));try dsimp only)|((with_reducible refine T5 ?_ ?_);(focus (simp (disch:=omega) [g0,sx,wb,sx0,wb0];done));try dsimp only)|((with_reducible refine V3 ?_ ?_);(focus (simp (disch:=omega) [g0,sx,wb,sx0,wb0] <;> omega)))|((with_reducible refine V4 ?_ ?_);(focus (simp (disch:=omega) [g0,sx,wb,sx0,wb0] <;> omega)))|((with_reducible refine B6 ?_ ?_);(focus (simp (disch:=omega) [g0,sx,wb,sx0,wb0];done)))|(with_reducible refine I0 ?_ ?_)|(with_reducible refine W0 ?_)|((with_reducible refine o9 ?_ ?_);(focus (simp (disch:=omega) [g0,sx,wb,sx0,wb0];done));try dsimp only)|((with_reducible refine s5 ?_ ?_);(focus (simp (disch:=omega) [g0,sx,wb,sx0,wb0];done));try dsimp only)|((with_reducible refine s6 ?_ ?_);(focus (simp (disch:=omega) [g0,sx,wb,sx0,wb0];done));try dsimp only)|(with_reducible refine A5 (c63 x.w.lt) ?_;try dsimp only)|(with_reducible refine SpecQ.step (c63 x.w.lt) ?_;rintro _ rfl;try dsimp only)|(with_reducible refine B6 (c63 x.w.lt) ?_)|(with_reducible refine A5 (c64 x.w.lt) ?_;try dsimp only)|(with_reducible refine SpecQ.step (c64 x.w.lt) ?_;rintro _ rfl;try dsimp only)|(with_reducible refine B6 (c64 x.w.lt) ?_)|(with_reducible refine A5 (c65 x.w.lt) ?_;try dsimp only)|(with_reducible refine SpecQ.step (c65 x.w.lt) ?_;rintro _ rfl;try dsimp only)|(with_reducible refine B6 (c65 x.w.lt) ?_)|(with_reducible refine A5 (c63 (x.lt _)) ?_;try dsimp only)|(with_reducible refine SpecQ.step (c63 (x.lt _)) ?_;rintro _ rfl;try dsimp only)|(with_reducible refine B6 (c63 (x.lt _)) ?_)|(with_reducible refine A5 (c64 (x.lt _)) ?_;try dsimp only)|(with_reducible refine SpecQ.step (c64 (x.lt _)) ?_;rintro _ rfl;try dsimp only)|(with_reducible refine B6 (c64 (x.lt _)) ?_)|(with_reducible refine A5 (c65 (x.lt _)) ?_;try dsimp only)|(with_reducible refine SpecQ.step (c65 (x.lt _)) ?_;rintro _ rfl;try dsimp only)|(with_reducible refine B6 (c65 (x.lt _)) ?_)|((with_reducible refine S3 (args':=?_) ?_ ?_);rotate_left;(focus ((conv=>lhs;simp (disch:=omega) [g0,sx,wb,sx0,wb0]);done)))|((with_reducible refine v7 (args':=?_) ?_ ?_);rotate_left;(focus ((conv=>lhs;simp (disch:=omega) [g0,sx,wb,sx0,wb0]);done)))|((with_reducible refine A0L (args':=?_) ?_ ?_);rotate_left;(focus ((conv=>lhs;simp (disch:=omega) [g0,sx,wb,sx0,wb0]);done)))|((with_reducible refine s7 (g:=?_) (caps:=?_) ?_ ?_);rotate_left;rotate_left;(focus ((conv=>lhs;simp (disch:=omega) [g0,sx,wb,sx0,wb0]);done)))|((with_reducible refine A0J (g:=?_) (caps:=?_) ?_ ?_);rotate_left;rotate_left;(focus ((conv=>lhs;simp (disch:=omega) [g0,sx,wb,sx0,wb0]);done)))|((with_reducible refine A0M ?_ ?_);(focus (simp (disch:=omega) [g0,sx,wb,sx0,wb0];done)))|(simp (decide:=true) only [F7H,J7,J4,I3,J3,I2,J2,J1,if_true,if_false,J5,J6])|(with_reducible refine i7 _ _ _ ?_)|((with_reducible refine a6 (b:=?_) ?_ ?_ ?_);rotate_left;(focus ((conv=>lhs;simp (disch:=omega) [g0,sx,wb,sx0,wb0]);done));all_goals ((intro hb;try simp only [Bool.not_true,Bool.not_false] at hb);try simp only [hb]))|((with_reducible refine P8 (b:=?_) ?_ ?_ ?_);rotate_left;(focus ((conv=>lhs;simp (disch:=omega) [g0,sx,wb,sx0,wb0]);done));all_goals ((intro hb;try simp only [Bool.not_true,Bool.not_false] at hb);try simp only [hb]))|((with_reducible refine W8 (b:=?_) ?_ ?_ ?_);rotate_left;(focus ((conv=>lhs;simp (disch:=omega) [g0,sx,wb,sx0,wb0]);done));all_goals ((intro hb;try simp only [Bool.not_true,Bool.not_false] at hb);try simp only [hb]))|(with_reducible refine P4 ?_ ?_ <;> (intro hb;try simp only [Bool.not_true,Bool.not_false] at hb) <;> try simp only [hb])|(with_reducible refine U8 ?_ ?_ <;> (intro hb;try simp only [Bool.not_true,Bool.not_false] at hb) <;> try simp only [hb])|(with_reducible refine Y8 ?_ ?_ <;> (intro hb;try simp only [Bool.not_true,Bool.not_false] at hb) <;> try simp only [hb])|(with_reducible refine A0V ?_ ?_ <;> (intro hb;try simp only [Bool.not_true,Bool.not_false] at hb) <;> try simp only [hb]))
 all_goals first
  | exact tail _ _ H.length (H.length+1) (H.length+2) (by simp [g0]) (by simp) (by simp) (by simp) (Cel.new0 top (by rfl)) (Cel.new (k:=1) top (by rfl)) (Cel.new (k:=2) top (by rfl))
  | exact tail _ _ H.length (H.length+2) (H.length+1) (by simp [g0]) (by simp) (by simp) (by simp) (Cel.new0 top (by rfl)) (Cel.new (k:=2) top (by rfl)) (Cel.new (k:=1) top (by rfl))
  | exact tail _ _ (H.length+1) H.length (H.length+2) (by simp [g0]) (by simp) (by simp) (by simp) (Cel.new (k:=1) top (by rfl)) (Cel.new0 top (by rfl)) (Cel.new (k:=2) top (by rfl))
  | exact tail _ _ (H.length+1) (H.length+2) H.length (by simp [g0]) (by simp) (by simp) (by simp) (Cel.new (k:=1) top (by rfl)) (Cel.new (k:=2) top (by rfl)) (Cel.new0 top (by rfl))
  | exact tail _ _ (H.length+2) H.length (H.length+1) (by simp [g0]) (by simp) (by simp) (by simp) (Cel.new (k:=2) top (by rfl)) (Cel.new0 top (by rfl)) (Cel.new (k:=1) top (by rfl))
  | exact tail _ _ (H.length+2) (H.length+1) H.length (by simp [g0]) (by simp) (by simp) (by simp) (Cel.new (k:=2) top (by rfl)) (Cel.new (k:=1) top (by rfl)) (Cel.new0 top (by rfl))
theorem F5V (x : Sx κ H c xb s b a m vt vp vs vi va vb wt wp) {Q : Ex × St → Prop} {env : Env} {l : A3} {p3 p4 p5 : Nat} (g0 : env.get 0 = .ptr xb 0 [] G6) (g3 : env.get 3 = .ptr p3 0 [] K9) (g4 : env.get 4 = .ptr p4 0 [] K8) (g5 : env.get 5 = .ptr p5 0 [] L0)
  (tail:∀ (env':Env) (u:A3) (p6 p7:Nat),env'.get 0=.ptr xb 0 [] G6→env'.get 3=.ptr p3 0 [] K9→env'.get 4=.ptr p4 0 [] K8→env'.get 5=.ptr p5 0 [] L0→env'.get 6=.ptr p6 0 [] (.arr 32 (.int .u8))→env'.get 7=.ptr p7 0 [] (.arr 32 (.int .u8))→Cel κ (H++u) p6 (pt a.who.e)→Cel κ (H++u) p7 (pt a.e)→wC Tryz.prog O3 Z9 Q ⟨env',H++u⟩) :
  wC Tryz.prog O3 A4G Q ⟨env,H⟩:=by
 have sx:=x.blk
 have sx0:=A9 x.st
 have top:=x.w.top
 repeat' (first|((with_reducible refine I6 (a:=?_) ?_ ?_);rotate_left;(focus ((conv=>lhs;simp (disch:=omega) [g0,sx,sx0]);done));try dsimp only)|((with_reducible refine S6 ?_ ?_);(focus (simp (disch:=omega) [g0,sx,sx0];done)))|((with_reducible refine T4 ?_ ?_);(focus (simp (disch:=omega) [g0,sx,sx0];done));try dsimp only)|((with_reducible refine T5 ?_ ?_);(focus (simp (disch:=omega) [g0,sx,sx0];done));try dsimp only)|((with_reducible refine V3 ?_ ?_);(focus (simp (disch:=omega) [g0,sx,sx0] <;> omega)))|((with_reducible refine V4 ?_ ?_);(focus (simp (disch:=omega) [g0,sx,sx0] <;> omega)))|((with_reducible refine B6 ?_ ?_);(focus (simp (disch:=omega) [g0,sx,sx0];done)))|(with_reducible refine I0 ?_ ?_)|(with_reducible refine W0 ?_)|((with_reducible refine o9 ?_ ?_);(focus (simp (disch:=omega) [g0,sx,sx0];done));try dsimp only)|((with_reducible refine s5 ?_ ?_);(focus (simp (disch:=omega) [g0,sx,sx0];done));try dsimp only)|((with_reducible refine s6 ?_ ?_);(focus (simp (disch:=omega) [g0,sx,sx0];done));try dsimp only)|((with_reducible refine S3 (args':=?_) ?_ ?_);rotate_left;(focus ((conv=>lhs;simp (disch:=omega) [g0,sx,sx0]);done)))|((with_reducible refine v7 (args':=?_) ?_ ?_);rotate_left;(focus ((conv=>lhs;simp (disch:=omega) [g0,sx,sx0]);done)))|((with_reducible refine A0L (args':=?_) ?_ ?_);rotate_left;(focus ((conv=>lhs;simp (disch:=omega) [g0,sx,sx0]);done)))|((with_reducible refine s7 (g:=?_) (caps:=?_) ?_ ?_);rotate_left;rotate_left;(focus ((conv=>lhs;simp (disch:=omega) [g0,sx,sx0]);done)))|((with_reducible refine A0J (g:=?_) (caps:=?_) ?_ ?_);rotate_left;rotate_left;(focus ((conv=>lhs;simp (disch:=omega) [g0,sx,sx0]);done)))|((with_reducible refine A0M ?_ ?_);(focus (simp (disch:=omega) [g0,sx,sx0];done)))|(simp (decide:=true) only [J7,J4,I3,J3,I2,J2,J1,if_true,if_false,J5,J6])|(with_reducible refine i6 _ _ _ ?_)|((with_reducible refine a6 (b:=?_) ?_ ?_ ?_);rotate_left;(focus ((conv=>lhs;simp (disch:=omega) [g0,sx,sx0]);done));all_goals ((intro hb;try simp only [Bool.not_true,Bool.not_false] at hb);try simp only [hb]))|((with_reducible refine P8 (b:=?_) ?_ ?_ ?_);rotate_left;(focus ((conv=>lhs;simp (disch:=omega) [g0,sx,sx0]);done));all_goals ((intro hb;try simp only [Bool.not_true,Bool.not_false] at hb);try simp only [hb]))|((with_reducible refine W8 (b:=?_) ?_ ?_ ?_);rotate_left;(focus ((conv=>lhs;simp (disch:=omega) [g0,sx,sx0]);done));all_goals ((intro hb;try simp only [Bool.not_true,Bool.not_false] at hb);try simp only [hb]))|(with_reducible refine P4 ?_ ?_ <;> (intro hb;try simp only [Bool.not_true,Bool.not_false] at hb) <;> try simp only [hb])|(with_reducible refine U8 ?_ ?_ <;> (intro hb;try simp only [Bool.not_true,Bool.not_false] at hb) <;> try simp only [hb])|(with_reducible refine Y8 ?_ ?_ <;> (intro hb;try simp only [Bool.not_true,Bool.not_false] at hb) <;> try simp only [hb])|(with_reducible refine A0V ?_ ?_ <;> (intro hb;try simp only [Bool.not_true,Bool.not_false] at hb) <;> try simp only [hb]))
 all_goals first
  | exact tail _ _ H.length (H.length+1) (by simp [g0]) (by simp [g3]) (by simp [g4]) (by simp [g5]) (by simp) (by simp) (Cel.new0 top (by rfl)) (Cel.new (k:=1) top (by rfl))
  | exact tail _ _ (H.length+1) H.length (by simp [g0]) (by simp [g3]) (by simp [g4]) (by simp [g5]) (by simp) (by simp) (Cel.new (k:=1) top (by rfl)) (Cel.new0 top (by rfl))
def DoR (κ:Nat→Nat) (H:A3) (c:Nat) (x:Except Nat Stt) (r:AV × A3):Prop:=∃ (κ':Nat→Nat) (H':A3),Fr κ H κ' H'∧match x with
 | .error k=>r=(nat k,H')
 | .ok t=>r=(nat 0,H')∧∃ vt vp vs vi va vb,Wk κ' H' c t vt vp vs vi va vb
theorem DoR.app {κ:Nat→Nat} {H l:A3} {c:Nat} {x:Except Nat Stt} {r:AV × A3} (h:DoR κ (H++l) c x r):DoR κ H c x r:=by
 obtain ⟨κ',H',fr,h⟩:=h
 exact ⟨κ',H',fr.app,h⟩
theorem DoR.err {κ κ1:Nat→Nat} {H H1:A3} {c:Nat} {x:Except Nat Stt} {k:Nat} (e:x=.error k) (f:Fr κ H κ1 H1):DoR κ H c x (C8 [nat k],H1):=⟨κ1,H1,f,by rw [e];rfl⟩
theorem DoR.ok {κ κ1:Nat→Nat} {H H1:A3} {c:Nat} {x:Except Nat Stt} {t:Stt} {vt vp vs vi va vb:AV} (e:x=.ok t) (f:Fr κ H κ1 H1) (w:Wk κ1 H1 c t vt vp vs vi va vb):DoR κ H c x (C8 [nat 0],H1):=⟨κ1,H1,f,by rw [e];exact ⟨rfl,_,_,_,_,_,_,w⟩⟩
structure Dx (κ:Nat→Nat) (G:A3) (c xb:Nat) (s:Stt) (b:Pt) (a:Actn) (m:BitVec 8) (vt vp vs vi va vb wt wp:AV) (env:Env) (p3 p4 p5 p6 p7:Nat):Prop where
 x:Sx κ G c xb s b a m vt vp vs vi va vb wt wp
 c3:Cel κ G p3 (B4d c)
 c4:Cel κ G p4 (B4e c)
 c5:Cel κ G p5 (B4f c)
 c6:Cel κ G p6 (pt a.who.e)
 c7:Cel κ G p7 (pt a.e)
 e0:env.get 0=.ptr xb 0 [] G6
 e3:env.get 3=.ptr p3 0 [] K9
 e4:env.get 4=.ptr p4 0 [] K8
 e5:env.get 5=.ptr p5 0 [] L0
 e6:env.get 6=.ptr p6 0 [] (.arr 32 (.int .u8))
 e7:env.get 7=.ptr p7 0 [] (.arr 32 (.int .u8))
theorem Dx.next {G:A3} {env:Env} {p3 p4 p5 p6 p7:Nat} {κ':Nat→Nat} {G':A3} {s':Stt} {ut up us ui ua ub:AV} (d:Dx κ G c xb s b a m vt vp vs vi va vb wt wp env p3 p4 p5 p6 p7) (fr:Fr κ G κ' G') (w':Wk κ' G' c s' ut up us ui ua ub):Dx κ' G' c xb s' b a m ut up us ui ua ub wt wp env p3 p4 p5 p6 p7 :=
 ⟨d.x.next fr w',d.c3.next fr,d.c4.next fr,d.c5.next fr,d.c6.next fr,d.c7.next fr,d.e0,d.e3,d.e4,d.e5,d.e6,d.e7⟩
theorem F7I (x : Sx κ H c xb s b a m vt vp vs vi va vb wt wp) {Q : Ex × St → Prop} {env : Env} (g0 : env.get 0 = .ptr xb 0 [] G6)
  (tail:∀ (env':Env) (u:A3) (p3 p4 p5 p6 p7:Nat),Dx κ (H++u) c xb s b a m vt vp vs vi va vb wt wp env' p3 p4 p5 p6 p7→wC Tryz.prog O3 Z9 Q ⟨env',H++u⟩):wC Tryz.prog O3 A2n Q ⟨env,H⟩ :=
 F5U x g0 fun env' l p3 p4 p5 e0 e3 e4 e5 c3 c4 c5=>F5V (x.app l) e0 e3 e4 e5 (l:=l) fun env' u p6 p7 e0 e3 e4 e5 e6 e7 c6 c7=>by
  have:=tail env' (l++u) p3 p4 p5 p6 p7
  rw [←List.append_assoc] at this
  exact this ⟨(x.app l).app u,c3.app u,c4.app u,c5.app u,c6,c7,e0,e3,e4,e5,e6,e7⟩
end
end Go.Vab

namespace Go.Vab
open Go Go.Proofs
theorem B6o {G X:Prop} (f:Hd X→G:=by
 intro xX
 repeat' (first|refine stp (x:=?_)|(with_reducible refine I0 ?_ ?_)|(with_reducible refine A5 (c76 x.w hs) ?_;try dsimp only)|(with_reducible refine SpecQ.step (c76 x.w hs) ?_;rintro _ rfl;try dsimp only)|(with_reducible refine B6 (c76 x.w hs) ?_)|(simp (decide:=true) only [A0D,snB,if_true,if_false])|(with_reducible refine n9 _ _ _ ?_)|(with_reducible refine o0 _ _ _ ?_)|(with_reducible refine o6 _ _ _ ?_)|(with_reducible refine o7 _ _ _ ?_)|(with_reducible refine o8 _ _ _ ?_)|(with_reducible refine l9 _ _ _ ?_)|(with_reducible refine i6 _ _ _ ?_)|(with_reducible refine i7 _ _ _ ?_))
 exact xX.get) (x:X):G:=f ⟨x⟩
theorem A0H {G X:Prop} (f:Hd X→G:=by
 intro xX
 repeat' (first|refine stp (x:=?_)|(with_reducible refine I0 ?_ ?_)|(simp (decide:=true) only [A0D,snB,if_true,if_false])|(with_reducible refine n9 _ _ _ ?_)|(with_reducible refine o0 _ _ _ ?_)|(with_reducible refine o6 _ _ _ ?_)|(with_reducible refine o7 _ _ _ ?_)|(with_reducible refine o8 _ _ _ ?_)|(with_reducible refine l9 _ _ _ ?_)|(with_reducible refine i6 _ _ _ ?_)|(with_reducible refine i7 _ _ _ ?_))
 exact xX.get) (x:X):G:=f ⟨x⟩
theorem A4r {G X:Prop} (f:Hd X→G:=by
 intro xX
 repeat' (first|refine stp (x:=?_)|(with_reducible refine I0 ?_ ?_)|(with_reducible refine A5 (c66 x hs) ?_;try dsimp only)|(with_reducible refine SpecQ.step (c66 x hs) ?_;rintro _ rfl;try dsimp only)|(with_reducible refine B6 (c66 x hs) ?_)|(simp (decide:=true) only [A0D,snB,if_true,if_false])|(with_reducible refine n9 _ _ _ ?_)|(with_reducible refine o0 _ _ _ ?_)|(with_reducible refine o6 _ _ _ ?_)|(with_reducible refine o7 _ _ _ ?_)|(with_reducible refine o8 _ _ _ ?_)|(with_reducible refine l9 _ _ _ ?_)|(with_reducible refine i6 _ _ _ ?_)|(with_reducible refine i7 _ _ _ ?_))
 exact xX.get) (x:X):G:=f ⟨x⟩
theorem A4s {G X:Prop} (f:Hd X→G:=by
 intro xX
 repeat' (first|refine stp (x:=?_)|(with_reducible refine I0 ?_ ?_)|(with_reducible refine A5 (c66 x hs) ?_;try dsimp only)|(with_reducible refine SpecQ.step (c66 x hs) ?_;rintro _ rfl;try dsimp only)|(with_reducible refine B6 (c66 x hs) ?_)|(with_reducible refine A5 (c67 x.w) ?_;try dsimp only)|(with_reducible refine SpecQ.step (c67 x.w) ?_;rintro _ rfl;try dsimp only)|(with_reducible refine B6 (c67 x.w) ?_)|(simp (decide:=true) only [A0D,snB,if_true,if_false])|(with_reducible refine n9 _ _ _ ?_)|(with_reducible refine o0 _ _ _ ?_)|(with_reducible refine o6 _ _ _ ?_)|(with_reducible refine o7 _ _ _ ?_)|(with_reducible refine o8 _ _ _ ?_)|(with_reducible refine l9 _ _ _ ?_)|(with_reducible refine i6 _ _ _ ?_)|(with_reducible refine i7 _ _ _ ?_))
 exact xX.get) (x:X):G:=f ⟨x⟩
theorem D8J {G X:Prop} (f:Hd X→G:=by
 intro xX
 repeat' (first|refine stp (x:=?_)|(with_reducible refine I0 ?_ ?_)|(with_reducible refine A5 (c66 x hs) ?_;try dsimp only)|(with_reducible refine SpecQ.step (c66 x hs) ?_;rintro _ rfl;try dsimp only)|(with_reducible refine B6 (c66 x hs) ?_)|(with_reducible refine A5 (c71 x.w) ?_;try dsimp only)|(with_reducible refine SpecQ.step (c71 x.w) ?_;rintro _ rfl;try dsimp only)|(with_reducible refine B6 (c71 x.w) ?_)|(simp (decide:=true) only [A0D,snB,if_true,if_false])|(with_reducible refine n9 _ _ _ ?_)|(with_reducible refine o0 _ _ _ ?_)|(with_reducible refine o6 _ _ _ ?_)|(with_reducible refine o7 _ _ _ ?_)|(with_reducible refine o8 _ _ _ ?_)|(with_reducible refine l9 _ _ _ ?_)|(with_reducible refine i6 _ _ _ ?_)|(with_reducible refine i7 _ _ _ ?_))
 exact xX.get) (x:X):G:=f ⟨x⟩
theorem F5W {G X:Prop} (f:Hd X→G:=by
 intro xX
 repeat' (first|refine stp (x:=?_)|(with_reducible refine I0 ?_ ?_)|(with_reducible refine A5 (c73 d1.x (hs.a' _) hme) ?_;try dsimp only)|(with_reducible refine SpecQ.step (c73 d1.x (hs.a' _) hme) ?_;rintro _ rfl;try dsimp only)|(with_reducible refine B6 (c73 d1.x (hs.a' _) hme) ?_)|(simp (decide:=true) only [A0D,snB,if_true,if_false])|(with_reducible refine n9 _ _ _ ?_)|(with_reducible refine o0 _ _ _ ?_)|(with_reducible refine o6 _ _ _ ?_)|(with_reducible refine o7 _ _ _ ?_)|(with_reducible refine o8 _ _ _ ?_)|(with_reducible refine l9 _ _ _ ?_)|(with_reducible refine i6 _ _ _ ?_)|(with_reducible refine i7 _ _ _ ?_))
 exact xX.get) (x:X):G:=f ⟨x⟩
theorem D8K {G X:Prop} (f:Hd X→G:=by
 intro xX
 repeat' (first|refine stp (x:=?_)|(with_reducible refine I0 ?_ ?_)|(with_reducible refine A5 (c66 x hs) ?_;try dsimp only)|(with_reducible refine SpecQ.step (c66 x hs) ?_;rintro _ rfl;try dsimp only)|(with_reducible refine B6 (c66 x hs) ?_)|(with_reducible refine A5 (c74 x.w) ?_;try dsimp only)|(with_reducible refine SpecQ.step (c74 x.w) ?_;rintro _ rfl;try dsimp only)|(with_reducible refine B6 (c74 x.w) ?_)|(simp (decide:=true) only [A0D,snB,if_true,if_false])|(with_reducible refine n9 _ _ _ ?_)|(with_reducible refine o0 _ _ _ ?_)|(with_reducible refine o6 _ _ _ ?_)|(with_reducible refine o7 _ _ _ ?_)|(with_reducible refine o8 _ _ _ ?_)|(with_reducible refine l9 _ _ _ ?_)|(with_reducible refine i6 _ _ _ ?_)|(with_reducible refine i7 _ _ _ ?_))
 exact xX.get) (x:X):G:=f ⟨x⟩
theorem D8L {G X:Prop} (f:Hd X→G:=by
 intro xX
 repeat' (first|refine stp (x:=?_)|(with_reducible refine I0 ?_ ?_)|(with_reducible refine A5 (c78 x.w hs) ?_;try dsimp only)|(with_reducible refine SpecQ.step (c78 x.w hs) ?_;rintro _ rfl;try dsimp only)|(with_reducible refine B6 (c78 x.w hs) ?_)|(simp (decide:=true) only [A0D,snB,if_true,if_false])|(with_reducible refine n9 _ _ _ ?_)|(with_reducible refine o0 _ _ _ ?_)|(with_reducible refine o6 _ _ _ ?_)|(with_reducible refine o7 _ _ _ ?_)|(with_reducible refine o8 _ _ _ ?_)|(with_reducible refine l9 _ _ _ ?_)|(with_reducible refine i6 _ _ _ ?_)|(with_reducible refine i7 _ _ _ ?_))
 exact xX.get) (x:X):G:=f ⟨x⟩
theorem B6p {G X:Prop} (f:Hd X→G:=by
 intro xX
 repeat' (first|refine stp (x:=?_)|(with_reducible refine I0 ?_ ?_)|(with_reducible refine A5 (c78 x.w hs) ?_;try dsimp only)|(with_reducible refine SpecQ.step (c78 x.w hs) ?_;rintro _ rfl;try dsimp only)|(with_reducible refine B6 (c78 x.w hs) ?_)|(with_reducible refine A5 (c79 x) ?_;try dsimp only)|(with_reducible refine SpecQ.step (c79 x) ?_;rintro _ rfl;try dsimp only)|(with_reducible refine B6 (c79 x) ?_)|(simp (decide:=true) only [A0D,snB,if_true,if_false])|(with_reducible refine n9 _ _ _ ?_)|(with_reducible refine o0 _ _ _ ?_)|(with_reducible refine o6 _ _ _ ?_)|(with_reducible refine o7 _ _ _ ?_)|(with_reducible refine o8 _ _ _ ?_)|(with_reducible refine l9 _ _ _ ?_)|(with_reducible refine i6 _ _ _ ?_)|(with_reducible refine i7 _ _ _ ?_))
 exact xX.get) (x:X):G:=f ⟨x⟩
attribute [local irreducible] E9 Evs gW D9 E8 G5
theorem Srt.i' {s:Stt} (h:Srt s) (e:Pt):Srt { s with invites:=del fI s.invites e }:=⟨h.s,B7U h.i,h.a,h.b⟩
theorem Srt.a' {s:Stt} (h:Srt s) (e:Pt):Srt { s with asks:=del fA s.asks e }:=⟨h.s,h.i,B7U h.a,h.b⟩
section
variable {κ:Nat→Nat} {G:A3} {c xb:Nat} {s:Stt} {b:Pt} {a:Actn} {m:BitVec 8} {vt vp vs vi va vb wt wp:AV} {env:Env} {p3 p4 p5 p6 p7:Nat} {K:AV × A3→Prop}
theorem G2d (d:Dx κ G c xb s b a m vt vp vs vi va vb wt wp env p3 p4 p5 p6 p7) (hs:Srt s) (ok:Okd s b a) (hk:a.kind=2#8) (hK:∀ r,DoR κ G c (madeP s b a) r→K r):wC Tryz.prog O3 Z9 (K4 (fun s=>(bnd (some (s.env.get 2)) fun v=>bnd (some []) fun vs=>some (v::vs))) K) ⟨env,G⟩:=by
 have sx0:=A9 d.x.st
 have hm:=ok.adm (by simp [hk])
 obtain ⟨x,c3,c4,c5,c6,c7,e0,e3,e4,e5,e6,e7⟩:=d
 have b3:=c3.blk0
 have b7:=c7.blk0
 cases h1:A8 fS s.seats a.e
 ·have hmd:madeP s b a=.error 7:=by simp [madeP,hk,hm,h1]
  have ff:=aI8 sx0 hk h1 b3 b7 e0 e3 e7
  refine B6o (x:=?_)
  clear ff
  exact hK _ ⟨κ,G,Fr.refl _ _,by rw [hmd];rfl⟩
 by_cases h2:a.e=b
 ·have hmd:madeP s b a=.error 195:=by rw [h2] at h1;simp [madeP,hk,hm,h1,h2]
  have h1b:A8 fS s.seats b=true:=h2 ▸ h1
  have ff:=aI9 sx0 hk h1b h2 b3 b7 e0 e3 e7
  refine B6o (x:=?_)
  clear ff
  exact hK _ ⟨κ,G,Fr.refl _ _,by rw [hmd];rfl⟩
 ·have hmd:madeP s b a=.ok { s with seats:=del fS s.seats a.e }:=by simp [madeP,hk,hm,h1,h2]
  have ff:=aI9 sx0 hk h1 h2 b3 b7 e0 e3 e7
  refine B6o (x:=?_)
  clear ff
  refine SpecQ.step (c77 x.w hs) ?_
  rintro _ ⟨y,κ',H',q,rfl,_,w2,fr⟩
  have ff:=aI sx0 hk
  refine A0H (x:=?_)
  clear ff
  exact hK _ ⟨κ',H',fr,by rw [hmd];exact ⟨rfl,_,_,_,_,_,_,w2⟩⟩
theorem G2e (d:Dx κ G c xb s b a m vt vp vs vi va vb wt wp env p3 p4 p5 p6 p7) (hs:Srt s) (ms:E4 s=true) (ok:Okd s b a) (hk:a.kind=1#8) (hK:∀ r,DoR κ G c (madeP s b a) r→K r):wC Tryz.prog O3 Z9 (K4 (fun s=>(bnd (some (s.env.get 2)) fun v=>bnd (some []) fun vs=>some (v::vs))) K) ⟨env,G⟩:=by
 have sx0:=A9 d.x.st
 have hA:=ok.add (by simp [hk])
 have d0:=d
 obtain ⟨x,c3,c4,c5,c6,c7,e0,e3,e4,e5,e6,e7⟩:=d
 have b3:=c3.blk0
 have b4:=c4.blk0
 have b5:=c5.blk0
 have b6:=c6.blk0
 have hl:=(A0f ms).1
 by_cases hn:I7 s a 0#8 false false=0
 rotate_left
 ·have hmd:madeP s b a=.error (I7 s a 0#8 false false):=G0i ms hk hA hn
  have ff:=aI4 sx0 hk hn e0
  refine A4r (x:=?_)
  clear ff
  exact hK _ ⟨κ,G,Fr.refl _ _,by rw [hmd];rfl⟩
 by_cases h3:40≤s.seats.length
 ·have hmd:madeP s b a=.error 9:=G0j ms hk hA hn h3
  have ff:=aI7 sx0 hk hn h3 b3 e0 e3
  refine A4s (x:=?_)
  clear ff
  exact hK _ ⟨κ,G,Fr.refl _ _,by rw [hmd];rfl⟩
 have hmd:madeP s b a=.ok { s with invites:=del fI s.invites a.who.e,asks:=del fA s.asks a.who.e,seats:=ins fS s.seats ⟨a.who,a.role,a.version⟩ }:=G0k ms hk hA hn h3
 have ff:=D8 sx0 hk hn h3 b3 b4 b6 e0 e3 e4 e6
 refine A4s (x:=?_)
 clear ff
 refine SpecQ.step (c68 x.w hs) ?_
 rintro _ ⟨y,κ1,H1,q1,rfl,_,w1,fr1⟩
 have d1:=d0.next fr1 w1
 have b51:=d1.c5.blk0
 have b61:=d1.c6.blk0
 have ff:=aI5 b51 b61 e0 e5 e6
 refine A0H (x:=?_)
 clear ff
 refine SpecQ.step (c69 d1.x.w (hs.i' _)) ?_
 rintro _ ⟨y,κ2,H2,q2,rfl,_,w2,fr2⟩
 have d2:=d1.next fr2 w2
 have sx2:=A9 d2.x.st
 have ff:=aI sx2 e0
 refine A0H (x:=?_)
 clear ff
 refine SpecQ.step (c70 d2.x ((hs.i' _).a' _) (by simp only;omega)) ?_
 rintro _ ⟨κ3,H3,q3,rfl,w3,fr3⟩
 have ff:=e0
 refine A0H (x:=?_)
 clear ff
 exact hK _ ⟨κ3,H3,(fr1.trans fr2).trans fr3,by rw [hmd];exact ⟨rfl,_,_,_,_,_,_,w3⟩⟩
theorem G2f (d:Dx κ G c xb s b a m vt vp vs vi va vb wt wp env p3 p4 p5 p6 p7) (hs:Srt s) (ms:E4 s=true) (ok:Okd s b a) (hk:a.kind=9#8) (hK:∀ r,DoR κ G c (madeP s b a) r→K r):wC Tryz.prog O3 Z9 (K4 (fun s=>(bnd (some (s.env.get 2)) fun v=>bnd (some []) fun vs=>some (v::vs))) K) ⟨env,G⟩:=by
 have sx0:=A9 d.x.st
 have hw:=ok.who (by simp [hk])
 have d0:=d
 obtain ⟨x,c3,c4,c5,c6,c7,e0,e3,e4,e5,e6,e7⟩:=d
 have b3:=c3.blk0
 have b4:=c4.blk0
 have b5:=c5.blk0
 have b6:=c6.blk0
 have hl:=(A0f ms).1
 by_cases hn:I7 s a 1#8 false false=0
 rotate_left
 ·have hmd:madeP s b a=.error (I7 s a 1#8 false false):=G0l ms hk hw hn
  have ff:=aI4 sx0 hk hn e0
  refine A4r (x:=?_)
  clear ff
  exact hK _ ⟨κ,G,Fr.refl _ _,by rw [hmd];rfl⟩
 by_cases h3:40≤s.seats.length
 ·have hmd:madeP s b a=.error 9:=G0m ms hk hw hn h3
  have ff:=aI7 sx0 hk hn h3 b3 e0 e3
  refine A4s (x:=?_)
  clear ff
  exact hK _ ⟨κ,G,Fr.refl _ _,by rw [hmd];rfl⟩
 have hmd:madeP s b a=.ok { s with invites:=del fI s.invites a.who.e,asks:=del fA s.asks a.who.e,seats:=ins fS s.seats ⟨a.who,1#8,a.version⟩ }:=G0n ms hk hw hn h3
 have ff:=D8 sx0 hk hn h3 b3 b4 b6 e0 e3 e4 e6
 refine A4s (x:=?_)
 clear ff
 refine SpecQ.step (c68 x.w hs) ?_
 rintro _ ⟨y,κ1,H1,q1,rfl,_,w1,fr1⟩
 have d1:=d0.next fr1 w1
 have b51:=d1.c5.blk0
 have b61:=d1.c6.blk0
 have ff:=aI5 b51 b61 e0 e5 e6
 refine A0H (x:=?_)
 clear ff
 refine SpecQ.step (c69 d1.x.w (hs.i' _)) ?_
 rintro _ ⟨y,κ2,H2,q2,rfl,_,w2,fr2⟩
 have d2:=d1.next fr2 w2
 have sx2:=A9 d2.x.st
 have ff:=aI sx2 e0
 refine A0H (x:=?_)
 clear ff
 refine SpecQ.step (c70 d2.x ((hs.i' _).a' _) (by simp only;omega)) ?_
 rintro _ ⟨κ3,H3,q3,rfl,w3,fr3⟩
 have ff:=e0
 refine A0H (x:=?_)
 clear ff
 exact hK _ ⟨κ3,H3,(fr1.trans fr2).trans fr3,by rw [hmd];exact ⟨rfl,_,_,_,_,_,_,w3⟩⟩
theorem G2g (d:Dx κ G c xb s b a m vt vp vs vi va vb wt wp env p3 p4 p5 p6 p7) (hs:Srt s) (ms:E4 s=true) (ok:Okd s b a) (hk:a.kind=5#8) (hK:∀ r,DoR κ G c (madeP s b a) r→K r):wC Tryz.prog O3 Z9 (K4 (fun s=>(bnd (some (s.env.get 2)) fun v=>bnd (some []) fun vs=>some (v::vs))) K) ⟨env,G⟩:=by
 have sx0:=A9 d.x.st
 have hA:=ok.add (by simp [hk])
 have hme:=D8s ms (adds_iff.1 hA).1
 have hmd:=F9p ms hk hA
 have d0:=d
 obtain ⟨x,c3,c4,c5,c6,c7,e0,e3,e4,e5,e6,e7⟩:=d
 have b4:=c4.blk0
 have b5:=c5.blk0
 have b6:=c6.blk0
 have hl:=(A0f ms).2.1
 by_cases hn:I7 s a 0#8 true false=0
 rotate_left
 ·rw [if_pos hn] at hmd
  have ff:=aI4 sx0 hk hn e0
  refine A4r (x:=?_)
  clear ff
  exact hK _ ⟨κ,G,Fr.refl _ _,by rw [hmd];rfl⟩
 rw [if_neg (by simp [hn])] at hmd
 by_cases h3:40≤s.invites.length
 ·rw [if_pos h3] at hmd
  have ff:=aI7 sx0 hk hn h3 b4 e0 e4
  refine D8J (x:=?_)
  clear ff
  exact hK _ ⟨κ,G,Fr.refl _ _,by rw [hmd];rfl⟩
 rw [if_neg h3] at hmd
 have ff:=D8 sx0 hk hn h3 b4 b5 b6 e0 e4 e5 e6
 refine D8J (x:=?_)
 clear ff
 refine SpecQ.step (c69 x.w hs) ?_
 rintro _ ⟨y,κ1,H1,q1,rfl,_,w1,fr1⟩
 have d1:=d0.next fr1 w1
 have b41:=d1.c4.blk0
 have sx1:=A9 d1.x.st
 have ff:=aI4 sx1 b41 e0 e4
 refine F5W (x:=?_)
 clear ff
 refine SpecQ.step (c72 (x:=⟨a.who,a.role,I1 s b⟩) d1.x.w (hs.a' _) (by simp only;omega)) ?_
 rintro _ ⟨v,κ2,H2,q2,rfl,w2,fr2⟩
 have ff:=e0
 refine A0H (x:=?_)
 clear ff
 exact hK _ ⟨κ2,H2,fr1.trans fr2,by rw [hmd];exact ⟨rfl,_,_,_,_,_,_,w2⟩⟩
theorem G0R (d:Dx κ G c xb s b a m vt vp vs vi va vb wt wp env p3 p4 p5 p6 p7) (hs:Srt s) (ms:E4 s=true) (ok:Okd s b a) (hk:a.kind=10#8) (hK:∀ r,DoR κ G c (madeP s b a) r→K r):wC Tryz.prog O3 Z9 (K4 (fun s=>(bnd (some (s.env.get 2)) fun v=>bnd (some []) fun vs=>some (v::vs))) K) ⟨env,G⟩:=by
 have sx0:=A9 d.x.st
 have hw:=ok.who (by simp [hk])
 have hmd:=F88 ms hk hw
 obtain ⟨x,c3,c4,c5,c6,c7,e0,e3,e4,e5,e6,e7⟩:=d
 have b5:=c5.blk0
 have hl:=(A0f ms).2.2.1
 by_cases hn:I7 s a 2#8 true true=0
 rotate_left
 ·rw [if_pos hn] at hmd
  have ff:=aI4 sx0 hk hn e0
  refine A4r (x:=?_)
  clear ff
  exact hK _ ⟨κ,G,Fr.refl _ _,by rw [hmd];rfl⟩
 rw [if_neg (by simp [hn])] at hmd
 by_cases h3:40≤s.asks.length
 ·rw [if_pos h3] at hmd
  have ff:=aI7 sx0 hk hn h3 b5 e0 e5
  refine D8K (x:=?_)
  clear ff
  exact hK _ ⟨κ,G,Fr.refl _ _,by rw [hmd];rfl⟩
 rw [if_neg h3] at hmd
 have ff:=aI7 sx0 hk hn h3 b5 e0 e5
 refine D8K (x:=?_)
 clear ff
 refine SpecQ.step (c75 (x:=⟨a.who,a.version⟩) x.w hs (by omega)) ?_
 rintro _ ⟨v,κ2,H2,q2,rfl,w2,fr2⟩
 have ff:=e0
 refine A0H (x:=?_)
 clear ff
 exact hK _ ⟨κ2,H2,fr2,by rw [hmd];exact ⟨rfl,_,_,_,_,_,_,w2⟩⟩
theorem G2h (d:Dx κ G c xb s b a m vt vp vs vi va vb wt wp env p3 p4 p5 p6 p7) (hs:Srt s) (ms:E4 s=true) (ok:Okd s b a) (hk:a.kind=3#8) (hK:∀ r,DoR κ G c (madeP s b a) r→K r):wC Tryz.prog O3 Z9 (K4 (fun s=>(bnd (some (s.env.get 2)) fun v=>bnd (some []) fun vs=>some (v::vs))) K) ⟨env,G⟩:=by
 have sx0:=A9 d.x.st
 have wb0:=A9 d.x.w.cell
 have hm:=ok.adm (by simp [hk])
 obtain ⟨x,c3,c4,c5,c6,c7,e0,e3,e4,e5,e6,e7⟩:=d
 have b3:=c3.blk0
 have b7:=c7.blk0
 cases h1:A8 fS s.seats a.e
 ·have hmd:madeP s b a=.error 7:=by simp [madeP,hk,hm,S0 h1]
  have ff:=aI8 sx0 hk h1 b3 b7 e0 e3 e7
  refine D8L (x:=?_)
  clear ff
  exact hK _ ⟨κ,G,Fr.refl _ _,by rw [hmd];rfl⟩
 obtain ⟨hlow,he,hf⟩:=U4 hs.s h1
 obtain ⟨hl0,⟨h0,_⟩|⟨bb,cc,xs,kk,hvs,hb,hc,h0,ht⟩⟩:=x.w.fs
 ·rw [h0] at hlow;simp at hlow
 have hle:s.seats.length≤xs.length:=by
  have:=congrArg List.length ht
  rw [List.length_take] at this;omega
 obtain ⟨z,hz⟩:∃ z,z=s.seats[low fS s.seats a.e]:=⟨_,rfl⟩
 have hxz:xs[low fS s.seats a.e]?=some z:=by
  have:=congrArg (fun l=>l[low fS s.seats a.e]?) ht
  simp only [List.getElem?_take_of_lt hlow,List.getElem?_eq_getElem hlow] at this
  rw [this,hz]
 rw [←hz] at hf
 obtain ⟨n,hn⟩:∃ n,n=low fS s.seats a.e:=⟨_,rfl⟩
 rw [←hn] at hxz hlow
 have i1:Q9 A7 vs (nat n)=some (.ptr bb 0 [n] A7):=by rw [hvs];simp [Q9,hlow]
 obtain ⟨B,hB⟩:∃ B,B=AV.node (xs.map B0):=⟨_,rfl⟩
 have hbb:blkAt G bb 0=some ⟨B,0,.own⟩:=by rw [hB];exact A9 hb
 have hbg:B.get [n,1]=some (u8 z.role):=by rw [hB];simp [hxz,B0,-A26]
 by_cases h2:z.role=a.role
 ·have hmd:madeP s b a=.error 8:=by simp [madeP,hk,hm,hf,h2]
  have ff:=N9 sx0 wb0 hk h1 hn.symm i1 hbb hbg h2 b3 b7 e0 e3 e7
  refine D8L (x:=?_)
  clear ff
  exact hK _ ⟨κ,G,Fr.refl _ _,by rw [hmd];rfl⟩
 have hok:¬ (z.role=2#8∧v8 s=1)→madeP s b a=.ok { s with seats:=s.seats.set n { z with role:=a.role } }:=fun h=>by
  have e:ins fS (del fS s.seats a.e) { z with role:=a.role }=s.seats.set n { z with role:=a.role }:=by rw [hn];exact F4A hs.s h1 (B7V hf).2
  simp only [madeP,hk,hm,hf,h2,h,e];simp
 obtain ⟨B',hB'⟩:∃ B',B'=AV.node ((xs.set n { z with role:=a.role }).map B0):=⟨_,rfl⟩
 have hbp:B.put [n,1] (u8 a.role)=some B':=by
  rw [hB,hB']
  simp [hxz,List.map_set]
 obtain ⟨G',hG'⟩:∃ G',G.set bb ⟨B',0,.own⟩=G':=⟨_,rfl⟩
 have hnl:n < xs.length:=by omega
 have fin:Wk κ G' c { s with seats:=s.seats.set n { z with role:=a.role } } vt vp vs vi va vb∧Fr κ G κ G':=by
  obtain ⟨k1,ch⟩:=g9 (t:=A7) (E:=B0) (l:=s.seats.set n { z with role:=a.role }) (xs':=xs.set n { z with role:=a.role }) (c:=cc) kk hb (by simpa using hl0) (by simpa using hc) h0 (by rw [List.length_set,List.take_set,ht])
  rw [←hB',hG',List.length_set,←hvs] at k1
  rw [←hB',hG'] at ch
  obtain ⟨r1,r2,r3,r4,r5,r6,r7,_,r8,r9,r10⟩:=x.w.rest ch (by decide)
  exact ⟨⟨r1,r2,r3,r4,r5,r6,r7,k1,r8 (by decide),r9 (by decide),r10 (by decide)⟩,ch.fr (by decide)⟩
 by_cases h4:z.role=2#8
 ·by_cases h5:v8 s=1
  ·have hmd:madeP s b a=.error 192:=by rw [h4] at h2;simp [madeP,hk,hm,hf,h2,h4,h5]
   have hbg2:B.get [n,1]=some (u8 2#8):=by rw [hbg,h4]
   have h2':¬ 2#8=a.role:=by rw [←h4];exact h2
   have ff:=T9 sx0 wb0 hk h1 hn.symm i1 hbb hbg2 h2' h5 b3 b7 e0 e3 e7
   refine B6p (x:=?_)
   clear ff
   exact hK _ ⟨κ,G,Fr.refl _ _,by rw [hmd];rfl⟩
  ·have hmd:=hok fun h=>h5 h.2
   have hbg2:B.get [n,1]=some (u8 2#8):=by rw [hbg,h4]
   have h2':¬ 2#8=a.role:=by rw [←h4];exact h2
   have ff:=L5 sx0 wb0 hk h1 hn.symm i1 hbb hbg2 h2' h5 hbp hG' b3 b7 e0 e3 e7
   refine B6p (x:=?_)
   clear ff
   exact hK _ ⟨κ,G',fin.2,by rw [hmd];exact ⟨rfl,_,_,_,_,_,_,fin.1⟩⟩
 ·have hmd:=hok fun h=>h4 h.1
  have ff:=L5 sx0 wb0 hk h1 hn.symm i1 hbb hbg h2 h4 hbp hG' b3 b7 e0 e3 e7
  refine B6p (x:=?_)
  clear ff
  exact hK _ ⟨κ,G',fin.2,by rw [hmd];exact ⟨rfl,_,_,_,_,_,_,fin.1⟩⟩
end
end Go.Vab

namespace Go.Vab
open Go Go.Proofs
noncomputable section
def K7:Ctx:=⟨fun _ _ _ => none,TT,281,[21,22,23,24,25,26,27,28,29,30,31,32,33,34,35,36,37,38,39,40,41,42,43,44,45,46,47,48,49,52,54,56,58,60,62,64,66,68,70,72,74,75,76,77,78,79,80,81,82,83,84,85,86,87,88,89,90,91,92,93,95,96,97,98,99,100,101,102,103,104,105,106,107,109,110,111,112,113,114,115,116,117,118,119,120,121,122,123,124,125,126,127,128,129,130,131,133,134,135,136,137,138,139,140,141,142,143,144,145,147,149,150,151,152,153,154,155,156,157,158,159,160,161,163,165,166,167,168,169,170,171,172,173,174,175,176,177,178,179,180,181,182,183,184,185,186,187,188,189,190,191,192,193,194,195,196,197,198,200,201,202,203,204,205,207,208,209,210,211,212,213,214,215,216,217,218,220,221,222,223,224,225,226,227,228,230,231,232,233,234,235,236,237,238,240,241,242,243,245,246,247,248,249,250,251,252,253,254,255,256,257,258,259,260,261,262,263,264,265,266,267,268,269,270,271,272,273,274,275,276,277,278,279,280]⟩
def A2o:=B8 Tryz.f80
def B4g:=cR A2o
def A4H:=cR B4g
def R0:=cR A4H
def D29:=cL R0
def D3A:=cR D29
def B4h:=cB D3A
def D3B:=cL B4h
def B4i:=cB D3B
def D3C:=cL B4i
def A9X:=cB D3C
def C4r:=cL A9X
def A9Y:=cB C4r
def C4s:=cL A9Y
def A9Z:=cB C4s
def C4t:=cL A9Z
def A9a:=cB C4t
def C4u:=cL A9a
def A9b:=cB C4u
def C4v:=cL A9b
def A9c:=cB C4v
def C4w:=cL A9c
def A9d:=cB C4w
def C4x:=cL A9d
def A9e:=cB C4x
def C4y:=cL A9e
def A9f:=cB C4y
def C4z:=cL A9f
def A9g:=cB C4z
def C40:=cL A9g
def A9h:=cB C40
def A9i:=cL A9h
def C41:=cL A9i
def A9j:=cR C41
def E41:=cL A9j
def E42:=cR A9j
def A9k:=cR A9i
def C42:=cL A9k
def A9l:=cR C42
def E43:=cL A9l
def E44:=cR A9l
def A9m:=cR A9k
def C43:=cL A9m
def A9n:=cR C43
def E45:=cL A9n
def E46:=cR A9n
def A9o:=cR A9m
def C44:=cL A9o
def A9p:=cR C44
def E47:=cL A9p
def E48:=cR A9p
def A9q:=cR A9o
def C45:=cL A9q
def A9r:=cR C45
def E49:=cL A9r
def E5A:=cR A9r
def A9s:=cR A9q
def C46:=cL A9s
def A9t:=cR C46
def E5B:=cL A9t
def E5C:=cR A9t
def A9u:=cR A9s
def C47:=cL A9u
def A9v:=cR C47
def E5D:=cL A9v
def E5E:=cR A9v
def A9w:=cR A9u
def C48:=cL A9w
def A9x:=cR C48
def E5F:=cL A9x
def E5G:=cR A9x
def A9y:=cR A9w
def C49:=cL A9y
def A9z:=cR C49
def E5H:=cL A9z
def E5I:=cR A9z
def A90:=cR A9y
def C5A:=cL A90
def A91:=cR C5A
def E5J:=cL A91
def E5K:=cR A91
def A92:=cR A90
def C5B:=cL A92
def A93:=cR C5B
def E5L:=cL A93
def E5M:=cR A93
def C5C:=cR A92
def A94:=cR C5C
def E5N:=cL A94
def E5O:=cR A94
def E5P:=cR A9h
def A95:=cR A9g
def A96:=cL A95
def C5D:=cL A96
def A97:=cR C5D
def C5E:=cL A97
def E5Q:=cR C5E
def E5R:=cR A97
def E5S:=cR A96
def E5T:=cR A95
def A58:=cR A9f
def B8v:=cL A58
def A59:=cR B8v
def B8w:=cL A59
def A6A:=cR B8w
def B8x:=cL A6A
def E0s:=cR B8x
def E0t:=cR A6A
def A6B:=cR A59
def B8y:=cL A6B
def A6C:=cR B8y
def B8z:=cL A6C
def E0u:=cR B8z
def E0v:=cR A6C
def E0w:=cR A6B
def E0x:=cR A58
def A6D:=cR A9e
def B80:=cL A6D
def A6E:=cR B80
def B81:=cL A6E
def A6F:=cR B81
def B82:=cL A6F
def E0y:=cR B82
def E0z:=cR A6F
def A6G:=cR A6E
def B83:=cL A6G
def A6H:=cR B83
def B84:=cL A6H
def E01:=cR B84
def E02:=cR A6H
def B85:=cR A6G
def E03:=cR B85
def E04:=cR A6D
def A6I:=cR A9d
def B86:=cL A6I
def A6J:=cR B86
def B87:=cL A6J
def A6K:=cR B87
def B88:=cL A6K
def E05:=cR B88
def E06:=cR A6K
def A6L:=cR A6J
def B89:=cL A6L
def A6M:=cR B89
def B9A:=cL A6M
def E07:=cR B9A
def E08:=cR A6M
def B9B:=cR A6L
def E09:=cR B9B
def E1A:=cR A6I
def A6N:=cR A9c
def B9C:=cL A6N
def E1B:=cR B9C
def E1C:=cR A6N
def E1D:=cR A9b
def A6O:=cR A9a
def B9D:=cL A6O
def E1E:=cR B9D
def E1F:=cR A6O
def A6P:=cR A9Z
def B9E:=cL A6P
def E1G:=cR B9E
def E1H:=cR A6P
def A6Q:=cR A9Y
def A6R:=cL A6Q
def B9F:=cL A6R
def B9G:=cB B9F
def A6S:=cR B9G
def B9H:=cL A6S
def E1I:=cR B9H
def B9I:=cR A6S
def A6T:=cR B9I
def B9J:=cL A6T
def E1J:=cR B9J
def E1K:=cR A6T
def B9K:=cR A6R
def A6U:=cR B9K
def B9L:=cL A6U
def B9M:=cR B9L
def A6V:=cR B9M
def E1L:=cL A6V
def B9N:=cR A6V
def B9O:=cR B9N
def A6W:=cR B9O
def E1M:=cL A6W
def B9P:=cR A6W
def B9Q:=cR B9P
def A6X:=cR B9Q
def E1N:=cL A6X
def B9R:=cR A6X
def E1O:=cR B9R
def A6Y:=cR A6U
def B9S:=cL A6Y
def A6Z:=cR B9S
def B9T:=cL A6Z
def E1P:=cR B9T
def E1Q:=cR A6Z
def E1R:=cR A6Y
def E1S:=cR A6Q
def B9U:=cR A9X
def E1T:=cR B9U
def B9V:=cR B4i
def E1U:=cR B9V
def B9W:=cR B4h
def E1V:=cR B9W
def B9X:=cR R0
def E1W:=cR B9X
def q80:=zQ1 K7 80 Tryz.f80 A2o fun s=>(bnd (some (s.env.get 2)) fun v=>bnd (some []) fun vs=>some (v::vs))
def F7J:=B3 K7 [[R0,A4H]]
def F7K:=B3 K7 [[B4g,A2o]]
def X9:=zDr K7 [E5S] [5] [0,0,2,6,14,31] [0,1,2,3,4] (.o 5 [] [] .f)
def W9:=zDr K7 [A6C,B8y] [] [0,1,3,7,15,31,63,127,255,511,1023,2047,4095,63,16383,32767,65535,131071,63,262207,786495,1835071,4194303,8388607] [0,1,2,3,4,5,6,7,8,9,10,11,12,13,14,15,16,17,18,19,20,21,22,23] .f
def U7:=zDr K7 [A6E,B80] [5,9,10] [0,0,2,6,14,31,63,127,127,0,767,2047] [0,1,2,3,4] (.b 5 [6,7,8] [] (.o 9 [] [0,4] (.o 10 [11] [] .f)) (.o 9 [] [0,4] (.o 5 [6,7,8] [] (.o 10 [11] [] .f))))
def X0:=zDr K7 [E09,B9B] [8] [0,0,2,0,8,24,56,120,255,511] [0,1,2,3,4,5,6,7] (.o 8 [9] [] .f)
def X3:=zDr K7 [E1B,B9C] [5] [0,0,2,6,14,31,63,63,255,511] [0,1,2,3,4] (.o 5 [6,7,8,9] [] .f)
def X4:=zDr K7 [A6S,B9G] [] [0,0,2,6,14,31,63] [0,1,2,3,4,5,6] .f
def X5:=zDr K7 [E1T,B9U] [11] [0,1,3,7,0,16,48,112,240,511,1023,2047] [0,1,2,3,4,5,6,7,8,9,10] (.o 11 [] [] .f)
def X6:=zDr K7 [E1U,B9V] [11] [0,1,3,7,0,16,48,112,240,511,1023,2047] [0,1,2,3,4,5,6,7,8,9,10] (.o 11 [] [] .f)
def X7:=zDr K7 [E1V,B9W] [11] [0,1,3,7,0,16,48,112,240,511,1023,2047] [0,1,2,3,4,5,6,7,8,9,10] (.o 11 [] [] .f)
def V0:=zDr K7 [A4H,B4g] [20,21,22,23,24,25,26,27] [0,1,3,7,15,0,32,96,224,511,0,1024,3072,7168,16383,0,32768,98304,229376,524287,0,0,0,0,16777215,33554431,67108863,134217727] [0,1,2,3,4,5,6,7,8,9,10,11,12,13,14,15,16,17,18,19] (.b 20 [] [3,4,8,9,13,14,18,19] (.b 21 [] [3,4,8,9,13,14,18,19] (.b 22 [] [3,4,8,9,13,14,18,19] (.o 23 [] [3,4,8,9,13,14,18,19] (.o 24 [] [] (.o 25 [] [] (.o 26 [] [] (.o 27 [] [] .f))))) (.o 23 [] [3,4,8,9,13,14,18,19] (.o 22 [] [3,4,8,9,13,14,18,19] (.o 24 [] [] (.o 25 [] [] (.o 26 [] [] (.o 27 [] [] .f))))))) (.b 22 [] [3,4,8,9,13,14,18,19] (.b 21 [] [3,4,8,9,13,14,18,19] (.o 23 [] [3,4,8,9,13,14,18,19] (.o 24 [] [] (.o 25 [] [] (.o 26 [] [] (.o 27 [] [] .f))))) (.o 23 [] [3,4,8,9,13,14,18,19] (.o 21 [] [3,4,8,9,13,14,18,19] (.o 24 [] [] (.o 25 [] [] (.o 26 [] [] (.o 27 [] [] .f))))))) (.o 23 [] [3,4,8,9,13,14,18,19] (.b 21 [] [3,4,8,9,13,14,18,19] (.o 22 [] [3,4,8,9,13,14,18,19] (.o 24 [] [] (.o 25 [] [] (.o 26 [] [] (.o 27 [] [] .f))))) (.o 22 [] [3,4,8,9,13,14,18,19] (.o 21 [] [3,4,8,9,13,14,18,19] (.o 24 [] [] (.o 25 [] [] (.o 26 [] [] (.o 27 [] [] .f)))))))))) (.b 21 [] [3,4,8,9,13,14,18,19] (.b 20 [] [3,4,8,9,13,14,18,19] (.b 22 [] [3,4,8,9,13,14,18,19] (.o 23 [] [3,4,8,9,13,14,18,19] (.o 24 [] [] (.o 25 [] [] (.o 26 [] [] (.o 27 [] [] .f))))) (.o 23 [] [3,4,8,9,13,14,18,19] (.o 22 [] [3,4,8,9,13,14,18,19] (.o 24 [] [] (.o 25 [] [] (.o 26 [] [] (.o 27 [] [] .f))))))) (.b 22 [] [3,4,8,9,13,14,18,19] (.b 20 [] [3,4,8,9,13,14,18,19] (.o 23 [] [3,4,8,9,13,14,18,19] (.o 24 [] [] (.o 25 [] [] (.o 26 [] [] (.o 27 [] [] .f))))) (.o 23 [] [3,4,8,9,13,14,18,19] (.o 20 [] [3,4,8,9,13,14,18,19] (.o 24 [] [] (.o 25 [] [] (.o 26 [] [] (.o 27 [] [] .f))))))) (.o 23 [] [3,4,8,9,13,14,18,19] (.b 20 [] [3,4,8,9,13,14,18,19] (.o 22 [] [3,4,8,9,13,14,18,19] (.o 24 [] [] (.o 25 [] [] (.o 26 [] [] (.o 27 [] [] .f))))) (.o 22 [] [3,4,8,9,13,14,18,19] (.o 20 [] [3,4,8,9,13,14,18,19] (.o 24 [] [] (.o 25 [] [] (.o 26 [] [] (.o 27 [] [] .f)))))))))) (.b 22 [] [3,4,8,9,13,14,18,19] (.b 20 [] [3,4,8,9,13,14,18,19] (.b 21 [] [3,4,8,9,13,14,18,19] (.o 23 [] [3,4,8,9,13,14,18,19] (.o 24 [] [] (.o 25 [] [] (.o 26 [] [] (.o 27 [] [] .f))))) (.o 23 [] [3,4,8,9,13,14,18,19] (.o 21 [] [3,4,8,9,13,14,18,19] (.o 24 [] [] (.o 25 [] [] (.o 26 [] [] (.o 27 [] [] .f))))))) (.b 21 [] [3,4,8,9,13,14,18,19] (.b 20 [] [3,4,8,9,13,14,18,19] (.o 23 [] [3,4,8,9,13,14,18,19] (.o 24 [] [] (.o 25 [] [] (.o 26 [] [] (.o 27 [] [] .f))))) (.o 23 [] [3,4,8,9,13,14,18,19] (.o 20 [] [3,4,8,9,13,14,18,19] (.o 24 [] [] (.o 25 [] [] (.o 26 [] [] (.o 27 [] [] .f))))))) (.o 23 [] [3,4,8,9,13,14,18,19] (.b 20 [] [3,4,8,9,13,14,18,19] (.o 21 [] [3,4,8,9,13,14,18,19] (.o 24 [] [] (.o 25 [] [] (.o 26 [] [] (.o 27 [] [] .f))))) (.o 21 [] [3,4,8,9,13,14,18,19] (.o 20 [] [3,4,8,9,13,14,18,19] (.o 24 [] [] (.o 25 [] [] (.o 26 [] [] (.o 27 [] [] .f)))))))))) (.o 23 [] [3,4,8,9,13,14,18,19] (.b 20 [] [3,4,8,9,13,14,18,19] (.b 21 [] [3,4,8,9,13,14,18,19] (.o 22 [] [3,4,8,9,13,14,18,19] (.o 24 [] [] (.o 25 [] [] (.o 26 [] [] (.o 27 [] [] .f))))) (.o 22 [] [3,4,8,9,13,14,18,19] (.o 21 [] [3,4,8,9,13,14,18,19] (.o 24 [] [] (.o 25 [] [] (.o 26 [] [] (.o 27 [] [] .f))))))) (.b 21 [] [3,4,8,9,13,14,18,19] (.b 20 [] [3,4,8,9,13,14,18,19] (.o 22 [] [3,4,8,9,13,14,18,19] (.o 24 [] [] (.o 25 [] [] (.o 26 [] [] (.o 27 [] [] .f))))) (.o 22 [] [3,4,8,9,13,14,18,19] (.o 20 [] [3,4,8,9,13,14,18,19] (.o 24 [] [] (.o 25 [] [] (.o 26 [] [] (.o 27 [] [] .f))))))) (.o 22 [] [3,4,8,9,13,14,18,19] (.b 20 [] [3,4,8,9,13,14,18,19] (.o 21 [] [3,4,8,9,13,14,18,19] (.o 24 [] [] (.o 25 [] [] (.o 26 [] [] (.o 27 [] [] .f))))) (.o 21 [] [3,4,8,9,13,14,18,19] (.o 20 [] [3,4,8,9,13,14,18,19] (.o 24 [] [] (.o 25 [] [] (.o 26 [] [] (.o 27 [] [] .f))))))))))))))
def U6:=B3 K7 [[E41],[E42],[E41,E42,A9j],[A9j,C41],[E43],[E44],[E43,E44,A9l],[A9l,C42],[E45],[E46],[E45,E46,A9n],[A9n,C43],[E47],[E48],[E47,E48,A9p],[A9p,C44],[E49],[E5A],[E49,E5A,A9r],[A9r,C45],[E5B],[E5C],[E5B,E5C,A9t],[A9t,C46],[E5D],[E5E],[E5D,E5E,A9v],[A9v,C47],[E5F],[E5G],[E5F,E5G,A9x],[A9x,C48],[E5H],[E5I],[E5H,E5I,A9z],[A9z,C49],[E5J],[E5K],[E5J,E5K,A91],[A91,C5A],[E5L],[E5M],[E5L,E5M,A93],[A93,C5B],[E5N],[E5O],[E5N,E5O,A94],[A94,C5C],[C5B,C5C,A92],[C5A,A92,A90],[C49,A90,A9y],[C48,A9y,A9w],[C47,A9w,A9u],[C46,A9u,A9s],[C45,A9s,A9q],[C44,A9q,A9o],[C43,A9o,A9m],[C42,A9m,A9k],[C41,A9k,A9i],[E5P],[A9i,E5P,A9h],[A9h,C40],[E5Q],[E5Q,C5E],[E5R],[C5E,E5R,A97],[A97,C5D],[C5D,E5S,A96],[E5T],[A96,E5T,A95],[C40,A95,A9g],[A9g,C4z],[E0s],[E0s,B8x],[E0t],[B8x,E0t,A6A],[A6A,B8w],[E0u],[E0u,B8z],[E0v],[B8z,E0v,A6C],[E0w],[B8y,E0w,A6B],[B8w,A6B,A59],[A59,B8v],[E0x],[B8v,E0x,A58],[C4z,A58,A9f],[A9f,C4y],[E0y],[E0y,B82],[E0z],[B82,E0z,A6F],[A6F,B81],[E01],[E01,B84],[E02],[B84,E02,A6H],[A6H,B83],[E03],[E03,B85],[B83,B85,A6G],[B81,A6G,A6E],[E04],[B80,E04,A6D],[C4y,A6D,A9e],[A9e,C4x],[E05],[E05,B88],[E06],[B88,E06,A6K],[A6K,B87],[E07],[E07,B9A],[E08],[B9A,E08,A6M],[A6M,B89],[E09],[B89,B9B,A6L],[B87,A6L,A6J],[A6J,B86],[E1A],[B86,E1A,A6I],[C4x,A6I,A9d],[A9d,C4w],[E1B],[E1C],[B9C,E1C,A6N],[C4w,A6N,A9c],[A9c,C4v],[E1D],[C4v,E1D,A9b],[A9b,C4u],[E1E],[E1E,B9D],[E1F],[B9D,E1F,A6O],[C4u,A6O,A9a],[A9a,C4t],[E1G],[E1G,B9E],[E1H],[B9E,E1H,A6P],[C4t,A6P,A9Z],[A9Z,C4s],[E1I],[E1I,B9H],[E1J],[E1J,B9J],[E1K],[B9J,E1K,A6T],[A6T,B9I],[B9H,B9I,A6S],[B9G,B9F],[E1L],[E1M],[E1N],[E1O],[E1O,B9R],[E1N,B9R,A6X],[A6X,B9Q],[B9Q,B9P],[E1M,B9P,A6W],[A6W,B9O],[B9O,B9N],[E1L,B9N,A6V],[A6V,B9M],[B9M,B9L],[E1P],[E1P,B9T],[E1Q],[B9T,E1Q,A6Z],[A6Z,B9S],[E1R],[B9S,E1R,A6Y],[B9L,A6Y,A6U],[A6U,B9K],[B9F,B9K,A6R],[E1S],[A6R,E1S,A6Q],[C4s,A6Q,A9Y],[A9Y,C4r],[E1T],[C4r,B9U,A9X],[A9X,D3C],[E1U],[D3C,B9V,B4i],[B4i,D3B],[E1V],[D3B,B9W,B4h],[B4h,D3A],[D3A,D29],[E1W],[E1W,B9X],[D29,B9X,R0],[R0,A4H],[B4g,A2o]]
end
end Go.Vab

namespace Go.Vab
open Go Go.Proofs
theorem F5X {G X:Prop} (f:Hd X→G:=by
 intro xX
 repeat' (first|refine stp (x:=?_)|(with_reducible refine I0 ?_ ?_)|(simp (decide:=true) only [F7J,snB,if_true,if_false]))
 exact xX.get) (x:X):G:=f ⟨x⟩
attribute [local irreducible] E9 Evs gW D9 E8 G5
section
variable {κ:Nat→Nat} {H:A3} {c xb:Nat} {s:Stt} {b:Pt} {a:Actn} {m:BitVec 8} {vt vp vs vi va vb wt wp:AV}
theorem F4B (x : Sx κ H c xb s b a m vt vp vs vi va vb wt wp) {Q : Ex × St → Prop} {env : Env} (g0 : env.get 0 = .ptr xb 0 [] G6)
  (tail:∀ (env':Env) (l:A3) (p3 p4 p5 p6:Nat),env'.get 0=.ptr xb 0 [] G6→env'.get 3=.ptr p3 0 [] K9→env'.get 4=.ptr p4 0 [] K8→env'.get 5=.ptr p5 0 [] L0→env'.get 6=.ptr p6 0 [] M7→Cel κ (H++l) p3 (B4d c)→Cel κ (H++l) p4 (B4e c)→Cel κ (H++l) p5 (B4f c)→Cel κ (H++l) p6 (F1H c)→wC Tryz.prog K7 A4H Q ⟨env',H++l⟩) :
  wC Tryz.prog K7 A2o Q ⟨env,H⟩:=by
 have sx:=x.blk
 have wb:=x.w.blk
 have sx0:=A9 x.st
 have wb0:=A9 x.w.cell
 have top:=x.w.top
 repeat' (first|((with_reducible refine I6 (a:=?_) ?_ ?_);rotate_left;(focus ((conv=>lhs;simp (disch:=omega) [g0,sx,wb,sx0,wb0]);done));try dsimp only)|((with_reducible refine S6 ?_ ?_);(focus (simp (disch:=omega) [g0,sx,wb,sx0,wb0];done)))|((with_reducible refine T4 ?_ ?_);(focus (simp (disch:=omega) [g0,sx,wb,sx0,wb0];done));try dsimp only)|((with_reducible refine T5 ?_ ?_);(focus (simp (disch:=omega) [g0,sx,wb,sx0,wb0];done));try dsimp only)|((with_reducible refine V3 ?_ ?_);(focus (simp (disch:=omega) [g0,sx,wb,sx0,wb0] <;> omega)))|((with_reducible refine V4 ?_ ?_);(focus (simp (disch:=omega) [g0,sx,wb,sx0,wb0] <;> omega)))|((with_reducible refine B6 ?_ ?_);(focus (simp (disch:=omega) [g0,sx,wb,sx0,wb0];done)))|(with_reducible refine I0 ?_ ?_)|(with_reducible refine W0 ?_)|((with_reducible refine o9 ?_ ?_);(focus (simp (disch:=omega) [g0,sx,wb,sx0,wb0];done));try dsimp only)|((with_reducible refine s5 ?_ ?_);(focus (simp (disch:=omega) [g0,sx,wb,sx0,wb0];done));try dsimp only)|((with_reducible refine s6 ?_ ?_);(focus (simp (disch:=omega) [g0,sx,wb,sx0,wb0];done));try dsimp only)|(with_reducible refine A5 (c63 x.w.lt) ?_;try dsimp only)|(with_reducible refine SpecQ.step (c63 x.w.lt) ?_;rintro _ rfl;try dsimp only)|(with_reducible refine B6 (c63 x.w.lt) ?_)|(with_reducible refine A5 (c64 x.w.lt) ?_;try dsimp only)|(with_reducible refine SpecQ.step (c64 x.w.lt) ?_;rintro _ rfl;try dsimp only)|(with_reducible refine B6 (c64 x.w.lt) ?_)|(with_reducible refine A5 (c65 x.w.lt) ?_;try dsimp only)|(with_reducible refine SpecQ.step (c65 x.w.lt) ?_;rintro _ rfl;try dsimp only)|(with_reducible refine B6 (c65 x.w.lt) ?_)|(with_reducible refine A5 (c94 x.w.lt) ?_;try dsimp only)|(with_reducible refine SpecQ.step (c94 x.w.lt) ?_;rintro _ rfl;try dsimp only)|(with_reducible refine B6 (c94 x.w.lt) ?_)|(with_reducible refine A5 (c63 (x.lt _)) ?_;try dsimp only)|(with_reducible refine SpecQ.step (c63 (x.lt _)) ?_;rintro _ rfl;try dsimp only)|(with_reducible refine B6 (c63 (x.lt _)) ?_)|(with_reducible refine A5 (c64 (x.lt _)) ?_;try dsimp only)|(with_reducible refine SpecQ.step (c64 (x.lt _)) ?_;rintro _ rfl;try dsimp only)|(with_reducible refine B6 (c64 (x.lt _)) ?_)|(with_reducible refine A5 (c65 (x.lt _)) ?_;try dsimp only)|(with_reducible refine SpecQ.step (c65 (x.lt _)) ?_;rintro _ rfl;try dsimp only)|(with_reducible refine B6 (c65 (x.lt _)) ?_)|(with_reducible refine A5 (c94 (x.lt _)) ?_;try dsimp only)|(with_reducible refine SpecQ.step (c94 (x.lt _)) ?_;rintro _ rfl;try dsimp only)|(with_reducible refine B6 (c94 (x.lt _)) ?_)|((with_reducible refine S3 (args':=?_) ?_ ?_);rotate_left;(focus ((conv=>lhs;simp (disch:=omega) [g0,sx,wb,sx0,wb0]);done)))|((with_reducible refine v7 (args':=?_) ?_ ?_);rotate_left;(focus ((conv=>lhs;simp (disch:=omega) [g0,sx,wb,sx0,wb0]);done)))|((with_reducible refine A0L (args':=?_) ?_ ?_);rotate_left;(focus ((conv=>lhs;simp (disch:=omega) [g0,sx,wb,sx0,wb0]);done)))|((with_reducible refine s7 (g:=?_) (caps:=?_) ?_ ?_);rotate_left;rotate_left;(focus ((conv=>lhs;simp (disch:=omega) [g0,sx,wb,sx0,wb0]);done)))|((with_reducible refine A0J (g:=?_) (caps:=?_) ?_ ?_);rotate_left;rotate_left;(focus ((conv=>lhs;simp (disch:=omega) [g0,sx,wb,sx0,wb0]);done)))|((with_reducible refine A0M ?_ ?_);(focus (simp (disch:=omega) [g0,sx,wb,sx0,wb0];done)))|(simp (decide:=true) only [F7K,J7,J4,I3,J3,I2,J2,J1,if_true,if_false,J5,J6])|(with_reducible refine V0 _ _ _ ?_)|((with_reducible refine a6 (b:=?_) ?_ ?_ ?_);rotate_left;(focus ((conv=>lhs;simp (disch:=omega) [g0,sx,wb,sx0,wb0]);done));all_goals ((intro hb;try simp only [Bool.not_true,Bool.not_false] at hb);try simp only [hb]))|((with_reducible refine P8 (b:=?_) ?_ ?_ ?_);rotate_left;(focus ((conv=>lhs;simp (disch:=omega) [g0,sx,wb,sx0,wb0]);done));all_goals ((intro hb;try simp only [Bool.not_true,Bool.not_false] at hb);try simp only [hb]))|((with_reducible refine W8 (b:=?_) ?_ ?_ ?_);rotate_left;(focus ((conv=>lhs;simp (disch:=omega) [g0,sx,wb,sx0,wb0]);done));all_goals ((intro hb;try simp only [Bool.not_true,Bool.not_false] at hb);try simp only [hb]))|(with_reducible refine P4 ?_ ?_ <;> (intro hb;try simp only [Bool.not_true,Bool.not_false] at hb) <;> try simp only [hb])|(with_reducible refine U8 ?_ ?_ <;> (intro hb;try simp only [Bool.not_true,Bool.not_false] at hb) <;> try simp only [hb])|(with_reducible refine Y8 ?_ ?_ <;> (intro hb;try simp only [Bool.not_true,Bool.not_false] at hb) <;> try simp only [hb])|(with_reducible refine A0V ?_ ?_ <;> (intro hb;try simp only [Bool.not_true,Bool.not_false] at hb) <;> try simp only [hb]))
 all_goals first
  | exact tail _ _ H.length (H.length+1) (H.length+2) (H.length+3) (by simp [g0]) (by simp) (by simp) (by simp) (by simp) (Cel.new0 top (by rfl)) (Cel.new (k:=1) top (by rfl)) (Cel.new (k:=2) top (by rfl)) (Cel.new (k:=3) top (by rfl))
  | exact tail _ _ H.length (H.length+1) (H.length+3) (H.length+2) (by simp [g0]) (by simp) (by simp) (by simp) (by simp) (Cel.new0 top (by rfl)) (Cel.new (k:=1) top (by rfl)) (Cel.new (k:=3) top (by rfl)) (Cel.new (k:=2) top (by rfl))
  | exact tail _ _ H.length (H.length+2) (H.length+1) (H.length+3) (by simp [g0]) (by simp) (by simp) (by simp) (by simp) (Cel.new0 top (by rfl)) (Cel.new (k:=2) top (by rfl)) (Cel.new (k:=1) top (by rfl)) (Cel.new (k:=3) top (by rfl))
  | exact tail _ _ H.length (H.length+2) (H.length+3) (H.length+1) (by simp [g0]) (by simp) (by simp) (by simp) (by simp) (Cel.new0 top (by rfl)) (Cel.new (k:=2) top (by rfl)) (Cel.new (k:=3) top (by rfl)) (Cel.new (k:=1) top (by rfl))
  | exact tail _ _ H.length (H.length+3) (H.length+1) (H.length+2) (by simp [g0]) (by simp) (by simp) (by simp) (by simp) (Cel.new0 top (by rfl)) (Cel.new (k:=3) top (by rfl)) (Cel.new (k:=1) top (by rfl)) (Cel.new (k:=2) top (by rfl))
  | exact tail _ _ H.length (H.length+3) (H.length+2) (H.length+1) (by simp [g0]) (by simp) (by simp) (by simp) (by simp) (Cel.new0 top (by rfl)) (Cel.new (k:=3) top (by rfl)) (Cel.new (k:=2) top (by rfl)) (Cel.new (k:=1) top (by rfl))
  | exact tail _ _ (H.length+1) H.length (H.length+2) (H.length+3) (by simp [g0]) (by simp) (by simp) (by simp) (by simp) (Cel.new (k:=1) top (by rfl)) (Cel.new0 top (by rfl)) (Cel.new (k:=2) top (by rfl)) (Cel.new (k:=3) top (by rfl))
  | exact tail _ _ (H.length+1) H.length (H.length+3) (H.length+2) (by simp [g0]) (by simp) (by simp) (by simp) (by simp) (Cel.new (k:=1) top (by rfl)) (Cel.new0 top (by rfl)) (Cel.new (k:=3) top (by rfl)) (Cel.new (k:=2) top (by rfl))
  | exact tail _ _ (H.length+1) (H.length+2) H.length (H.length+3) (by simp [g0]) (by simp) (by simp) (by simp) (by simp) (Cel.new (k:=1) top (by rfl)) (Cel.new (k:=2) top (by rfl)) (Cel.new0 top (by rfl)) (Cel.new (k:=3) top (by rfl))
  | exact tail _ _ (H.length+1) (H.length+2) (H.length+3) H.length (by simp [g0]) (by simp) (by simp) (by simp) (by simp) (Cel.new (k:=1) top (by rfl)) (Cel.new (k:=2) top (by rfl)) (Cel.new (k:=3) top (by rfl)) (Cel.new0 top (by rfl))
  | exact tail _ _ (H.length+1) (H.length+3) H.length (H.length+2) (by simp [g0]) (by simp) (by simp) (by simp) (by simp) (Cel.new (k:=1) top (by rfl)) (Cel.new (k:=3) top (by rfl)) (Cel.new0 top (by rfl)) (Cel.new (k:=2) top (by rfl))
  | exact tail _ _ (H.length+1) (H.length+3) (H.length+2) H.length (by simp [g0]) (by simp) (by simp) (by simp) (by simp) (Cel.new (k:=1) top (by rfl)) (Cel.new (k:=3) top (by rfl)) (Cel.new (k:=2) top (by rfl)) (Cel.new0 top (by rfl))
  | exact tail _ _ (H.length+2) H.length (H.length+1) (H.length+3) (by simp [g0]) (by simp) (by simp) (by simp) (by simp) (Cel.new (k:=2) top (by rfl)) (Cel.new0 top (by rfl)) (Cel.new (k:=1) top (by rfl)) (Cel.new (k:=3) top (by rfl))
  | exact tail _ _ (H.length+2) H.length (H.length+3) (H.length+1) (by simp [g0]) (by simp) (by simp) (by simp) (by simp) (Cel.new (k:=2) top (by rfl)) (Cel.new0 top (by rfl)) (Cel.new (k:=3) top (by rfl)) (Cel.new (k:=1) top (by rfl))
  | exact tail _ _ (H.length+2) (H.length+1) H.length (H.length+3) (by simp [g0]) (by simp) (by simp) (by simp) (by simp) (Cel.new (k:=2) top (by rfl)) (Cel.new (k:=1) top (by rfl)) (Cel.new0 top (by rfl)) (Cel.new (k:=3) top (by rfl))
  | exact tail _ _ (H.length+2) (H.length+1) (H.length+3) H.length (by simp [g0]) (by simp) (by simp) (by simp) (by simp) (Cel.new (k:=2) top (by rfl)) (Cel.new (k:=1) top (by rfl)) (Cel.new (k:=3) top (by rfl)) (Cel.new0 top (by rfl))
  | exact tail _ _ (H.length+2) (H.length+3) H.length (H.length+1) (by simp [g0]) (by simp) (by simp) (by simp) (by simp) (Cel.new (k:=2) top (by rfl)) (Cel.new (k:=3) top (by rfl)) (Cel.new0 top (by rfl)) (Cel.new (k:=1) top (by rfl))
  | exact tail _ _ (H.length+2) (H.length+3) (H.length+1) H.length (by simp [g0]) (by simp) (by simp) (by simp) (by simp) (Cel.new (k:=2) top (by rfl)) (Cel.new (k:=3) top (by rfl)) (Cel.new (k:=1) top (by rfl)) (Cel.new0 top (by rfl))
  | exact tail _ _ (H.length+3) H.length (H.length+1) (H.length+2) (by simp [g0]) (by simp) (by simp) (by simp) (by simp) (Cel.new (k:=3) top (by rfl)) (Cel.new0 top (by rfl)) (Cel.new (k:=1) top (by rfl)) (Cel.new (k:=2) top (by rfl))
  | exact tail _ _ (H.length+3) H.length (H.length+2) (H.length+1) (by simp [g0]) (by simp) (by simp) (by simp) (by simp) (Cel.new (k:=3) top (by rfl)) (Cel.new0 top (by rfl)) (Cel.new (k:=2) top (by rfl)) (Cel.new (k:=1) top (by rfl))
  | exact tail _ _ (H.length+3) (H.length+1) H.length (H.length+2) (by simp [g0]) (by simp) (by simp) (by simp) (by simp) (Cel.new (k:=3) top (by rfl)) (Cel.new (k:=1) top (by rfl)) (Cel.new0 top (by rfl)) (Cel.new (k:=2) top (by rfl))
  | exact tail _ _ (H.length+3) (H.length+1) (H.length+2) H.length (by simp [g0]) (by simp) (by simp) (by simp) (by simp) (Cel.new (k:=3) top (by rfl)) (Cel.new (k:=1) top (by rfl)) (Cel.new (k:=2) top (by rfl)) (Cel.new0 top (by rfl))
  | exact tail _ _ (H.length+3) (H.length+2) H.length (H.length+1) (by simp [g0]) (by simp) (by simp) (by simp) (by simp) (Cel.new (k:=3) top (by rfl)) (Cel.new (k:=2) top (by rfl)) (Cel.new0 top (by rfl)) (Cel.new (k:=1) top (by rfl))
  | exact tail _ _ (H.length+3) (H.length+2) (H.length+1) H.length (by simp [g0]) (by simp) (by simp) (by simp) (by simp) (Cel.new (k:=3) top (by rfl)) (Cel.new (k:=2) top (by rfl)) (Cel.new (k:=1) top (by rfl)) (Cel.new0 top (by rfl))
structure Mx (κ:Nat→Nat) (G:A3) (c xb:Nat) (s:Stt) (b:Pt) (a:Actn) (m:BitVec 8) (vt vp vs vi va vb wt wp:AV) (pe:Pt) (env:Env) (p3 p4 p5 p6 p7:Nat):Prop where
 x:Sx κ G c xb s b a m vt vp vs vi va vb wt wp
 c3:Cel κ G p3 (B4d c)
 c4:Cel κ G p4 (B4e c)
 c5:Cel κ G p5 (B4f c)
 c6:Cel κ G p6 (F1H c)
 c7:Cel κ G p7 (pt pe)
 e0:env.get 0=.ptr xb 0 [] G6
 e3:env.get 3=.ptr p3 0 [] K9
 e4:env.get 4=.ptr p4 0 [] K8
 e5:env.get 5=.ptr p5 0 [] L0
 e6:env.get 6=.ptr p6 0 [] M7
 e7:env.get 7=.ptr p7 0 [] (.arr 32 (.int .u8))
theorem Mx.next {G:A3} {pe:Pt} {env:Env} {p3 p4 p5 p6 p7:Nat} {κ':Nat→Nat} {G':A3} {s':Stt} {ut up us ui ua ub:AV} (d:Mx κ G c xb s b a m vt vp vs vi va vb wt wp pe env p3 p4 p5 p6 p7) (fr:Fr κ G κ' G') (w':Wk κ' G' c s' ut up us ui ua ub):Mx κ' G' c xb s' b a m ut up us ui ua ub wt wp pe env p3 p4 p5 p6 p7 :=
 ⟨d.x.next fr w',d.c3.next fr,d.c4.next fr,d.c5.next fr,d.c6.next fr,d.c7.next fr,d.e0,d.e3,d.e4,d.e5,d.e6,d.e7⟩
theorem F4Y (x : Sx κ H c xb s b a m vt vp vs vi va vb wt wp) {Q : Ex × St → Prop} {env : Env} (g0 : env.get 0 = .ptr xb 0 [] G6)
  (tail:∀ (κ':Nat→Nat) (env':Env) (G:A3) (p3 p4 p5 p6 p7:Nat),Mx κ' G c xb s b a m vt vp vs vi va vb wt wp a.e env' p3 p4 p5 p6 p7→Fr κ H κ' G→κ' p7=6→H.length≤p7→p5≠p7→wC Tryz.prog K7 R0 Q ⟨env',G⟩):wC Tryz.prog K7 A2o Q ⟨env,H⟩:=by
 refine F4B x g0 fun env' l p3 p4 p5 p6 e0 e3 e4 e5 e6 c3 c4 c5 c6=>?_
 have x1:=x.app l
 have sx0:=A9 x1.st
 have hl:(H++l).length=H.length+l.length:=List.length_append
 obtain ⟨G,hG⟩:∃ G,G=H++l:=⟨_,rfl⟩
 have f0:Fr κ H κ G:=by rw [hG];exact (Fr.refl _ _).app
 rw [←hG] at x1 c3 c4 c5 c6 sx0 hl ⊢
 have ff:=aI e0 sx0
 refine F5X (x:=?_)
 clear ff
 refine tail (scr κ G.length) _ _ p3 p4 p5 p6 G.length ⟨x1.scr _,c3.scr _,c4.scr _,c5.scr _,c6.scr _,Cel.own _ _ _,by simp [e0],by simp [e3],by simp [e4],by simp [e5],by simp [e6],by simp⟩ ?_ (A5C _ _) (by omega) (by have:=c5.lt;omega)
 have:=Fr.scr (κ:=κ) (H:=G) (l:=[⟨pt a.e,0,.own⟩]) (n:=G.length) (Fr.refl _ _) (Nat.le_refl _)
 exact f0.trans this
end
end Go.Vab

namespace Go.Vab
open Go Go.Proofs
theorem A4t {G X:Prop} (f:Hd X→G:=by
 intro xX
 repeat' (first|refine stp (x:=?_)|(with_reducible refine I0 ?_ ?_)|(with_reducible refine A5 (c79 x) ?_;try dsimp only)|(with_reducible refine SpecQ.step (c79 x) ?_;rintro _ rfl;try dsimp only)|(with_reducible refine B6 (c79 x) ?_)|(simp (decide:=true) only [U6,snB,if_true,if_false])|(with_reducible refine X9 _ _ _ ?_)|(with_reducible refine W9 _ _ _ ?_)|(with_reducible refine U7 _ _ _ ?_)|(with_reducible refine X0 _ _ _ ?_)|(with_reducible refine X3 _ _ _ ?_)|(with_reducible refine X4 _ _ _ ?_)|(with_reducible refine X5 _ _ _ ?_)|(with_reducible refine X6 _ _ _ ?_)|(with_reducible refine X7 _ _ _ ?_)|(with_reducible refine V0 _ _ _ ?_))
 exact xX.get) (x:X):G:=f ⟨x⟩
theorem T2 {G X:Prop} (f:Hd X→G:=by
 intro xX
 repeat' (first|refine stp (x:=?_)|(with_reducible refine I0 ?_ ?_)|(simp (decide:=true) only [U6,snB,if_true,if_false])|(with_reducible refine X9 _ _ _ ?_)|(with_reducible refine W9 _ _ _ ?_)|(with_reducible refine U7 _ _ _ ?_)|(with_reducible refine X0 _ _ _ ?_)|(with_reducible refine X3 _ _ _ ?_)|(with_reducible refine X4 _ _ _ ?_)|(with_reducible refine X5 _ _ _ ?_)|(with_reducible refine X6 _ _ _ ?_)|(with_reducible refine X7 _ _ _ ?_)|(with_reducible refine V0 _ _ _ ?_))
 exact xX.get) (x:X):G:=f ⟨x⟩
theorem A4u {G X:Prop} (f:Hd X→G:=by
 intro xX
 repeat' (first|refine stp (x:=?_)|(with_reducible refine I0 ?_ ?_)|(with_reducible refine A5 (c99 x.w hs) ?_;try dsimp only)|(with_reducible refine SpecQ.step (c99 x.w hs) ?_;rintro _ rfl;try dsimp only)|(with_reducible refine B6 (c99 x.w hs) ?_)|(simp (decide:=true) only [U6,snB,if_true,if_false])|(with_reducible refine X9 _ _ _ ?_)|(with_reducible refine W9 _ _ _ ?_)|(with_reducible refine U7 _ _ _ ?_)|(with_reducible refine X0 _ _ _ ?_)|(with_reducible refine X3 _ _ _ ?_)|(with_reducible refine X4 _ _ _ ?_)|(with_reducible refine X5 _ _ _ ?_)|(with_reducible refine X6 _ _ _ ?_)|(with_reducible refine X7 _ _ _ ?_)|(with_reducible refine V0 _ _ _ ?_))
 exact xX.get) (x:X):G:=f ⟨x⟩
theorem D8M {G X:Prop} (f:Hd X→G:=by
 intro xX
 repeat' (first|refine stp (x:=?_)|(with_reducible refine I0 ?_ ?_)|(with_reducible refine A5 (D6d) ?_;try dsimp only)|(with_reducible refine SpecQ.step (D6d) ?_;rintro _ rfl;try dsimp only)|(with_reducible refine B6 (D6d) ?_)|(simp (decide:=true) only [U6,snB,if_true,if_false])|(with_reducible refine X9 _ _ _ ?_)|(with_reducible refine W9 _ _ _ ?_)|(with_reducible refine U7 _ _ _ ?_)|(with_reducible refine X0 _ _ _ ?_)|(with_reducible refine X3 _ _ _ ?_)|(with_reducible refine X4 _ _ _ ?_)|(with_reducible refine X5 _ _ _ ?_)|(with_reducible refine X6 _ _ _ ?_)|(with_reducible refine X7 _ _ _ ?_)|(with_reducible refine V0 _ _ _ ?_))
 exact xX.get) (x:X):G:=f ⟨x⟩
theorem A4v {G X:Prop} (f:Hd X→G:=by
 intro xX
 repeat' (first|refine stp (x:=?_)|(with_reducible refine I0 ?_ ?_)|(with_reducible refine A5 (D6e) ?_;try dsimp only)|(with_reducible refine SpecQ.step (D6e) ?_;rintro _ rfl;try dsimp only)|(with_reducible refine B6 (D6e) ?_)|(simp (decide:=true) only [U6,snB,if_true,if_false])|(with_reducible refine X9 _ _ _ ?_)|(with_reducible refine W9 _ _ _ ?_)|(with_reducible refine U7 _ _ _ ?_)|(with_reducible refine X0 _ _ _ ?_)|(with_reducible refine X3 _ _ _ ?_)|(with_reducible refine X4 _ _ _ ?_)|(with_reducible refine X5 _ _ _ ?_)|(with_reducible refine X6 _ _ _ ?_)|(with_reducible refine X7 _ _ _ ?_)|(with_reducible refine V0 _ _ _ ?_))
 exact xX.get) (x:X):G:=f ⟨x⟩
theorem D8N {G X:Prop} (f:Hd X→G:=by
 intro xX
 repeat' (first|refine stp (x:=?_)|(with_reducible refine I0 ?_ ?_)|(with_reducible refine A5 (D6f) ?_;try dsimp only)|(with_reducible refine SpecQ.step (D6f) ?_;rintro _ rfl;try dsimp only)|(with_reducible refine B6 (D6f) ?_)|(simp (decide:=true) only [U6,snB,if_true,if_false])|(with_reducible refine X9 _ _ _ ?_)|(with_reducible refine W9 _ _ _ ?_)|(with_reducible refine U7 _ _ _ ?_)|(with_reducible refine X0 _ _ _ ?_)|(with_reducible refine X3 _ _ _ ?_)|(with_reducible refine X4 _ _ _ ?_)|(with_reducible refine X5 _ _ _ ?_)|(with_reducible refine X6 _ _ _ ?_)|(with_reducible refine X7 _ _ _ ?_)|(with_reducible refine V0 _ _ _ ?_))
 exact xX.get) (x:X):G:=f ⟨x⟩
theorem D8O {G X:Prop} (f:Hd X→G:=by
 intro xX
 repeat' (first|refine stp (x:=?_)|(with_reducible refine I0 ?_ ?_)|(with_reducible refine A5 (c67 (d1.x.w.app _)) ?_;try dsimp only)|(with_reducible refine SpecQ.step (c67 (d1.x.w.app _)) ?_;rintro _ rfl;try dsimp only)|(with_reducible refine B6 (c67 (d1.x.w.app _)) ?_)|(simp (decide:=true) only [U6,snB,if_true,if_false])|(with_reducible refine X9 _ _ _ ?_)|(with_reducible refine W9 _ _ _ ?_)|(with_reducible refine U7 _ _ _ ?_)|(with_reducible refine X0 _ _ _ ?_)|(with_reducible refine X3 _ _ _ ?_)|(with_reducible refine X4 _ _ _ ?_)|(with_reducible refine X5 _ _ _ ?_)|(with_reducible refine X6 _ _ _ ?_)|(with_reducible refine X7 _ _ _ ?_)|(with_reducible refine V0 _ _ _ ?_))
 exact xX.get) (x:X):G:=f ⟨x⟩
attribute [local irreducible] E9 Evs gW D9 E8 G5
section
variable {κ κ0:Nat→Nat} {G H0:A3} {c xb:Nat} {s:Stt} {b:Pt} {a:Actn} {m:BitVec 8} {vt vp vs vi va vb wt wp:AV} {env:Env} {p3 p4 p5 p6 p7:Nat} {K:AV × A3→Prop}
theorem F9E (d:Mx κ G c xb s b a m vt vp vs vi va vb wt wp a.e env p3 p4 p5 p6 p7) (f0:Fr κ0 H0 κ G) (hs:Srt s) (ms:E4 s=true) (ok:Okd s b a) (hmm:m=D0 s b) (hk:a.kind=4#8) (hK:∀ r,DoR κ0 H0 c (madeP s b a) r→K r):wC Tryz.prog K7 R0 (K4 (fun s=>(bnd (some (s.env.get 2)) fun v=>bnd (some []) fun vs=>some (v::vs))) K) ⟨env,G⟩:=by
 have sx0:=A9 d.x.st
 have wb0:=A9 d.x.w.cell
 have wc0:=d.x.w.cells
 have d0:=d
 obtain ⟨x,c3,c4,c5,c6,c7,e0,e3,e4,e5,e6,e7⟩:=d
 subst hmm
 have hm:=ok.mem (by simp [hk])
 have hl:=x.w.fs.len
 have b3:=c3.blk0
 have go:¬ (D0 s b=2#8∧v8 s=1∧1 < s.seats.length)→madeP s b a=.ok { s with seats:=del fS s.seats b }:=fun h=>by simp [madeP,hk,hm,h]
 by_cases h2:D0 s b=2#8
 ·by_cases h3:v8 s=1
  ·by_cases h4:1 < s.seats.length
   ·have hmd:madeP s b a=.error 192:=by simp [madeP,hk,h2,h3,h4]
    have ff:=aI8 sx0 wb0 hk h2 h3 h4 hl e0
    refine A4t (x:=?_)
    clear ff
    exact hK _ (.err hmd f0)
   ·have hmd:=go fun h=>h4 h.2.2
    have ff:=E3 sx0 wb0 hk h2 h3 h4 hl b3 e0 e3
    refine A4t (x:=?_)
    clear ff
    refine SpecQ.step (c77 x.w hs) ?_
    rintro _ ⟨y,κ',H',q,rfl,_,w2,fr⟩
    have ff:=hk
    refine T2 (x:=?_)
    clear ff
    exact hK _ (.ok hmd (f0.trans fr) w2)
  ·have hmd:=go fun h=>h3 h.2.1
   have ff:=aI9 sx0 wb0 hk h2 h3 hl b3 e0 e3
   refine A4t (x:=?_)
   clear ff
   refine SpecQ.step (c77 x.w hs) ?_
   rintro _ ⟨y,κ',H',q,rfl,_,w2,fr⟩
   have ff:=hk
   refine T2 (x:=?_)
   clear ff
   exact hK _ (.ok hmd (f0.trans fr) w2)
 ·have hmd:=go fun h=>h2 h.1
  have ff:=aI8 sx0 wb0 hk h2 hl b3 e0 e3
  refine A4t (x:=?_)
  clear ff
  refine SpecQ.step (c77 x.w hs) ?_
  rintro _ ⟨y,κ',H',q,rfl,_,w2,fr⟩
  have ff:=hk
  refine T2 (x:=?_)
  clear ff
  exact hK _ (.ok hmd (f0.trans fr) w2)
theorem F9F (d:Mx κ G c xb s b a m vt vp vs vi va vb wt wp a.e env p3 p4 p5 p6 p7) (f0:Fr κ0 H0 κ G) (hs:Srt s) (ms:E4 s=true) (ok:Okd s b a) (hmm:m=D0 s b) (hk:a.kind=6#8) (hK:∀ r,DoR κ0 H0 c (madeP s b a) r→K r):wC Tryz.prog K7 R0 (K4 (fun s=>(bnd (some (s.env.get 2)) fun v=>bnd (some []) fun vs=>some (v::vs))) K) ⟨env,G⟩:=by
 have sx0:=A9 d.x.st
 have wb0:=A9 d.x.w.cell
 have wc0:=d.x.w.cells
 have d0:=d
 obtain ⟨x,c3,c4,c5,c6,c7,e0,e3,e4,e5,e6,e7⟩:=d
 subst hmm
 have hm:=ok.mem (by simp [hk])
 have b4:=c4.blk0
 have b7:=c7.blk0
 cases h1:A8 fI s.invites a.e
 ·have hmd:madeP s b a=.error 7:=by simp [madeP,hk,hm,S0 h1]
  have ff:=aI8 sx0 hk h1 b4 b7 e0 e4 e7
  refine A4u (x:=?_)
  clear ff
  exact hK _ (.err hmd f0)
 obtain ⟨hlow,he,hf⟩:=U4 hs.i h1
 obtain ⟨pb,pv,pp,bb,i1,i2,i3,i4⟩:=x.w.wi.idxE hlow
 have i20:blkAt G pb pv=some bb:=by simpa using i2 []
 obtain ⟨z,hz⟩:∃ z,z=s.invites[low fI s.invites a.e]:=⟨_,rfl⟩
 rw [←hz] at hf i3 i4
 by_cases h2:D0 s b=2#8
 ·have hmd:madeP s b a=.ok { s with invites:=del fI s.invites a.e }:=by simp [madeP,hk,h2,hf]
  have ff:=E3 sx0 wb0 hk h1 h2 b4 b7 e0 e4 e7
  refine A4u (x:=?_)
  clear ff
  refine SpecQ.step (c68 x.w hs) ?_
  rintro _ ⟨y,κ',H',q,rfl,_,w2,fr⟩
  have ff:=hk
  refine T2 (x:=?_)
  clear ff
  exact hK _ (.ok hmd (f0.trans fr) w2)
 by_cases h3:z.by_.e=b
 ·have hmd:madeP s b a=.ok { s with invites:=del fI s.invites a.e }:=by simp [madeP,hk,hm,h2,hf,h3]
  have ff:=N9 sx0 wb0 hk h1 h2 h3 i1 i20 i4 b4 b7 e0 e4 e7
  refine A4u (x:=?_)
  clear ff
  refine SpecQ.step (c68 x.w hs) ?_
  rintro _ ⟨y,κ',H',q,rfl,_,w2,fr⟩
  have ff:=hk
  refine T2 (x:=?_)
  clear ff
  exact hK _ (.ok hmd (f0.trans fr) w2)
 ·have hmd:madeP s b a=.error 191:=by simp [madeP,hk,hm,h2,hf,h3]
  have ff:=N9 sx0 wb0 hk h1 h2 h3 i1 i20 i4 b4 b7 e0 e4 e7
  refine A4u (x:=?_)
  clear ff
  exact hK _ (.err hmd f0)
theorem F9G (d:Mx κ G c xb s b a m vt vp vs vi va vb wt wp a.e env p3 p4 p5 p6 p7) (f0:Fr κ0 H0 κ G) (hs:Srt s) (ms:E4 s=true) (ok:Okd s b a) (hk:a.kind=8#8) (hK:∀ r,DoR κ0 H0 c (madeP s b a) r→K r):wC Tryz.prog K7 R0 (K4 (fun s=>(bnd (some (s.env.get 2)) fun v=>bnd (some []) fun vs=>some (v::vs))) K) ⟨env,G⟩:=by
 have sx0:=A9 d.x.st
 have wb0:=A9 d.x.w.cell
 have wc0:=d.x.w.cells
 have d0:=d
 obtain ⟨x,c3,c4,c5,c6,c7,e0,e3,e4,e5,e6,e7⟩:=d
 have b4:=c4.blk0
 have ff:=aI5 sx0 hk b4 e0 e4
 refine T2 (x:=?_)
 clear ff
 refine SpecQ.step (c68 x.w hs) ?_
 rintro _ ⟨y,κ',H',q,rfl,_,w2,fr⟩
 cases h1:A8 fI s.invites b
 ·have hmd:madeP s b a=.error 7:=by simp [madeP,hk,h1]
  have ff:=aI hk h1
  refine D8M (x:=?_)
  clear ff
  exact hK _ (.err hmd (f0.trans fr))
 ·have hmd:madeP s b a=.ok { s with invites:=del fI s.invites b }:=by simp [madeP,hk,h1]
  have ff:=aI hk h1
  refine D8M (x:=?_)
  clear ff
  exact hK _ (.ok hmd (f0.trans fr) w2)
theorem F8N (d:Mx κ G c xb s b a m vt vp vs vi va vb wt wp a.e env p3 p4 p5 p6 p7) (f0:Fr κ0 H0 κ G) (hs:Srt s) (ms:E4 s=true) (ok:Okd s b a) (hk:a.kind=13#8) (hK:∀ r,DoR κ0 H0 c (madeP s b a) r→K r):wC Tryz.prog K7 R0 (K4 (fun s=>(bnd (some (s.env.get 2)) fun v=>bnd (some []) fun vs=>some (v::vs))) K) ⟨env,G⟩:=by
 have sx0:=A9 d.x.st
 have wb0:=A9 d.x.w.cell
 have wc0:=d.x.w.cells
 have d0:=d
 obtain ⟨x,c3,c4,c5,c6,c7,e0,e3,e4,e5,e6,e7⟩:=d
 have hm:=ok.adm (by simp [hk])
 have b5:=c5.blk0
 have b6:=c6.blk0
 have b7:=c7.blk0
 have ff:=aI9 sx0 hk b5 b6 b7 e0 e5 e6 e7
 refine T2 (x:=?_)
 clear ff
 refine SpecQ.step (c69 x.w hs) ?_
 rintro _ ⟨y,κ',H',q,rfl,_,w2,fr⟩
 cases h1:A8 fA s.asks a.e
 ·have hmd:madeP s b a=.error 7:=by simp [madeP,hk,hm,h1]
  have ff:=aI hk h1
  refine A4v (x:=?_)
  clear ff
  exact hK _ (.err hmd (f0.trans fr))
 ·have hmd:madeP s b a=.ok { s with asks:=del fA s.asks a.e }:=by simp [madeP,hk,hm,h1]
  have ff:=aI hk h1
  refine A4v (x:=?_)
  clear ff
  exact hK _ (.ok hmd (f0.trans fr) w2)
theorem F8O (d:Mx κ G c xb s b a m vt vp vs vi va vb wt wp a.e env p3 p4 p5 p6 p7) (f0:Fr κ0 H0 κ G) (hs:Srt s) (ms:E4 s=true) (ok:Okd s b a) (hk:a.kind=15#8) (hK:∀ r,DoR κ0 H0 c (madeP s b a) r→K r):wC Tryz.prog K7 R0 (K4 (fun s=>(bnd (some (s.env.get 2)) fun v=>bnd (some []) fun vs=>some (v::vs))) K) ⟨env,G⟩:=by
 have sx0:=A9 d.x.st
 have wb0:=A9 d.x.w.cell
 have wc0:=d.x.w.cells
 have d0:=d
 obtain ⟨x,c3,c4,c5,c6,c7,e0,e3,e4,e5,e6,e7⟩:=d
 have hm:=ok.adm (by simp [hk])
 have b5:=c5.blk0
 have b6:=c6.blk0
 have b7:=c7.blk0
 have ff:=aI9 sx0 hk b5 b6 b7 e0 e5 e6 e7
 refine T2 (x:=?_)
 clear ff
 refine SpecQ.step (G2W x.w hs) ?_
 rintro _ ⟨y,κ',H',q,rfl,_,w2,fr⟩
 cases h1:A8 fB s.bans a.e
 ·have hmd:madeP s b a=.error 7:=by simp [madeP,hk,hm,h1]
  have ff:=aI hk h1
  refine D8N (x:=?_)
  clear ff
  exact hK _ (.err hmd (f0.trans fr))
 ·have hmd:madeP s b a=.ok { s with bans:=del fB s.bans a.e }:=by simp [madeP,hk,hm,h1]
  have ff:=aI hk h1
  refine D8N (x:=?_)
  clear ff
  exact hK _ (.ok hmd (f0.trans fr) w2)
theorem F8P (d:Mx κ G c xb s b a m vt vp vs vi va vb wt wp a.e env p3 p4 p5 p6 p7) (f0:Fr κ0 H0 κ G) (hs:Srt s) (ms:E4 s=true) (ok:Okd s b a) (h6:κ p7=6) (hp7:H0.length≤p7) (h57:p5≠p7) (hk:a.kind=11#8) (hK:∀ r,DoR κ0 H0 c (madeP s b a) r→K r):wC Tryz.prog K7 R0 (K4 (fun s=>(bnd (some (s.env.get 2)) fun v=>bnd (some []) fun vs=>some (v::vs))) K) ⟨env,G⟩:=by
 have sx0:=A9 d.x.st
 have wb0:=A9 d.x.w.cell
 have wc0:=d.x.w.cells
 have d0:=d
 obtain ⟨x,c3,c4,c5,c6,c7,e0,e3,e4,e5,e6,e7⟩:=d
 have b7:=c7.blk0
 obtain ⟨G1,hG1⟩:∃ G1,G.set p7 ⟨pt b,0,.own⟩=G1:=⟨_,rfl⟩
 have ff:=aI6 sx0 hk b7 hG1 e0 e7
 refine T2 (x:=?_)
 clear ff
 have x1:=x.wr h6 ⟨pt b,0,.own⟩
 have c51:=c5.wr (q:=p7) (fun q=>h57 q.symm) ⟨pt b,0,.own⟩
 have c71:=c7.set (pt b)
 have f1:=f0.wr hp7 ⟨pt b,0,.own⟩
 rw [hG1] at x1 c51 c71 f1
 have b51:=c51.blk0
 have b71:=c71.blk0
 have ff:=aI5 b51 b71 hk e5 e7
 refine T2 (x:=?_)
 clear ff
 refine SpecQ.step (c69 x1.w hs) ?_
 rintro _ ⟨y,κ',H',q,rfl,_,w2,fr⟩
 cases h1:A8 fA s.asks b
 ·have hmd:madeP s b a=.error 7:=by simp [madeP,hk,h1]
  have ff:=aI hk h1
  refine A4v (x:=?_)
  clear ff
  exact hK _ (.err hmd (f1.trans fr))
 ·have hmd:madeP s b a=.ok { s with asks:=del fA s.asks b }:=by simp [madeP,hk,h1]
  have ff:=aI hk h1
  refine A4v (x:=?_)
  clear ff
  exact hK _ (.ok hmd (f1.trans fr) w2)
theorem F8Q (d:Mx κ G c xb s b a m vt vp vs vi va vb wt wp a.e env p3 p4 p5 p6 p7) (f0:Fr κ0 H0 κ G) (hs:Srt s) (ms:E4 s=true) (ok:Okd s b a) (hk:a.kind=16#8) (hK:∀ r,DoR κ0 H0 c (madeP s b a) r→K r):wC Tryz.prog K7 R0 (K4 (fun s=>(bnd (some (s.env.get 2)) fun v=>bnd (some []) fun vs=>some (v::vs))) K) ⟨env,G⟩:=by
 have sx0:=A9 d.x.st
 have wb0:=A9 d.x.w.cell
 have wc0:=d.x.w.cells
 have d0:=d
 obtain ⟨x,c3,c4,c5,c6,c7,e0,e3,e4,e5,e6,e7⟩:=d
 have hm:=ok.tit (by simp [hk])
 have wt0:=x.ra.cells
 have hmd:madeP s b a=.ok { s with title:=a.title }:=by simp [madeP,hk];simpa using hm
 obtain ⟨w2,fr⟩:=x.w.put (s':={ s with title:=a.title }) ⟨x.ra.t,x.ot⟩ x.w.fp x.kt x.w.kp x.w.fs x.w.fi x.w.fa x.w.fb
 obtain ⟨G1,hG1⟩:∃ G1,G.set c ⟨C1 s.version s.key s.acc wt vp vs vi va vb,0,.own⟩=G1:=⟨_,rfl⟩
 have ff:=aI7 sx0 wb0 wc0 wt0 hk hG1 e0
 refine T2 (x:=?_)
 clear ff
 rw [←hG1]
 exact hK _ (.ok hmd (f0.trans fr) w2)
theorem F8R (d:Mx κ G c xb s b a m vt vp vs vi va vb wt wp a.e env p3 p4 p5 p6 p7) (f0:Fr κ0 H0 κ G) (hs:Srt s) (ms:E4 s=true) (ok:Okd s b a) (hk:a.kind=17#8) (hK:∀ r,DoR κ0 H0 c (madeP s b a) r→K r):wC Tryz.prog K7 R0 (K4 (fun s=>(bnd (some (s.env.get 2)) fun v=>bnd (some []) fun vs=>some (v::vs))) K) ⟨env,G⟩:=by
 have sx0:=A9 d.x.st
 have wb0:=A9 d.x.w.cell
 have wc0:=d.x.w.cells
 have d0:=d
 obtain ⟨x,c3,c4,c5,c6,c7,e0,e3,e4,e5,e6,e7⟩:=d
 have hm:=ok.adm (by simp [hk])
 have hmd:madeP s b a=.ok { s with acc:=a.acc }:=by simp [madeP,hk,hm]
 obtain ⟨w2,fr⟩:=x.w.put (s':={ s with acc:=a.acc }) x.w.ft x.w.fp x.w.kt x.w.kp x.w.fs x.w.fi x.w.fa x.w.fb
 obtain ⟨G1,hG1⟩:∃ G1,G.set c ⟨C1 s.version s.key a.acc vt vp vs vi va vb,0,.own⟩=G1:=⟨_,rfl⟩
 have ff:=aI6 sx0 wb0 wc0 hk hG1 e0
 refine T2 (x:=?_)
 clear ff
 rw [←hG1]
 exact hK _ (.ok hmd (f0.trans fr) w2)
theorem F8S (d:Mx κ G c xb s b a m vt vp vs vi va vb wt wp a.e env p3 p4 p5 p6 p7) (f0:Fr κ0 H0 κ G) (hs:Srt s) (ms:E4 s=true) (ok:Okd s b a) (hk:a.kind=18#8) (hK:∀ r,DoR κ0 H0 c (madeP s b a) r→K r):wC Tryz.prog K7 R0 (K4 (fun s=>(bnd (some (s.env.get 2)) fun v=>bnd (some []) fun vs=>some (v::vs))) K) ⟨env,G⟩:=by
 have sx0:=A9 d.x.st
 have wb0:=A9 d.x.w.cell
 have wc0:=d.x.w.cells
 have d0:=d
 obtain ⟨x,c3,c4,c5,c6,c7,e0,e3,e4,e5,e6,e7⟩:=d
 have hm:=ok.adm (by simp [hk])
 have wt0:=x.ra.cells
 have hmd:madeP s b a=.ok { s with pass:=a.pass }:=by simp [madeP,hk,hm]
 obtain ⟨w2,fr⟩:=x.w.put (s':={ s with pass:=a.pass }) x.w.ft ⟨x.ra.p,x.op⟩ x.w.kt x.kp x.w.fs x.w.fi x.w.fa x.w.fb
 obtain ⟨G1,hG1⟩:∃ G1,G.set c ⟨C1 s.version s.key s.acc vt wp vs vi va vb,0,.own⟩=G1:=⟨_,rfl⟩
 have ff:=aI7 sx0 wb0 wc0 wt0 hk hG1 e0
 refine T2 (x:=?_)
 clear ff
 rw [←hG1]
 exact hK _ (.ok hmd (f0.trans fr) w2)
theorem F8T (d:Mx κ G c xb s b a m vt vp vs vi va vb wt wp a.e env p3 p4 p5 p6 p7) (f0:Fr κ0 H0 κ G) (hs:Srt s) (ms:E4 s=true) (ok:Okd s b a) (hk:a.kind=12#8) (hK:∀ r,DoR κ0 H0 c (madeP s b a) r→K r):wC Tryz.prog K7 R0 (K4 (fun s=>(bnd (some (s.env.get 2)) fun v=>bnd (some []) fun vs=>some (v::vs))) K) ⟨env,G⟩:=by
 have sx0:=A9 d.x.st
 have wb0:=A9 d.x.w.cell
 have wc0:=d.x.w.cells
 have d0:=d
 obtain ⟨x,c3,c4,c5,c6,c7,e0,e3,e4,e5,e6,e7⟩:=d
 have hA:=ok.add (by simp [hk])
 have b5:=c5.blk0
 have b7:=c7.blk0
 have hl:=(A0f ms).1
 have ff:=aI7 sx0 hk b5 b7 e0 e5 e7
 refine T2 (x:=?_)
 clear ff
 refine SpecQ.step (c69 x.w hs) ?_
 rintro _ ⟨y,κ',H',q,rfl,hy,w2,fr⟩
 have d1:=d0.next fr w2
 have b31:=d1.c3.blk
 have sx1:=d1.x.blk
 cases h1:A8 fA s.asks a.e
 ·have hmd:madeP s b a=.error 7:=by simp [madeP,hk,hA,S0 h1]
  have ff:=aI hk h1
  refine T2 (x:=?_)
  clear ff
  exact hK _ (.err hmd (f0.trans (fr.trans (Fr.refl _ _).app)))
 obtain ⟨_,_,hf⟩:=U4 hs.a h1
 have hyf:=hy _ hf
 rw [←hyf] at hf
 by_cases h3:40≤s.seats.length
 ·have hmd:madeP s b a=.error 9:=by simp [madeP,hk,hA,hf,h3]
  have ff:=aI5 hk h1 h3 b31 e3
  refine D8O (x:=?_)
  clear ff
  exact hK _ (.err hmd (f0.trans (fr.trans (Fr.refl _ _).app)))
 have hmd:madeP s b a=.ok { s with asks:=del fA s.asks a.e,seats:=ins fS s.seats ⟨y.who,a.role,a.version⟩ }:=by simp [madeP,hk,hA,hf,h3]
 have ff:=aI7 sx1 hk h1 h3 b31 e0 e3
 refine D8O (x:=?_)
 clear ff
 refine SpecQ.step (c70 (d1.x.app _) (hs.a' _) (by simp only;omega)) ?_
 rintro _ ⟨κ3,H3,q3,rfl,w3,fr3⟩
 have ff:=hk
 refine T2 (x:=?_)
 clear ff
 exact hK _ (.ok hmd (f0.trans (fr.trans fr3.app)) w3)
end
end Go.Vab

namespace Go.Vab
open Go Go.Proofs
theorem B6q {G X:Prop} (f:Hd X→G:=by
 intro xX
 repeat' (first|refine stp (x:=?_)|(with_reducible refine I0 ?_ ?_)|(simp (decide:=true) only [U6,snB,if_true,if_false]))
 exact xX.get) (x:X):G:=f ⟨x⟩
theorem R8 {G X:Prop} (f:Hd X→G:=by
 intro xX
 repeat' (first|refine stp (x:=?_)|(with_reducible refine I0 ?_ ?_)|(simp (decide:=true) only [U6,snB,if_true,if_false])|(with_reducible refine X9 _ _ _ ?_)|(with_reducible refine W9 _ _ _ ?_)|(with_reducible refine U7 _ _ _ ?_)|(with_reducible refine X0 _ _ _ ?_)|(with_reducible refine X3 _ _ _ ?_)|(with_reducible refine X4 _ _ _ ?_)|(with_reducible refine X5 _ _ _ ?_)|(with_reducible refine X6 _ _ _ ?_)|(with_reducible refine X7 _ _ _ ?_)|(with_reducible refine V0 _ _ _ ?_))
 exact xX.get) (x:X):G:=f ⟨x⟩
theorem D8P {G X:Prop} (f:Hd X→G:=by
 intro xX
 repeat' (first|refine stp (x:=?_)|(with_reducible refine I0 ?_ ?_)|(with_reducible refine A5 (c67 (d1.x.w.app _)) ?_;try dsimp only)|(with_reducible refine SpecQ.step (c67 (d1.x.w.app _)) ?_;rintro _ rfl;try dsimp only)|(with_reducible refine B6 (c67 (d1.x.w.app _)) ?_)|(simp (decide:=true) only [U6,snB,if_true,if_false])|(with_reducible refine X9 _ _ _ ?_)|(with_reducible refine W9 _ _ _ ?_)|(with_reducible refine U7 _ _ _ ?_)|(with_reducible refine X0 _ _ _ ?_)|(with_reducible refine X3 _ _ _ ?_)|(with_reducible refine X4 _ _ _ ?_)|(with_reducible refine X5 _ _ _ ?_)|(with_reducible refine X6 _ _ _ ?_)|(with_reducible refine X7 _ _ _ ?_)|(with_reducible refine V0 _ _ _ ?_))
 exact xX.get) (x:X):G:=f ⟨x⟩
theorem D8Q {G X:Prop} (f:Hd X→G:=by
 intro xX
 repeat' (first|refine stp (x:=?_)|(with_reducible refine I0 ?_ ?_)|(with_reducible refine A5 (c67 d4.x.w) ?_;try dsimp only)|(with_reducible refine SpecQ.step (c67 d4.x.w) ?_;rintro _ rfl;try dsimp only)|(with_reducible refine B6 (c67 d4.x.w) ?_)|(simp (decide:=true) only [U6,snB,if_true,if_false])|(with_reducible refine X9 _ _ _ ?_)|(with_reducible refine W9 _ _ _ ?_)|(with_reducible refine U7 _ _ _ ?_)|(with_reducible refine X0 _ _ _ ?_)|(with_reducible refine X3 _ _ _ ?_)|(with_reducible refine X4 _ _ _ ?_)|(with_reducible refine X5 _ _ _ ?_)|(with_reducible refine X6 _ _ _ ?_)|(with_reducible refine X7 _ _ _ ?_)|(with_reducible refine V0 _ _ _ ?_))
 exact xX.get) (x:X):G:=f ⟨x⟩
theorem F5Y {G X:Prop} (f:Hd X→G:=by
 intro xX
 repeat' (first|refine stp (x:=?_)|(with_reducible refine I0 ?_ ?_)|(with_reducible refine A5 (c95 x.w hs) ?_;try dsimp only)|(with_reducible refine SpecQ.step (c95 x.w hs) ?_;rintro _ rfl;try dsimp only)|(with_reducible refine B6 (c95 x.w hs) ?_)|(simp (decide:=true) only [U6,snB,if_true,if_false])|(with_reducible refine X9 _ _ _ ?_)|(with_reducible refine W9 _ _ _ ?_)|(with_reducible refine U7 _ _ _ ?_)|(with_reducible refine X0 _ _ _ ?_)|(with_reducible refine X3 _ _ _ ?_)|(with_reducible refine X4 _ _ _ ?_)|(with_reducible refine X5 _ _ _ ?_)|(with_reducible refine X6 _ _ _ ?_)|(with_reducible refine X7 _ _ _ ?_)|(with_reducible refine V0 _ _ _ ?_))
 exact xX.get) (x:X):G:=f ⟨x⟩
theorem F5Z {G X:Prop} (f:Hd X→G:=by
 intro xX
 repeat' (first|refine stp (x:=?_)|(with_reducible refine I0 ?_ ?_)|(with_reducible refine A5 (c95 x.w hs) ?_;try dsimp only)|(with_reducible refine SpecQ.step (c95 x.w hs) ?_;rintro _ rfl;try dsimp only)|(with_reducible refine B6 (c95 x.w hs) ?_)|(with_reducible refine A5 (c73 x hs hme) ?_;try dsimp only)|(with_reducible refine SpecQ.step (c73 x hs hme) ?_;rintro _ rfl;try dsimp only)|(with_reducible refine B6 (c73 x hs hme) ?_)|(simp (decide:=true) only [U6,snB,if_true,if_false])|(with_reducible refine X9 _ _ _ ?_)|(with_reducible refine W9 _ _ _ ?_)|(with_reducible refine U7 _ _ _ ?_)|(with_reducible refine X0 _ _ _ ?_)|(with_reducible refine X3 _ _ _ ?_)|(with_reducible refine X4 _ _ _ ?_)|(with_reducible refine X5 _ _ _ ?_)|(with_reducible refine X6 _ _ _ ?_)|(with_reducible refine X7 _ _ _ ?_)|(with_reducible refine V0 _ _ _ ?_))
 exact xX.get) (x:X):G:=f ⟨x⟩
theorem A1t {G X:Prop} (f:Hd X→G:=by
 intro xX
 repeat' (first|refine stp (x:=?_)|(with_reducible refine I0 ?_ ?_)|(with_reducible refine A5 (D6W (d3.x.w.app _)) ?_;try dsimp only)|(with_reducible refine SpecQ.step (D6W (d3.x.w.app _)) ?_;rintro _ rfl;try dsimp only)|(with_reducible refine B6 (D6W (d3.x.w.app _)) ?_)|(simp (decide:=true) only [U6,snB,if_true,if_false])|(with_reducible refine X9 _ _ _ ?_)|(with_reducible refine W9 _ _ _ ?_)|(with_reducible refine U7 _ _ _ ?_)|(with_reducible refine X0 _ _ _ ?_)|(with_reducible refine X3 _ _ _ ?_)|(with_reducible refine X4 _ _ _ ?_)|(with_reducible refine X5 _ _ _ ?_)|(with_reducible refine X6 _ _ _ ?_)|(with_reducible refine X7 _ _ _ ?_)|(with_reducible refine V0 _ _ _ ?_))
 exact xX.get) (x:X):G:=f ⟨x⟩
attribute [local irreducible] E9 Evs gW D9 E8 G5
theorem Srt.s' {s:Stt} (h:Srt s) (e:Pt):Srt { s with seats:=del fS s.seats e }:=⟨B7U h.s,h.i,h.a,h.b⟩
section
variable {κ κ0:Nat→Nat} {G H0:A3} {c xb:Nat} {s:Stt} {b:Pt} {a:Actn} {m:BitVec 8} {vt vp vs vi va vb wt wp:AV} {pe:Pt} {env:Env} {p3 p4 p5 p6 p7:Nat} {K:AV × A3→Prop}
theorem Mx.scr (d:Mx κ G c xb s b a m vt vp vs vi va vb wt wp pe env p3 p4 p5 p6 p7) (v:Blk):Mx (Go.Vab.scr κ G.length) (G++[v]) c xb s b a m vt vp vs vi va vb wt wp pe env p3 p4 p5 p6 p7 :=
 ⟨d.x.scr v,d.c3.scr v,d.c4.scr v,d.c5.scr v,d.c6.scr v,d.c7.scr v,d.e0,d.e3,d.e4,d.e5,d.e6,d.e7⟩
theorem Mx.wr (d:Mx κ G c xb s b a m vt vp vs vi va vb wt wp pe env p3 p4 p5 p6 p7) {p:Nat} (hp:κ p=6) (h3:p≠p3) (h4:p≠p4) (h5:p≠p5) (h6:p≠p6) (h7:p≠p7) (v:Blk):Mx κ (G.set p v) c xb s b a m vt vp vs vi va vb wt wp pe env p3 p4 p5 p6 p7 :=
 ⟨d.x.wr hp v,d.c3.wr h3 v,d.c4.wr h4 v,d.c5.wr h5 v,d.c6.wr h6 v,d.c7.wr h7 v,d.e0,d.e3,d.e4,d.e5,d.e6,d.e7⟩
theorem F9H (d:Mx κ G c xb s b a m vt vp vs vi va vb wt wp a.e env p3 p4 p5 p6 p7) (f0:Fr κ0 H0 κ G) (hs:Srt s) (ms:E4 s=true) (ok:Okd s b a) (hk:a.kind=7#8) (hK:∀ r,DoR κ0 H0 c (madeP s b a) r→K r):wC Tryz.prog K7 R0 (K4 (fun s=>(bnd (some (s.env.get 2)) fun v=>bnd (some []) fun vs=>some (v::vs))) K) ⟨env,G⟩:=by
 have sx0:=A9 d.x.st
 have wb0:=A9 d.x.w.cell
 have wc0:=d.x.w.cells
 have d0:=d
 obtain ⟨x,c3,c4,c5,c6,c7,e0,e3,e4,e5,e6,e7⟩:=d
 have b4:=c4.blk0
 have b4l:=c4.blk
 have sxl:=d0.x.blk
 have hl:=(A0f ms).1
 have ff:=aI5 sx0 hk b4 e0 e4
 refine B6q (x:=?_)
 clear ff
 refine U7 _ _ _ ?_
 repeat' (first|((with_reducible refine I6 (a:=?_) ?_ ?_);rotate_left;(focus ((conv=>lhs;simp (disch:=omega) [sx0,sxl,hk,b4,b4l,e0,e4]);done));try dsimp only)|((with_reducible refine S6 ?_ ?_);(focus (simp (disch:=omega) [sx0,sxl,hk,b4,b4l,e0,e4];done)))|((with_reducible refine T4 ?_ ?_);(focus (simp (disch:=omega) [sx0,sxl,hk,b4,b4l,e0,e4];done));try dsimp only)|((with_reducible refine T5 ?_ ?_);(focus (simp (disch:=omega) [sx0,sxl,hk,b4,b4l,e0,e4];done));try dsimp only)|((with_reducible refine V3 ?_ ?_);(focus (simp (disch:=omega) [sx0,sxl,hk,b4,b4l,e0,e4] <;> omega)))|((with_reducible refine V4 ?_ ?_);(focus (simp (disch:=omega) [sx0,sxl,hk,b4,b4l,e0,e4] <;> omega)))|((with_reducible refine B6 ?_ ?_);(focus (simp (disch:=omega) [sx0,sxl,hk,b4,b4l,e0,e4];done)))|(with_reducible refine I0 ?_ ?_)|(with_reducible refine W0 ?_)|((with_reducible refine o9 ?_ ?_);(focus (simp (disch:=omega) [sx0,sxl,hk,b4,b4l,e0,e4];done));try dsimp only)|((with_reducible refine s5 ?_ ?_);(focus (simp (disch:=omega) [sx0,sxl,hk,b4,b4l,e0,e4];done));try dsimp only)|((with_reducible refine s6 ?_ ?_);(focus (simp (disch:=omega) [sx0,sxl,hk,b4,b4l,e0,e4];done));try dsimp only)|((with_reducible refine S3 (args':=?_) ?_ ?_);rotate_left;(focus ((conv=>lhs;simp (disch:=omega) [sx0,sxl,hk,b4,b4l,e0,e4]);done)))|((with_reducible refine v7 (args':=?_) ?_ ?_);rotate_left;(focus ((conv=>lhs;simp (disch:=omega) [sx0,sxl,hk,b4,b4l,e0,e4]);done)))|((with_reducible refine A0L (args':=?_) ?_ ?_);rotate_left;(focus ((conv=>lhs;simp (disch:=omega) [sx0,sxl,hk,b4,b4l,e0,e4]);done)))|((with_reducible refine s7 (g:=?_) (caps:=?_) ?_ ?_);rotate_left;rotate_left;(focus ((conv=>lhs;simp (disch:=omega) [sx0,sxl,hk,b4,b4l,e0,e4]);done)))|((with_reducible refine A0J (g:=?_) (caps:=?_) ?_ ?_);rotate_left;rotate_left;(focus ((conv=>lhs;simp (disch:=omega) [sx0,sxl,hk,b4,b4l,e0,e4]);done)))|((with_reducible refine A0M ?_ ?_);(focus (simp (disch:=omega) [sx0,sxl,hk,b4,b4l,e0,e4];done)))|(simp (decide:=true) only [U6,J7,J4,I3,J3,I2,J2,J1,if_true,if_false,J5,J6])|((with_reducible refine a6 (b:=?_) ?_ ?_ ?_);rotate_left;(focus ((conv=>lhs;simp (disch:=omega) [sx0,sxl,hk,b4,b4l,e0,e4]);done));all_goals ((intro hb;try simp only [Bool.not_true,Bool.not_false] at hb);try simp only [hb]))|((with_reducible refine P8 (b:=?_) ?_ ?_ ?_);rotate_left;(focus ((conv=>lhs;simp (disch:=omega) [sx0,sxl,hk,b4,b4l,e0,e4]);done));all_goals ((intro hb;try simp only [Bool.not_true,Bool.not_false] at hb);try simp only [hb]))|((with_reducible refine W8 (b:=?_) ?_ ?_ ?_);rotate_left;(focus ((conv=>lhs;simp (disch:=omega) [sx0,sxl,hk,b4,b4l,e0,e4]);done));all_goals ((intro hb;try simp only [Bool.not_true,Bool.not_false] at hb);try simp only [hb]))|(with_reducible refine P4 ?_ ?_ <;> (intro hb;try simp only [Bool.not_true,Bool.not_false] at hb) <;> try simp only [hb])|(with_reducible refine U8 ?_ ?_ <;> (intro hb;try simp only [Bool.not_true,Bool.not_false] at hb) <;> try simp only [hb])|(with_reducible refine Y8 ?_ ?_ <;> (intro hb;try simp only [Bool.not_true,Bool.not_false] at hb) <;> try simp only [hb])|(with_reducible refine A0V ?_ ?_ <;> (intro hb;try simp only [Bool.not_true,Bool.not_false] at hb) <;> try simp only [hb]))
 ·refine SpecQ.step (c68 x.w hs) ?_
  rintro _ ⟨y,κ',H',q,rfl,hy,w2,fr⟩
  have d1:=d0.next fr w2
  have b31:=d1.c3.blk
  have b41:=d1.c4.blk
  have sx1:=d1.x.blk
  have ff:=aI3 b41 sx1 e4
  refine B6q (x:=?_)
  clear ff
  cases h1:A8 fI s.invites b
  ·have hmd:madeP s b a=.error 7:=by simp [madeP,hk,S0 h1]
   have ff:=aI4 b31 sx1 hk h1
   refine R8 (x:=?_)
   clear ff
   exact hK _ (.err hmd (f0.trans (fr.trans (Fr.refl _ _).app)))
  obtain ⟨_,_,hf⟩:=U4 hs.i h1
  have hyf:=hy _ hf
  rw [←hyf] at hf
  by_cases h3:40≤s.seats.length
  ·have hmd:madeP s b a=.error 9:=by simp [madeP,hk,hf,h3]
   have ff:=aI6 b31 sx1 hk h1 h3 e3
   refine D8P (x:=?_)
   clear ff
   exact hK _ (.err hmd (f0.trans (fr.trans (Fr.refl _ _).app)))
  have hmd:madeP s b a=.ok { s with invites:=del fI s.invites b,seats:=ins fS s.seats ⟨y.who,y.role,a.version⟩ }:=by simp [madeP,hk,hf,h3]
  have ff:=aI7 b31 sx1 hk h1 h3 e0 e3
  refine D8P (x:=?_)
  clear ff
  refine SpecQ.step (c70 (d1.x.app _) (hs.i' _) (by simp only;omega)) ?_
  rintro _ ⟨κ3,H3,q3,rfl,w3,fr3⟩
  have ff:=hk
  refine R8 (x:=?_)
  clear ff
  exact hK _ (.ok hmd (f0.trans (fr.trans fr3.app)) w3)
 ·have d2:=d0.scr ⟨B7 ⟨ci0,0#8,ci0⟩,0,.own⟩
  refine SpecQ.step (c68 d2.x.w hs) ?_
  rintro _ ⟨y,κ',H',q,rfl,hy,w2,fr⟩
  have d3:=d2.next fr w2
  have c10:=(Cel.own κ G (B7 ⟨ci0,0#8,ci0⟩)).next fr
  have b10:=c10.blk0
  have k10:κ' G.length=6:=by rw [fr.old _ (by simp),A5C]
  obtain ⟨H2,hH2⟩:∃ H2,H'.set G.length ⟨B7 y,0,.own⟩=H2:=⟨_,rfl⟩
  have ff:=aI b10 hH2
  refine B6q (x:=?_)
  clear ff
  have n3:=c3.lt
  have n4:=c4.lt
  have n5:=c5.lt
  have n6:=c6.lt
  have n7:=c7.lt
  have d4:=d3.wr k10 (by omega) (by omega) (by omega) (by omega) (by omega) ⟨B7 y,0,.own⟩
  have c11:=c10.set (B7 y)
  have f4:Fr κ G κ' (H'.set G.length ⟨B7 y,0,.own⟩):=(Fr.scr fr (Nat.le_refl _)).wr (Nat.le_refl _) _
  rw [hH2] at d4 c11 f4
  have b31:=d4.c3.blk0
  have sx1:=A9 d4.x.st
  have b11:=c11.blk0
  cases h1:A8 fI s.invites b
  ·have hmd:madeP s b a=.error 7:=by simp [madeP,hk,S0 h1]
   have ff:=aI5 b31 sx1 b11 hk h1
   refine R8 (x:=?_)
   clear ff
   exact hK _ (.err hmd (f0.trans f4))
  obtain ⟨_,_,hf⟩:=U4 hs.i h1
  have hyf:=hy _ hf
  rw [←hyf] at hf
  by_cases h3:40≤s.seats.length
  ·have hmd:madeP s b a=.error 9:=by simp [madeP,hk,hf,h3]
   have ff:=aI7 b31 sx1 b11 hk h1 h3 e3
   refine D8Q (x:=?_)
   clear ff
   exact hK _ (.err hmd (f0.trans f4))
  have hmd:madeP s b a=.ok { s with invites:=del fI s.invites b,seats:=ins fS s.seats ⟨y.who,y.role,a.version⟩ }:=by simp [madeP,hk,hf,h3]
  have ff:=aI8 b31 sx1 b11 hk h1 h3 e0 e3
  refine D8Q (x:=?_)
  clear ff
  refine SpecQ.step (c70 d4.x (hs.i' _) (by simp only;omega)) ?_
  rintro _ ⟨κ3,H3,q3,rfl,w3,fr3⟩
  have ff:=hk
  refine R8 (x:=?_)
  clear ff
  exact hK _ (.ok hmd (f0.trans (f4.trans fr3)) w3)
theorem F8U (d:Mx κ G c xb s b a m vt vp vs vi va vb wt wp a.e env p3 p4 p5 p6 p7) (f0:Fr κ0 H0 κ G) (hs:Srt s) (ms:E4 s=true) (ok:Okd s b a) (hk:a.kind=14#8) (hK:∀ r,DoR κ0 H0 c (madeP s b a) r→K r):wC Tryz.prog K7 R0 (K4 (fun s=>(bnd (some (s.env.get 2)) fun v=>bnd (some []) fun vs=>some (v::vs))) K) ⟨env,G⟩:=by
 have sx0:=A9 d.x.st
 have wb0:=A9 d.x.w.cell
 have wc0:=d.x.w.cells
 have d0:=d
 obtain ⟨x,c3,c4,c5,c6,c7,e0,e3,e4,e5,e6,e7⟩:=d
 have hm:=ok.adm (by simp [hk])
 have hme:=D8s ms (b:=b) (by rw [hm];decide)
 have b3:=c3.blk
 have b60:=c6.blk0
 have b7:=c7.blk
 have b70:=c7.blk0
 have hl:=(A0f ms).2.2.2
 by_cases hb:a.e=b
 ·have hmd:madeP s b a=.error 195:=by simp [madeP,hk,hm,hb]
  have ff:=aI6 sx0 hk hb b70 e0 e7
  refine R8 (x:=?_)
  clear ff
  exact hK _ (.err hmd f0)
 cases h1:A8 fB s.bans a.e
 rotate_left
 ·have hmd:madeP s b a=.error 8:=by simp [madeP,hk,hm,hb,h1]
  have ff:=aI9 sx0 hk hb h1 b60 b70 e0 e6 e7
  refine F5Y (x:=?_)
  clear ff
  exact hK _ (.err hmd f0)
 have ff:=F8 sx0 hk hb h1 b3 b60 b7 b70 e0 e3 e6 e7
 refine F5Z (x:=?_)
 clear ff
 have d2:=d0.scr ⟨B2 ⟨ci0,I1 s b⟩,0,.own⟩
 refine SpecQ.step (c77 d2.x.w hs) ?_
 rintro _ ⟨y,κ1,H1,q1,rfl,hy,w1,fr1⟩
 have d1:=d2.next fr1 w1
 have c14:=(Cel.own κ G (B2 ⟨ci0,I1 s b⟩)).next fr1
 have k14:κ1 G.length=6:=by rw [fr1.old _ (by simp),A5C]
 have f1:Fr κ G κ1 H1:=Fr.scr fr1 (Nat.le_refl _)
 have n3:=c3.lt
 have n4:=c4.lt
 have n5:=c5.lt
 have n6:=c6.lt
 have n7:=c7.lt
 cases hS:A8 fS s.seats a.e
 rotate_left
 ·obtain ⟨_,_,hf⟩:=U4 hs.s hS
  have hyf:=hy _ hf
  rw [←hyf] at hf
  have hwho:P0 s a.e=some y.who:=by simp [P0,hf]
  obtain ⟨hI,hA,_⟩:=(apart ms a.e).1 hS
  have ff:=aI hk hS
  refine R8 (x:=?_)
  clear ff
  obtain ⟨H2,hH2⟩:∃ H2,H1.set G.length ⟨B2 ⟨y.who,I1 s b⟩,0,.own⟩=H2:=⟨_,rfl⟩
  have st14:∀ l v,(H1++l).set G.length v=H1.set G.length v++l:=fun l v=>g8 c14.1 l v
  have b14:=c14.blk
  have ff:=aI4 hk b14 st14 hH2
  refine R8 (x:=?_)
  clear ff
  have d3:=d1.wr k14 (by omega) (by omega) (by omega) (by omega) (by omega) ⟨B2 ⟨y.who,I1 s b⟩,0,.own⟩
  have c14n:=c14.set (B2 ⟨y.who,I1 s b⟩)
  have f3:=f1.wr (p:=G.length) (Nat.le_refl _) ⟨B2 ⟨y.who,I1 s b⟩,0,.own⟩
  rw [hH2] at d3 c14n f3
  have b62:=d3.c6.blk
  have b14n:=c14n.blk
  by_cases h40:40≤s.bans.length
  ·have hmd:madeP s b a=.error 9:=by simp [madeP,hk,hm,hb,h1,hwho,h40]
   have ff:=aI5 hk h40 b62 b14n e6
   refine A1t (x:=?_)
   clear ff
   exact hK _ (.err hmd (f0.trans (f3.trans (Fr.refl _ _).app)))
  have hmd:madeP s b a=.ok { s with seats:=del fS s.seats a.e,invites:=s.invites,asks:=s.asks,bans:=ins fB s.bans ⟨y.who,I1 s b⟩ }:=by simp [madeP,hk,hm,hb,h1,hwho,h40,A1O hI,A1O hA]
  have ff:=aI5 hk h40 b62 b14n e6
  refine A1t (x:=?_)
  clear ff
  refine SpecQ.step (D6a (x:=⟨y.who,I1 s b⟩) (d3.x.w.app _) (hs.s' _) (by simp only;omega)) ?_
  rintro _ ⟨_,κ9,H9,q9,rfl,w9,fr9⟩
  have ff:=hk
  refine R8 (x:=?_)
  clear ff
  exact hK _ (.ok hmd (f0.trans (f3.trans fr9.app)) w9)
 have b41:=d1.c4.blk
 have b71:=d1.c7.blk
 have ff:=aI6 hk hS b41 b71 e4 e7
 refine R8 (x:=?_)
 clear ff
 refine SpecQ.step (c68 (d1.x.w.app _) (hs.s' _)) ?_
 rintro _ ⟨y2,κ2,H2',q2,rfl,hy2,w2,fr2⟩
 have d12:=d1.next fr2.app w2
 have c142:=c14.next fr2.app
 have k142:κ2 G.length=6:=by rw [fr2.app.old _ c14.lt];exact k14
 have f2:Fr κ G κ2 H2':=f1.trans fr2.app
 cases hI:A8 fI s.invites a.e
 rotate_left
 ·obtain ⟨_,_,hf⟩:=U4 hs.i hI
  have hyf:=hy2 _ hf
  rw [←hyf] at hf
  have hwho:P0 s a.e=some y2.who:=by simp [P0,S0 hS,hf]
  obtain ⟨hA,_⟩:=(apart ms a.e).2.1 hI
  have ff:=aI hk hI
  refine R8 (x:=?_)
  clear ff
  obtain ⟨H2,hH2⟩:∃ H2,H2'.set G.length ⟨B2 ⟨y2.who,I1 s b⟩,0,.own⟩=H2:=⟨_,rfl⟩
  have st14:∀ l v,(H2'++l).set G.length v=H2'.set G.length v++l:=fun l v=>g8 c142.1 l v
  have b14:=c142.blk
  have ff:=aI4 hk b14 st14 hH2
  refine R8 (x:=?_)
  clear ff
  have d3:=d12.wr k142 (by omega) (by omega) (by omega) (by omega) (by omega) ⟨B2 ⟨y2.who,I1 s b⟩,0,.own⟩
  have c14n:=c142.set (B2 ⟨y2.who,I1 s b⟩)
  have f3:=f2.wr (p:=G.length) (Nat.le_refl _) ⟨B2 ⟨y2.who,I1 s b⟩,0,.own⟩
  rw [hH2] at d3 c14n f3
  have b62:=d3.c6.blk
  have b14n:=c14n.blk
  by_cases h40:40≤s.bans.length
  ·have hmd:madeP s b a=.error 9:=by simp [madeP,hk,hm,hb,h1,hwho,h40]
   have ff:=aI5 hk h40 b62 b14n e6
   refine A1t (x:=?_)
   clear ff
   exact hK _ (.err hmd (f0.trans (f3.trans (Fr.refl _ _).app)))
  have hmd:madeP s b a=.ok { s with seats:=del fS s.seats a.e,invites:=del fI s.invites a.e,asks:=s.asks,bans:=ins fB s.bans ⟨y2.who,I1 s b⟩ }:=by simp [madeP,hk,hm,hb,h1,hwho,h40,A1O hA]
  have ff:=aI5 hk h40 b62 b14n e6
  refine A1t (x:=?_)
  clear ff
  refine SpecQ.step (D6a (x:=⟨y2.who,I1 s b⟩) (d3.x.w.app _) ((hs.s' _).i' _) (by simp only;omega)) ?_
  rintro _ ⟨_,κ9,H9,q9,rfl,w9,fr9⟩
  have ff:=hk
  refine R8 (x:=?_)
  clear ff
  exact hK _ (.ok hmd (f0.trans (f3.trans fr9.app)) w9)
 have b52:=d12.c5.blk
 have b72:=d12.c7.blk
 have ff:=aI6 hk hI b52 b72 e5 e7
 refine R8 (x:=?_)
 clear ff
 refine SpecQ.step (c69 (d12.x.w.app _) ((hs.s' _).i' _)) ?_
 rintro _ ⟨y3,κ3,H3',q3,rfl,hy3,w3,fr3⟩
 have d13:=d12.next fr3.app w3
 have c143:=c142.next fr3.app
 have k143:κ3 G.length=6:=by rw [fr3.app.old _ c142.lt];exact k142
 have f4:Fr κ G κ3 H3':=f2.trans fr3.app
 cases hA:A8 fA s.asks a.e
 ·have hwho:P0 s a.e=none:=by simp [P0,S0 hS,S0 hI,S0 hA]
  have hmd:madeP s b a=.error 7:=by simp [madeP,hk,hm,hb,h1,hwho]
  have ff:=aI hk hA
  refine R8 (x:=?_)
  clear ff
  exact hK _ (.err hmd (f0.trans (f4.trans (Fr.refl _ _).app)))
 obtain ⟨_,_,hf⟩:=U4 hs.a hA
 have hyf:=hy3 _ hf
 rw [←hyf] at hf
 have hwho:P0 s a.e=some y3.who:=by simp [P0,S0 hS,S0 hI,hf]
 have ff:=aI hk hA
 refine R8 (x:=?_)
 clear ff
 obtain ⟨H2,hH2⟩:∃ H2,H3'.set G.length ⟨B2 ⟨y3.who,I1 s b⟩,0,.own⟩=H2:=⟨_,rfl⟩
 have st14:∀ l v,(H3'++l).set G.length v=H3'.set G.length v++l:=fun l v=>g8 c143.1 l v
 have b14:=c143.blk
 have ff:=aI4 hk b14 st14 hH2
 refine R8 (x:=?_)
 clear ff
 have d3:=d13.wr k143 (by omega) (by omega) (by omega) (by omega) (by omega) ⟨B2 ⟨y3.who,I1 s b⟩,0,.own⟩
 have c14n:=c143.set (B2 ⟨y3.who,I1 s b⟩)
 have f3:=f4.wr (p:=G.length) (Nat.le_refl _) ⟨B2 ⟨y3.who,I1 s b⟩,0,.own⟩
 rw [hH2] at d3 c14n f3
 have b62:=d3.c6.blk
 have b14n:=c14n.blk
 by_cases h40:40≤s.bans.length
 ·have hmd:madeP s b a=.error 9:=by simp [madeP,hk,hm,hb,h1,hwho,h40]
  have ff:=aI5 hk h40 b62 b14n e6
  refine A1t (x:=?_)
  clear ff
  exact hK _ (.err hmd (f0.trans (f3.trans (Fr.refl _ _).app)))
 have hmd:madeP s b a=.ok { s with seats:=del fS s.seats a.e,invites:=del fI s.invites a.e,asks:=del fA s.asks a.e,bans:=ins fB s.bans ⟨y3.who,I1 s b⟩ }:=by simp [madeP,hk,hm,hb,h1,hwho,h40]
 have ff:=aI5 hk h40 b62 b14n e6
 refine A1t (x:=?_)
 clear ff
 refine SpecQ.step (D6a (x:=⟨y3.who,I1 s b⟩) (d3.x.w.app _) (((hs.s' _).i' _).a' _) (by simp only;omega)) ?_
 rintro _ ⟨_,κ9,H9,q9,rfl,w9,fr9⟩
 have ff:=hk
 refine R8 (x:=?_)
 clear ff
 exact hK _ (.ok hmd (f0.trans (f3.trans fr9.app)) w9)
end
end Go.Vab

namespace Go.Vab
open Go Go.Proofs
theorem N3 {G X:Prop} (f:Hd X→G:=by
 intro xX
 repeat' (first|refine stp (x:=?_)|(with_reducible refine I0 ?_ ?_)|(simp (decide:=true) only [A0D,snB,if_true,if_false])|(with_reducible refine n9 _ _ _ ?_)|(with_reducible refine o0 _ _ _ ?_)|(with_reducible refine o6 _ _ _ ?_)|(with_reducible refine o7 _ _ _ ?_)|(with_reducible refine o8 _ _ _ ?_)|(with_reducible refine l9 _ _ _ ?_)|(with_reducible refine i6 _ _ _ ?_)|(with_reducible refine i7 _ _ _ ?_))
 exact xX.get) (x:X):G:=f ⟨x⟩
attribute [local irreducible] E9 Evs gW D9 E8 G5
section
variable {κ:Nat→Nat} {H:A3} {c xb:Nat} {s:Stt} {b:Pt} {a:Actn} {m:BitVec 8} {vt vp vs vi va vb wt wp:AV}
theorem c80 (x : Sx κ H c xb s b a m vt vp vs vi va vb wt wp) (hs : Srt s) (ms : E4 s = true) (ok : Okd s b a) (hmm : m = D0 s b)
  (hk:a.kind=4#8∨a.kind=6#8∨a.kind=7#8∨a.kind=8#8∨a.kind=11#8∨a.kind=12#8∨a.kind=13#8∨a.kind=14#8∨a.kind=15#8∨a.kind=16#8∨a.kind=17#8∨a.kind=18#8) :
  SpecQ Tryz.prog 80 [.ptr xb 0 [] G6] H (DoR κ H c (madeP s b a)):=by
 refine q80 fun env g0=>?_
 refine F4Y x g0 fun κ' env' G p3 p4 p5 p6 p7 d f0 h6 hp7 h57=>?_
 rcases hk with hk|hk|hk|hk|hk|hk|hk|hk|hk|hk|hk|hk
 ·exact F9E d f0 hs ms ok hmm hk fun r h=>h
 ·exact F9F d f0 hs ms ok hmm hk fun r h=>h
 ·exact F9H d f0 hs ms ok hk fun r h=>h
 ·exact F9G d f0 hs ms ok hk fun r h=>h
 ·exact F8P d f0 hs ms ok h6 hp7 h57 hk fun r h=>h
 ·exact F8T d f0 hs ms ok hk fun r h=>h
 ·exact F8N d f0 hs ms ok hk fun r h=>h
 ·exact F8U d f0 hs ms ok hk fun r h=>h
 ·exact F8O d f0 hs ms ok hk fun r h=>h
 ·exact F8Q d f0 hs ms ok hk fun r h=>h
 ·exact F8R d f0 hs ms ok hk fun r h=>h
 ·exact F8S d f0 hs ms ok hk fun r h=>h
theorem DoR.nat {κ:Nat→Nat} {H:A3} {c:Nat} {x:Except Nat Stt} {r:AV × A3} (h:DoR κ H c x r):∃ k,r.1=nat k∧(x=.error k∨∃ t,x=.ok t∧k=0):=by
 obtain ⟨κ',H',_,h⟩:=h
 cases x with
 | error k=>exact ⟨k,by rw [h],.inl rfl⟩
 | ok t=>exact ⟨0,by rw [h.1],.inr ⟨t,rfl,rfl⟩⟩
theorem c33 (x:Sx κ H c xb s b a m vt vp vs vi va vb wt wp) (hs:Srt s) (ms:E4 s=true) (ha:S8 a=true) (ok:Okd s b a) (hmm:m=D0 s b):SpecQ Tryz.prog 33 [.ptr xb 0 [] G6] H (DoR κ H c (madeP s b a)):=by
 refine q33 fun env g0=>?_
 refine F7I x g0 fun env' u p3 p4 p5 p6 p7 d=>?_
 rcases mayA_kind ha with hk|hk|hk|hk|hk|hk|hk|hk|hk|hk|hk|hk|hk|hk|hk|hk|hk|hk
 ·exact G2e d hs ms ok hk fun r h=>h.app
 ·exact G2d d hs ok hk fun r h=>h.app
 ·exact G2h d hs ms ok hk fun r h=>h.app
 ·have sx0:=A9 d.x.st
  have e0:=d.e0
  have ff:=aI3 sx0 hk e0
  refine N3 (x:=?_)
  clear ff
  refine SpecQ.step (c80 d.x hs ms ok hmm (by simp [hk])) ?_
  rintro ⟨v,H'⟩ hr
  obtain ⟨k,hv,_⟩:=hr.nat
  subst hv
  have ff:=hk
  refine N3 (x:=?_)
  clear ff
  exact hr.app
 ·exact G2g d hs ms ok hk fun r h=>h.app
 ·have sx0:=A9 d.x.st
  have e0:=d.e0
  have ff:=aI3 sx0 hk e0
  refine N3 (x:=?_)
  clear ff
  refine SpecQ.step (c80 d.x hs ms ok hmm (by simp [hk])) ?_
  rintro ⟨v,H'⟩ hr
  obtain ⟨k,hv,_⟩:=hr.nat
  subst hv
  have ff:=hk
  refine N3 (x:=?_)
  clear ff
  exact hr.app
 ·have sx0:=A9 d.x.st
  have e0:=d.e0
  have ff:=aI3 sx0 hk e0
  refine N3 (x:=?_)
  clear ff
  refine SpecQ.step (c80 d.x hs ms ok hmm (by simp [hk])) ?_
  rintro ⟨v,H'⟩ hr
  obtain ⟨k,hv,_⟩:=hr.nat
  subst hv
  have ff:=hk
  refine N3 (x:=?_)
  clear ff
  exact hr.app
 ·have sx0:=A9 d.x.st
  have e0:=d.e0
  have ff:=aI3 sx0 hk e0
  refine N3 (x:=?_)
  clear ff
  refine SpecQ.step (c80 d.x hs ms ok hmm (by simp [hk])) ?_
  rintro ⟨v,H'⟩ hr
  obtain ⟨k,hv,_⟩:=hr.nat
  subst hv
  have ff:=hk
  refine N3 (x:=?_)
  clear ff
  exact hr.app
 ·exact G2f d hs ms ok hk fun r h=>h.app
 ·exact G0R d hs ms ok hk fun r h=>h.app
 ·have sx0:=A9 d.x.st
  have e0:=d.e0
  have ff:=aI3 sx0 hk e0
  refine N3 (x:=?_)
  clear ff
  refine SpecQ.step (c80 d.x hs ms ok hmm (by simp [hk])) ?_
  rintro ⟨v,H'⟩ hr
  obtain ⟨k,hv,_⟩:=hr.nat
  subst hv
  have ff:=hk
  refine N3 (x:=?_)
  clear ff
  exact hr.app
 ·have sx0:=A9 d.x.st
  have e0:=d.e0
  have ff:=aI3 sx0 hk e0
  refine N3 (x:=?_)
  clear ff
  refine SpecQ.step (c80 d.x hs ms ok hmm (by simp [hk])) ?_
  rintro ⟨v,H'⟩ hr
  obtain ⟨k,hv,_⟩:=hr.nat
  subst hv
  have ff:=hk
  refine N3 (x:=?_)
  clear ff
  exact hr.app
 ·have sx0:=A9 d.x.st
  have e0:=d.e0
  have ff:=aI3 sx0 hk e0
  refine N3 (x:=?_)
  clear ff
  refine SpecQ.step (c80 d.x hs ms ok hmm (by simp [hk])) ?_
  rintro ⟨v,H'⟩ hr
  obtain ⟨k,hv,_⟩:=hr.nat
  subst hv
  have ff:=hk
  refine N3 (x:=?_)
  clear ff
  exact hr.app
 ·have sx0:=A9 d.x.st
  have e0:=d.e0
  have ff:=aI3 sx0 hk e0
  refine N3 (x:=?_)
  clear ff
  refine SpecQ.step (c80 d.x hs ms ok hmm (by simp [hk])) ?_
  rintro ⟨v,H'⟩ hr
  obtain ⟨k,hv,_⟩:=hr.nat
  subst hv
  have ff:=hk
  refine N3 (x:=?_)
  clear ff
  exact hr.app
 ·have sx0:=A9 d.x.st
  have e0:=d.e0
  have ff:=aI3 sx0 hk e0
  refine N3 (x:=?_)
  clear ff
  refine SpecQ.step (c80 d.x hs ms ok hmm (by simp [hk])) ?_
  rintro ⟨v,H'⟩ hr
  obtain ⟨k,hv,_⟩:=hr.nat
  subst hv
  have ff:=hk
  refine N3 (x:=?_)
  clear ff
  exact hr.app
 ·have sx0:=A9 d.x.st
  have e0:=d.e0
  have ff:=aI3 sx0 hk e0
  refine N3 (x:=?_)
  clear ff
  refine SpecQ.step (c80 d.x hs ms ok hmm (by simp [hk])) ?_
  rintro ⟨v,H'⟩ hr
  obtain ⟨k,hv,_⟩:=hr.nat
  subst hv
  have ff:=hk
  refine N3 (x:=?_)
  clear ff
  exact hr.app
 ·have sx0:=A9 d.x.st
  have e0:=d.e0
  have ff:=aI3 sx0 hk e0
  refine N3 (x:=?_)
  clear ff
  refine SpecQ.step (c80 d.x hs ms ok hmm (by simp [hk])) ?_
  rintro ⟨v,H'⟩ hr
  obtain ⟨k,hv,_⟩:=hr.nat
  subst hv
  have ff:=hk
  refine N3 (x:=?_)
  clear ff
  exact hr.app
 ·have sx0:=A9 d.x.st
  have e0:=d.e0
  have ff:=aI3 sx0 hk e0
  refine N3 (x:=?_)
  clear ff
  refine SpecQ.step (c80 d.x hs ms ok hmm (by simp [hk])) ?_
  rintro ⟨v,H'⟩ hr
  obtain ⟨k,hv,_⟩:=hr.nat
  subst hv
  have ff:=hk
  refine N3 (x:=?_)
  clear ff
  exact hr.app
end
end Go.Vab

namespace Go.Vab
open Go Go.Proofs
noncomputable section
def F29:Ctx:=⟨fun _ _ _ => none,TT,22,[7,12,13,14,15,16,17,19,20,21]⟩
def D3D:=B8 Tryz.f17
def B4j:=cR D3D
def D3E:=cL B4j
def D3F:=cR D3E
def D3G:=cB D3F
def D3H:=cB D3G
def B4k:=cR D3H
def B4l:=cL B4k
def F1I:=cL B4l
def F1J:=cR B4l
def A98:=cR B4k
def C5F:=cL A98
def C5G:=cB C5F
def C5H:=cR C5G
def A99:=cR C5H
def C5I:=cL A99
def E5U:=cR C5I
def E5V:=cR A99
def E5W:=cR A98
def C5J:=cR B4j
def E5X:=cR C5J
def q17:=zQ2 F29 17 Tryz.f17 D3D fun s=>(bnd (some (s.env.get 4)) fun v=>bnd (some []) fun vs=>some (v::vs))
def G2i:=B3 F29 [[F1I],[F1J],[F1I,F1J,B4l],[E5U],[E5U,C5I],[E5V],[C5I,E5V,A99],[A99,C5H],[C5H,C5G],[C5G,C5F],[E5W],[C5F,E5W,A98],[B4l,A98,B4k],[B4k,D3H],[D3H,D3G],[D3G,D3F],[D3F,D3E],[E5X],[E5X,C5J],[D3E,C5J,B4j],[B4j,D3D]]
end
end Go.Vab

namespace Go.Vab
open Go Go.Proofs
theorem A14 {G X:Prop} (f:Hd X→G:=by
 intro xX
 repeat' (first|refine stp (x:=?_)|(simp (decide:=true) only [G2i,snB,if_true,if_false]))
 exact xX.get) (x:X):G:=f ⟨x⟩
attribute [local irreducible] E9 Evs gW D9 E8 G5
section
variable {X:Type} (f:X→Pt)
theorem F8V {l:List X} {e:Pt} {i:Nat} (hi:i < l.length) (hq:f l[i]=e) (hne:∀ j (hj:j < l.length),j < i→f l[j]≠e):fnd f l e=some l[i]:=by
 unfold fnd
 rw [List.find?_eq_some_iff_getElem]
 exact ⟨by simp [hq],i,hi,rfl,fun j hj=>by simp [hne j (by omega) hj]⟩
theorem F9I {l:List X} {e:Pt} (hne:∀ j (hj:j < l.length),f l[j]≠e):fnd f l e=none:=by
 unfold fnd
 rw [List.find?_eq_none]
 intro x hx
 obtain ⟨j,hj,rfl⟩:=List.mem_iff_getElem.1 hx
 simp [hne j hj]
end
theorem c17 {h:A3} {s:Stt} {vt vp vs vi va vb:AV} {e:Pt} (ra:StR h s vt vp vs vi va vb):SpecQ Tryz.prog 17 [eSt s vt vp vs vi va vb,pt e] h fun r=>r=(u8 (D0 s e),h):=by
 have ta:=ra.cells
 have lx:=ra.fs.len
 have bx:=ra.fs.bound
 rw [List.length_map] at lx bx
 refine SpecQ.drop1 rfl (q17 fun env g0 g1=>?_)
 have ff:=aI4 g0 g1 ta lx
 refine A14 (x:=?_)
 clear ff
 refine G0 s.seats.length (fun i st=>∃ env' t,st=⟨env',h++⟨eSt s vt vp vs vi va vb,0,.own⟩::⟨pt e,0,.own⟩::t⟩∧env'.get 2=.ptr h.length 0 [] A6∧env'.get 3=.ptr (h.length+1) 0 [] (.arr 32 (.int .u8))∧env'.get 8=vs∧env'.get 9=nat s.seats.length∧env'.get 10=nat i∧∀ j (hj:j < s.seats.length),j < i→fS s.seats[j]≠e) ?_ ?_ ⟨_,[],rfl,by simp,by simp,by simp,by simp,by simp,fun j _ hj=>absurd hj (by omega)⟩
 ·rintro i st hi ⟨env',t,rfl,e2,e3,e8,e9,e10,hne⟩
  obtain ⟨pb,pv,pp,bb,p1,p2,p3,p4⟩:=ra.fs.idxE hi
  by_cases hq:s.seats[i].who.e=e
  ·have ff:=H7 e2 e3 e8 e9 e10 ta lx hi p1 p2 p3 p4 hq
   refine A14 (x:=?_)
   clear ff
   refine .inr ⟨by simp,?_⟩
   have ff:=e10
   refine A14 (x:=?_)
   clear ff
   exact ⟨_,(by simp only [D0,F8V fS hi hq hne];rfl)⟩
  ·have ff:=H7 e2 e3 e8 e9 e10 ta lx hi p1 p2 p3 p4 hq
   refine A14 (x:=?_)
   clear ff
   refine .inl ⟨by simp,_,_,rfl,by simp [e2],by simp [e3],by simp [e8],by simp [e9],by simp,fun j hj hji=>?_⟩
   by_cases hji':j=i
   ·subst hji';exact hq
   ·exact hne j hj (by omega)
 ·rintro st ⟨env',t,rfl,e2,e3,e8,e9,e10,hne⟩
  have ff:=aI6 e2 e8 e9 e10 lx ta
  refine A14 (x:=?_)
  clear ff
  refine ⟨by simp,?_⟩
  have ff:=e2
  refine A14 (x:=?_)
  clear ff
  exact ⟨_,(by simp only [D0,F9I fS fun j hj=>hne j hj hj];rfl)⟩
end Go.Vab

namespace Go.Vab
open Go Go.Proofs
noncomputable section
def F3A:Ctx:=⟨fun _ _ _ => none,TT,8,[3,5,6,7]⟩
def D3I:=B8 Tryz.f59
def B4m:=cR D3I
def D3J:=cL B4m
def B4n:=cR D3J
def D3K:=cL B4n
def F1K:=cR D3K
def F1L:=cR B4n
def D3L:=cR B4m
def F1M:=cR D3L
def q59:=zQ1 F3A 59 Tryz.f59 D3I fun s=>(bnd (some (s.env.get 2)) fun v=>bnd (some []) fun vs=>some (v::vs))
def G2j:=B3 F3A [[F1K],[F1K,D3K],[F1L],[D3K,F1L,B4n],[B4n,D3J],[F1M],[F1M,D3L],[D3J,D3L,B4m],[B4m,D3I]]
end
end Go.Vab

namespace Go.Vab
open Go Go.Proofs
noncomputable section
def F3B:Ctx:=⟨fun _ _ _ => none,TT,8,[3,5,6,7]⟩
def D3M:=B8 Tryz.f60
def B4o:=cR D3M
def D3N:=cL B4o
def B4p:=cR D3N
def D3O:=cL B4p
def F1N:=cR D3O
def F1O:=cR B4p
def D3P:=cR B4o
def F1P:=cR D3P
def q60:=zQ1 F3B 60 Tryz.f60 D3M fun s=>(bnd (some (s.env.get 2)) fun v=>bnd (some []) fun vs=>some (v::vs))
def G2k:=B3 F3B [[F1N],[F1N,D3O],[F1O],[D3O,F1O,B4p],[B4p,D3N],[F1P],[F1P,D3P],[D3N,D3P,B4o],[B4o,D3M]]
end
end Go.Vab

namespace Go.Vab
open Go Go.Proofs
noncomputable section
def F3C:Ctx:=⟨fun _ _ _ => none,TT,8,[3,5,6,7]⟩
def D3Q:=B8 Tryz.f61
def B4q:=cR D3Q
def D3R:=cL B4q
def B4r:=cR D3R
def D3S:=cL B4r
def F1Q:=cR D3S
def F1R:=cR B4r
def D3T:=cR B4q
def F1S:=cR D3T
def q61:=zQ1 F3C 61 Tryz.f61 D3Q fun s=>(bnd (some (s.env.get 2)) fun v=>bnd (some []) fun vs=>some (v::vs))
def G2l:=B3 F3C [[F1Q],[F1Q,D3S],[F1R],[D3S,F1R,B4r],[B4r,D3R],[F1S],[F1S,D3T],[D3R,D3T,B4q],[B4q,D3Q]]
end
end Go.Vab

namespace Go.Vab
open Go Go.Proofs
noncomputable section
def F3D:Ctx:=⟨fun _ _ _ => none,TT,8,[3,5,6,7]⟩
def D3U:=B8 Tryz.f62
def B4s:=cR D3U
def D3V:=cL B4s
def B4t:=cR D3V
def D3W:=cL B4t
def F1T:=cR D3W
def F1U:=cR B4t
def D3X:=cR B4s
def F1V:=cR D3X
def q62:=zQ1 F3D 62 Tryz.f62 D3U fun s=>(bnd (some (s.env.get 2)) fun v=>bnd (some []) fun vs=>some (v::vs))
def G2m:=B3 F3D [[F1T],[F1T,D3W],[F1U],[D3W,F1U,B4t],[B4t,D3V],[F1V],[F1V,D3X],[D3V,D3X,B4s],[B4s,D3U]]
end
end Go.Vab

namespace Go.Vab
open Go Go.Proofs
noncomputable section
def F3E:Ctx:=⟨fun _ _ _ => none,TT,8,[3,5,6,7]⟩
def D3Y:=B8 Tryz.f31
def B4u:=cR D3Y
def D3Z:=cL B4u
def B4v:=cR D3Z
def D3a:=cL B4v
def F1W:=cR D3a
def F1X:=cR B4v
def D3b:=cR B4u
def F1Y:=cR D3b
def q31:=zQ1 F3E 31 Tryz.f31 D3Y fun s=>(bnd (some (s.env.get 2)) fun v=>bnd (some []) fun vs=>some (v::vs))
def G2n:=B3 F3E [[F1W],[F1W,D3a],[F1X],[D3a,F1X,B4v],[B4v,D3Z],[F1Y],[F1Y,D3b],[D3Z,D3b,B4u],[B4u,D3Y]]
end
end Go.Vab

namespace Go.Vab
open Go Go.Proofs
noncomputable section
def B58:Ctx:=⟨fun _ _ _ => none,TT,28,[3,4,5,6,7,8,9,10,11,12,13,14,15,16,17,18,19,20,21,22,23,24,25,26,27]⟩
def D3c:=B8 Tryz.f30
def D3d:=cR D3c
def D3e:=cR D3d
def D3f:=cR D3e
def F1Z:=cR D3f
def q30:=zQ1 B58 30 Tryz.f30 D3c fun s=>(bnd (D6 A6 (s.env.get 2) s.heap) fun v=>bnd (some []) fun vs=>some (v::vs))
def F8W:=zDr B58 [D3f,D3e] [2,5,8,11,13,15,17,19] [0,1,3,0,8,31,0,64,255,0,512,2047,1759,8191,16383,32767,65535,131071,262143,524287] [0,1,3,4,6,7,9,10] (.o 2 [12] [4,7,10] (.o 5 [] [7,10] (.o 8 [] [10] (.o 11 [] [] (.o 13 [14] [] (.o 15 [16] [] (.o 17 [18] [] (.o 19 [] [] .f))))))))
def F8X:=zDr B58 [D3e,D3d] [2,5,7,9] [0,1,3,0,8,31,31,127,255,511] [0,1,3,4] (.o 2 [6] [4] (.o 5 [] [] (.o 7 [8] [] (.o 9 [] [] .f))))
def G2o:=B3 B58 [[F1Z],[F1Z,D3f],[D3d,D3c]]
end
end Go.Vab

namespace Go.Vab
open Go Go.Proofs
theorem B6r {G X:Prop} (f:Hd X→G:=by
 intro xX
 repeat' (first|refine stp (x:=?_)|(simp (decide:=true) only [G2j,snB,if_true,if_false]))
 exact xX.get) (x:X):G:=f ⟨x⟩
theorem B6s {G X:Prop} (f:Hd X→G:=by
 intro xX
 repeat' (first|refine stp (x:=?_)|(simp (decide:=true) only [G2k,snB,if_true,if_false]))
 exact xX.get) (x:X):G:=f ⟨x⟩
theorem B6t {G X:Prop} (f:Hd X→G:=by
 intro xX
 repeat' (first|refine stp (x:=?_)|(simp (decide:=true) only [G2l,snB,if_true,if_false]))
 exact xX.get) (x:X):G:=f ⟨x⟩
theorem B6u {G X:Prop} (f:Hd X→G:=by
 intro xX
 repeat' (first|refine stp (x:=?_)|(simp (decide:=true) only [G2m,snB,if_true,if_false]))
 exact xX.get) (x:X):G:=f ⟨x⟩
theorem B6v {G X:Prop} (f:Hd X→G:=by
 intro xX
 repeat' (first|refine stp (x:=?_)|(simp (decide:=true) only [G2n,snB,if_true,if_false]))
 exact xX.get) (x:X):G:=f ⟨x⟩
theorem A07 {G X:Prop} (f:Hd X→G:=by
 intro xX
 repeat' (first|refine stp (x:=?_)|(simp (decide:=true) only [G2o,snB,if_true,if_false])|(with_reducible refine F8W _ _ _ ?_)|(with_reducible refine F8X _ _ _ ?_))
 exact xX.get) (x:X):G:=f ⟨x⟩
attribute [local irreducible] E9 Evs gW D9 E8 G5
theorem slice_or {t:Ty} {h:A3} {x:AV} {vs:List AV} (hx:Row t h x vs):x=.nilslice∨(A0O .eql x .nilslice=some (.bool false)):=by
 have h2:=hx.2.1
 cases x with
 | nilslice=>exact .inl rfl
 | slice i ver path t' off len cap=>exact .inr rfl
 | _ => exact h2.elim
theorem bslice_or {h:A3} {x:AV} {l:Bs} (hx:BytL h x l):(x=.nilslice∧l=[])∨(A0O .eql x .nilslice=some (.bool false)):=by
 have h2:=hx.1.2
 cases x with
 | nilslice=>exact .inl ⟨rfl,List.eq_nil_of_length_eq_zero h2⟩
 | slice i ver path t' off len cap=>exact .inr rfl
 | _ => unfold A01 at h2;simp at h2
theorem c59 {κ:Nat→Nat} {k:Nat} {H:A3} {x:AV} {l:List Seat} (hx:Row A7 H x (l.map B0)) (hl:l.length≤1000) (top:∀ i,H.length≤i→κ i=0):SpecQ Tryz.prog 59 [x] H fun r=>∃ x' H' κ',r=(x',H')∧KRow κ' k A7 B0 H' x' l∧Chg κ k H κ' H':=by
 refine q59 fun env g0=>?_
 rcases slice_or hx with rfl|hn
 ·have hl0:l=[]:=by have:=hx.2.1;simp only [A1V,List.length_map] at this;exact List.eq_nil_of_length_eq_zero this
  subst hl0
  have ff:=g0
  refine B6r (x:=?_)
  clear ff
  refine ⟨_,H,κ,rfl,⟨by simp,.inl ⟨rfl,hx,rfl,fun b hb=>by cases hb⟩⟩,Nat.le_refl _,fun _ _ => rfl,fun _ _ _ => rfl,fun h=>h⟩
 ·have ff:=aI g0 hn
  refine B6r (x:=?_)
  clear ff
  refine A5d (k:=k) (E:=B0) (t:=A7) (z:=(⟨ci0,0#8,0#32⟩:Seat)) (fun _ => rfl) top (hx.app _).1 hl ?_ fun x' H' κ' w1 w2=>?_
  ·decide
  have ff:=g0
  refine B6r (x:=?_)
  clear ff
  exact ⟨x',H',κ',rfl,w1,w2⟩
theorem c60 {κ:Nat→Nat} {k:Nat} {H:A3} {x:AV} {l:List Inv} (hx:Row B1 H x (l.map B7)) (hl:l.length≤1000) (top:∀ i,H.length≤i→κ i=0):SpecQ Tryz.prog 60 [x] H fun r=>∃ x' H' κ',r=(x',H')∧KRow κ' k B1 B7 H' x' l∧Chg κ k H κ' H':=by
 refine q60 fun env g0=>?_
 rcases slice_or hx with rfl|hn
 ·have hl0:l=[]:=by have:=hx.2.1;simp only [A1V,List.length_map] at this;exact List.eq_nil_of_length_eq_zero this
  subst hl0
  have ff:=g0
  refine B6s (x:=?_)
  clear ff
  refine ⟨_,H,κ,rfl,⟨by simp,.inl ⟨rfl,hx,rfl,fun b hb=>by cases hb⟩⟩,Nat.le_refl _,fun _ _ => rfl,fun _ _ _ => rfl,fun h=>h⟩
 ·have ff:=aI g0 hn
  refine B6s (x:=?_)
  clear ff
  refine A5d (k:=k) (E:=B7) (t:=B1) (z:=(⟨ci0,0#8,ci0⟩:Inv)) (fun _ => rfl) top (hx.app _).1 hl ?_ fun x' H' κ' w1 w2=>?_
  ·decide
  have ff:=g0
  refine B6s (x:=?_)
  clear ff
  exact ⟨x',H',κ',rfl,w1,w2⟩
theorem c61 {κ:Nat→Nat} {k:Nat} {H:A3} {x:AV} {l:List Ask} (hx:Row B5 H x (l.map B9)) (hl:l.length≤1000) (top:∀ i,H.length≤i→κ i=0):SpecQ Tryz.prog 61 [x] H fun r=>∃ x' H' κ',r=(x',H')∧KRow κ' k B5 B9 H' x' l∧Chg κ k H κ' H':=by
 refine q61 fun env g0=>?_
 rcases slice_or hx with rfl|hn
 ·have hl0:l=[]:=by have:=hx.2.1;simp only [A1V,List.length_map] at this;exact List.eq_nil_of_length_eq_zero this
  subst hl0
  have ff:=g0
  refine B6t (x:=?_)
  clear ff
  refine ⟨_,H,κ,rfl,⟨by simp,.inl ⟨rfl,hx,rfl,fun b hb=>by cases hb⟩⟩,Nat.le_refl _,fun _ _ => rfl,fun _ _ _ => rfl,fun h=>h⟩
 ·have ff:=aI g0 hn
  refine B6t (x:=?_)
  clear ff
  refine A5d (k:=k) (E:=B9) (t:=B5) (z:=(⟨ci0,0#32⟩:Ask)) (fun _ => rfl) top (hx.app _).1 hl ?_ fun x' H' κ' w1 w2=>?_
  ·decide
  have ff:=g0
  refine B6t (x:=?_)
  clear ff
  exact ⟨x',H',κ',rfl,w1,w2⟩
theorem c62 {κ:Nat→Nat} {k:Nat} {H:A3} {x:AV} {l:List Ban} (hx:Row B4 H x (l.map B2)) (hl:l.length≤1000) (top:∀ i,H.length≤i→κ i=0):SpecQ Tryz.prog 62 [x] H fun r=>∃ x' H' κ',r=(x',H')∧KRow κ' k B4 B2 H' x' l∧Chg κ k H κ' H':=by
 refine q62 fun env g0=>?_
 rcases slice_or hx with rfl|hn
 ·have hl0:l=[]:=by have:=hx.2.1;simp only [A1V,List.length_map] at this;exact List.eq_nil_of_length_eq_zero this
  subst hl0
  have ff:=g0
  refine B6u (x:=?_)
  clear ff
  refine ⟨_,H,κ,rfl,⟨by simp,.inl ⟨rfl,hx,rfl,fun b hb=>by cases hb⟩⟩,Nat.le_refl _,fun _ _ => rfl,fun _ _ _ => rfl,fun h=>h⟩
 ·have ff:=aI g0 hn
  refine B6u (x:=?_)
  clear ff
  refine A5d (k:=k) (E:=B2) (t:=B4) (z:=(⟨ci0,ci0⟩:Ban)) (fun _ => rfl) top (hx.app _).1 hl ?_ fun x' H' κ' w1 w2=>?_
  ·decide
  have ff:=g0
  refine B6u (x:=?_)
  clear ff
  exact ⟨x',H',κ',rfl,w1,w2⟩
theorem c31 {H:A3} {x:AV} {l:Bs} (hx:BytL H x l):SpecQ Tryz.prog 31 [x] H fun r=>∃ y t,r=(y,H++t)∧BytO (H++t) y l∧∀ b,rb y=some b→H.length≤b:=by
 refine q31 fun env g0=>?_
 rcases bslice_or hx with ⟨rfl,rfl⟩|hn
 ·have ff:=g0
  refine B6v (x:=?_)
  clear ff
  exact ⟨_,[],by simp [C8],⟨BytL.nil _,fun b hb=>by cases hb⟩,fun b hb=>by cases hb⟩
 ·have ff:=aI g0 hn
  refine B6v (x:=?_)
  clear ff
  refine F9q (by simp) (by simp [a7]) (hx.app _) (Nat.le_refl _) fun y e f o=>?_
  have ff:=g0
  refine B6v (x:=?_)
  clear ff
  exact ⟨y,_,rfl,⟨f.at_ rfl,o⟩,f.rb_ge⟩
theorem c30 {κ : Nat → Nat} {H : A3} {s : Stt} {vt vp vs vi va vb : AV} (ra : StR H s vt vp vs vi va vb) (top : ∀ i, H.length ≤ i → κ i = 0) (hz : ∀ i, i < H.length → κ i = 0 ∨ 6 ≤ κ i) (l1 : s.seats.length ≤ 1000) (l2 : s.invites.length ≤ 1000) (l3 : s.asks.length ≤ 1000) (l4 : s.bans.length ≤ 1000) :
  SpecQ Tryz.prog 30 [eSt s vt vp vs vi va vb] H fun r=>∃ κ' H' ut up us ui ua ub,r=(eSt s ut up us ui ua ub,H')∧Wp κ' H' s ut up us ui ua ub∧Fr κ H κ' H':=by
 have ta:=ra.cells
 have lt:=ra.rb_lt
 refine q30 fun env g0=>?_
 have ff:=aI g0 ta
 refine A07 (x:=?_)
 clear ff
 refine SpecQ.step (c31 (ra.ft.app _)) ?_
 rintro _ ⟨ut,t1,rfl,f1,r1⟩
 have y1:=f1.cell
 simp only [List.append_assoc,List.cons_append,List.nil_append] at f1 ⊢
 have ff:=aI3 g0 ta y1
 refine A07 (x:=?_)
 clear ff
 refine SpecQ.step (c31 (ra.fp.app _)) ?_
 rintro _ ⟨up,t2,rfl,f2,r2⟩
 have y2:=f2.cell
 simp only [List.append_assoc,List.cons_append,List.nil_append] at f2 ⊢
 have ff:=aI4 g0 ta y1 y2
 refine A07 (x:=?_)
 clear ff
 obtain ⟨G,hG⟩:∃ G,G=H++⟨C1 s.version s.key s.acc ut up vs vi va vb,0,.own⟩::⟨C1 0#32 ci0 D4 .nilslice .nilslice .nilslice .nilslice .nilslice .nilslice,0,.own⟩::(t1++t2):=⟨_,rfl⟩
 rw [←hG]
 have gl:G.length=H.length+(2+(t1++t2).length):=by rw [hG];simp;omega
 obtain ⟨κ1,hκ⟩:∃ κ1:Nat→Nat,κ1=fun i=>if i=H.length∨i=H.length+1 then 6 else if H.length≤i∧i < G.length then 7 else κ i:=⟨_,rfl⟩
 have kold:∀ i,i < H.length→κ1 i=κ i:=fun i hi=>by rw [hκ];simp only;rw [if_neg (by omega),if_neg (by omega)]
 have k0:κ1 H.length=6:=by rw [hκ];simp
 have k1:κ1 (H.length+1)=6:=by rw [hκ];simp
 have kb:∀ i,H.length+2≤i→i < G.length→κ1 i=7:=fun i h1 h2=>by rw [hκ];simp only;rw [if_neg (by omega),if_pos (by omega)]
 have top1:∀ i,G.length≤i→κ1 i=0:=fun i hi=>by rw [hκ];simp only;rw [if_neg (by omega),if_neg (by omega)];exact top i (by omega)
 have fr0:Fr κ H κ1 G:=⟨by omega,kold,fun i hi _ => by rw [hG,List.getElem?_append_left hi]⟩
 have cell0:G[H.length]?=some ⟨C1 s.version s.key s.acc ut up vs vi va vb,0,.own⟩:=by rw [hG];simp
 have cell1:G[H.length+1]?=some ⟨C1 0#32 ci0 D4 .nilslice .nilslice .nilslice .nilslice .nilslice .nilslice,0,.own⟩:=by rw [hG,List.getElem?_append_right (by omega)];simp
 have ft:BytO G ut s.title:=by
  refine (f1.app t2).other fun b hb=>?_
  have hb2:=r1 b hb
  simp only [List.length_append,List.length_cons,List.length_nil] at hb2
  have e:∀ c0 c1:Blk,H++c0::c1::t1++t2=H++([]++c0::(c1::(t1++t2))):=fun c0 c1=>by simp
  rw [hG,e]
  exact A2A (A:=[]) (by simp;omega)
 have fp:BytO G up s.pass:=by
  refine f2.other fun b hb=>?_
  have hb2:=r2 b hb
  simp only [List.length_append,List.length_cons] at hb2
  rw [hG]
  exact A2A (A:=[]) (by simp;omega)
 have kt:∀ b,rb ut=some b→κ1 b=7:=fun b hb=>kb b (by have:=r1 b hb;simp only [List.length_append,List.length_cons,List.length_nil] at this;omega) (ft.rb_lt' b hb)
 have kp:∀ b,rb up=some b→κ1 b=7:=fun b hb=>kb b (by have:=r2 b hb;simp only [List.length_append,List.length_cons] at this;omega) (fp.rb_lt' b hb)
 have rG:StR G s vt vp vs vi va vb:=ra.other fun y hy b hb=>by rw [hG,List.getElem?_append_left (lt y hy b hb)]
 have nk:∀ y∈[vt,vp,vs,vi,va,vb],∀ b,rb y=some b→κ1 b=0∨6≤κ1 b:=fun y hy b hb=>by rw [kold b (lt y hy b hb)];exact hz b (lt y hy b hb)
 refine SpecQ.step (c59 (k:=2) rG.fs l1 top1) ?_
 rintro _ ⟨us,H1,κ2,rfl,ks,ch1⟩
 have g1:Fr κ1 G κ2 H1:=ch1.fr (by decide)
 have b1:=A9 (g1.blk cell0 (.inr (by rw [k0];decide)))
 have ff:=b1
 refine A07 (x:=?_)
 clear ff
 refine SpecQ.step (c60 (k:=3) (rG.fi.fr g1 (nk vi (by simp))) l2 (ch1.top top1)) ?_
 rintro _ ⟨ui,H2,κ3,rfl,ki,ch2⟩
 have g2:Fr κ1 G κ3 H2:=g1.trans (ch2.fr (by decide))
 have b2:=A9 (g2.blk cell0 (.inr (by rw [k0];decide)))
 have ff:=b2
 refine A07 (x:=?_)
 clear ff
 refine SpecQ.step (c61 (k:=4) (rG.fa.fr g2 (nk va (by simp))) l3 (ch2.top (ch1.top top1))) ?_
 rintro _ ⟨ua,H3,κ4,rfl,ka,ch3⟩
 have g3:Fr κ1 G κ4 H3:=g2.trans (ch3.fr (by decide))
 have b3:=A9 (g3.blk cell0 (.inr (by rw [k0];decide)))
 have ff:=b3
 refine A07 (x:=?_)
 clear ff
 refine SpecQ.step (c62 (k:=5) (rG.fb.fr g3 (nk vb (by simp))) l4 (ch3.top (ch2.top (ch1.top top1)))) ?_
 rintro _ ⟨ub,H4,κ5,rfl,kbn,ch4⟩
 have g4:Fr κ1 G κ5 H4:=g3.trans (ch4.fr (by decide))
 have q4:=g4.blk cell0 (.inr (by rw [k0];decide))
 have q5:=g4.blk cell1 (.inr (by rw [k1];decide))
 have b4:=A9 q4
 have bs:∀ v,blkAt (H4.set H.length ⟨v,0,.own⟩) H.length 0=some ⟨v,0,.own⟩:=fun v=>A9 (List.getElem?_set_self (List.getElem?_eq_some_iff.1 q4).1)
 have bs1:∀ v,blkAt (H4.set H.length v) (H.length+1) 0=some ⟨C1 0#32 ci0 D4 .nilslice .nilslice .nilslice .nilslice .nilslice .nilslice,0,.own⟩:=fun v=>A9 (by rw [List.getElem?_set_ne (by omega)];exact q5)
 have l5:H.length+1 < (H4.set H.length (⟨eSt s ut up us ui ua ub,0,.own⟩:Blk)).length:=by rw [List.length_set];exact (List.getElem?_eq_some_iff.1 q5).1
 have bs2:∀ v:AV,blkAt ((H4.set H.length ⟨eSt s ut up us ui ua ub,0,.own⟩).set (H.length+1) ⟨v,0,.own⟩) (H.length+1) 0=some ⟨v,0,.own⟩:=fun v=>A9 (List.getElem?_set_self l5)
 have x1:=ks.cell
 have x2:=ki.cell
 have x3:=ka.cell
 have x4:=kbn.cell
 have ff:=D8 b4 bs bs1 bs2 ta y1 y2 x1 x2 x3 x4
 refine A07 (x:=?_)
 clear ff
 have kk:κ5 H.length=6:=(g4.old _ (by omega)).trans k0
 have kk1:κ5 (H.length+1)=6:=(g4.old _ (by omega)).trans k1
 have wp:Wp κ5 H4 s ut up us ui ua ub:=⟨ch4.top (ch3.top (ch2.top (ch1.top top1))),ft.fr g4 (fun b hb=>.inr (by rw [kt b hb];decide)),fp.fr g4 (fun b hb=>.inr (by rw [kp b hb];decide)),fun b hb=>(g4.old b (ft.rb_lt' b hb)).trans (kt b hb),fun b hb=>(g4.old b (fp.rb_lt' b hb)).trans (kp b hb),
  ((ks.chg ch2 (by decide) (by decide)).chg ch3 (by decide) (by decide)).chg ch4 (by decide) (by decide),(ki.chg ch3 (by decide) (by decide)).chg ch4 (by decide) (by decide),ka.chg ch4 (by decide) (by decide),kbn⟩
 exact ⟨κ5,_,ut,up,us,ui,ua,ub,rfl,(wp.wr (.inl kk) _).wr (.inl kk1) _,((fr0.trans g4).wr (Nat.le_refl _) _).wr (by omega) _⟩
end Go.Vab
