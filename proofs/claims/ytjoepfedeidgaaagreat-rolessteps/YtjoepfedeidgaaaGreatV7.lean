/- How the code of a function is read. Printed by wip/tools/gen2.py and gen3.py (own work). -/
import Derived.Test.YtjoepfedeidgaaaGreatV3
import Derived.Test.YtjoepfedeidgaaaGreatV2
import Derived.Test.YtjoepfedeidgaaaGreatV6
import Derived.Test.YtjoepfedeidgaaaGreatV5
set_option linter.all false
set_option linter.unusedSectionVars false
set_option maxHeartbeats 8000000
set_option maxRecDepth 20000
namespace Go.Vab
open Go Go.Proofs
noncomputable section
def O4:Ctx:=⟨fun _ _ _ => none,TT,449,[22,23,24,25,26,27,30,32,33,34,35,36,37,38,40,41,42,43,44,45,46,48,49,50,51,52,53,54,56,57,58,59,60,61,62,63,64,65,66,67,68,69,70,71,72,73,75,77,78,79,80,81,82,83,85,86,87,88,89,90,91,93,94,95,96,97,98,99,100,101,102,103,104,105,106,107,109,110,111,112,113,114,115,116,117,118,119,120,121,122,123,124,125,126,127,128,129,130,131,132,133,134,135,137,138,139,140,141,142,143,144,145,146,147,148,149,150,151,152,153,154,155,156,157,158,159,160,161,162,163,164,165,166,167,168,170,172,173,174,176,177,178,179,180,181,183,184,185,186,187,188,189,190,191,193,194,195,196,197,199,200,201,203,204,205,207,208,209,210,211,212,213,214,215,216,218,219,220,221,222,223,224,225,226,227,228,229,230,231,232,233,234,235,236,237,238,239,240,241,242,243,244,246,247,248,249,250,252,253,254,255,256,257,258,260,261,262,264,265,266,267,268,269,270,271,272,273,274,275,276,277,278,279,280,281,282,283,284,286,288,289,290,292,293,294,295,296,297,298,299,300,301,303,305,306,307,309,310,311,312,313,315,316,317,318,319,320,322,323,324,325,326,327,328,329,330,331,332,333,334,335,336,337,338,339,340,341,343,344,345,346,347,348,349,350,351,352,354,355,356,357,358,359,360,361,362,364,365,366,367,368,369,370,371,372,373,374,375,376,377,378,379,380,381,382,383,384,385,386,387,388,389,390,391,392,393,394,395,397,398,399,400,401,402,403,404,405,406,407,408,409,410,411,412,413,414,415,416,417,418,419,420,421,422,423,424,425,427,429,430,431,433,434,435,436,437,438,439,440,441,442,443,444,445,446,447,448]⟩
def B5j:=B8 Tryz.f35
def A4K:=cR B5j
def A4L:=cR A4K
def A2p:=cR A4L
def A4M:=cL A2p
def A4N:=cR A4M
def A4O:=cB A4N
def A2q:=cR A4O
def A4P:=cL A2q
def D5N:=cL A4P
def C8h:=cB D5N
def B2f:=cR C8h
def C8i:=cL B2f
def E8d:=cR C8i
def C8j:=cR B2f
def B2g:=cR C8j
def C8k:=cL B2g
def E8e:=cR C8k
def C8l:=cR B2g
def B2h:=cR C8l
def C8m:=cL B2h
def E8f:=cR C8m
def C8n:=cR B2h
def B2i:=cR C8n
def C8o:=cL B2i
def E8g:=cR C8o
def E8h:=cR B2i
def C8p:=cR A4P
def E8i:=cR C8p
def A34:=cR A2q
def A2a:=cR A34
def A35:=cL A2a
def C8q:=cL A35
def C8r:=cB C8q
def B2j:=cR C8r
def C8s:=cL B2j
def E8j:=cR C8s
def C8t:=cR B2j
def B2k:=cR C8t
def C8u:=cL B2k
def E8k:=cR C8u
def C8v:=cR B2k
def B2l:=cR C8v
def C8w:=cL B2l
def E8l:=cR C8w
def C8x:=cR B2l
def B2m:=cR C8x
def C8y:=cL B2m
def E8m:=cR C8y
def E8n:=cR B2m
def C8z:=cR A35
def C80:=cR C8z
def B2n:=cR C80
def C81:=cL B2n
def C82:=cB C81
def B2o:=cB C82
def C83:=cL B2o
def B2p:=cR C83
def E8o:=cL B2p
def E8p:=cR B2p
def C84:=cR B2o
def E8q:=cB C84
def C85:=cR B2n
def C86:=cR C85
def C87:=cR C86
def C88:=cR C87
def E8r:=cR C88
def A36:=cR A2a
def A2b:=cR A36
def A37:=cL A2b
def C89:=cL A37
def C9A:=cB C89
def B2q:=cR C9A
def C9B:=cL B2q
def E8s:=cR C9B
def C9C:=cR B2q
def B2r:=cR C9C
def C9D:=cL B2r
def E8t:=cR C9D
def C9E:=cR B2r
def B2s:=cR C9E
def C9F:=cL B2s
def E8u:=cR C9F
def E8v:=cR B2s
def C9G:=cR A37
def E8w:=cR C9G
def A38:=cR A2b
def A2c:=cR A38
def B2t:=cL A2c
def B2u:=cR B2t
def C9H:=cL B2u
def C9I:=cB C9H
def B2v:=cR C9I
def C9J:=cL B2v
def E8x:=cR C9J
def C9K:=cR B2v
def B2w:=cR C9K
def C9L:=cL B2w
def E8y:=cR C9L
def C9M:=cR B2w
def A6b:=cR C9M
def B9a:=cL A6b
def E1c:=cR B9a
def B9b:=cR A6b
def A6c:=cR B9b
def B9c:=cL A6c
def E1d:=cR B9c
def E1e:=cR A6c
def B9d:=cR B2u
def B9e:=cR B9d
def B9f:=cR B9e
def E1f:=cR B9f
def A3X:=cR A2c
def A2C:=cR A3X
def A6d:=cL A2C
def A6e:=cR A6d
def B9g:=cL A6e
def B9h:=cB B9g
def A6f:=cR B9h
def B9i:=cL A6f
def E1g:=cR B9i
def B9j:=cR A6f
def A6g:=cR B9j
def B9k:=cL A6g
def E1h:=cR B9k
def B9l:=cR A6g
def A6h:=cR B9l
def B9m:=cL A6h
def E1i:=cR B9m
def E1j:=cR A6h
def B9n:=cR A6e
def E1k:=cR B9n
def A3Y:=cR A2C
def A2D:=cR A3Y
def A3Z:=cL A2D
def B9o:=cL A3Z
def B9p:=cB B9o
def A6i:=cR B9p
def B9q:=cL A6i
def E1l:=cR B9q
def B9r:=cR A6i
def A6j:=cR B9r
def B9s:=cL A6j
def E1m:=cR B9s
def E1n:=cR A6j
def B9t:=cR A3Z
def E1o:=cR B9t
def A3a:=cR A2D
def A2E:=cR A3a
def A2F:=cL A2E
def A3b:=cL A2F
def A3c:=cB A3b
def A2G:=cR A3c
def A3d:=cL A2G
def A6k:=cR A3d
def A3e:=cR A2G
def A2H:=cR A3e
def A3f:=cL A2H
def A6l:=cR A3f
def A3g:=cR A2H
def A2I:=cR A3g
def A3h:=cL A2I
def A6m:=cR A3h
def A3i:=cR A2I
def A2J:=cR A3i
def A3j:=cL A2J
def A6n:=cR A3j
def A3k:=cR A2J
def A2K:=cR A3k
def A3l:=cL A2K
def A6o:=cR A3l
def A6p:=cR A2K
def A2L:=cR A2F
def A3m:=cR A2L
def A2M:=cR A3m
def A2N:=cL A2M
def A3n:=cR A2N
def A3o:=cB A3n
def A2O:=cB A3o
def A3p:=cL A2O
def A2P:=cR A3p
def A6q:=cL A2P
def A6r:=cR A2P
def A2Q:=cR A2O
def A3q:=cL A2Q
def A6s:=cB A3q
def A3r:=cR A6s
def A6t:=cL A3r
def A6u:=cR A3r
def A6v:=cR A2Q
def A2R:=cR A2M
def A3s:=cR A2R
def A3t:=cR A3s
def A1L:=cR A3t
def A2S:=cR A1L
def A3u:=cL A2S
def A3v:=cB A3u
def A2T:=cB A3v
def A6w:=cL A2T
def A3w:=cR A6w
def A6x:=cL A3w
def A6y:=cR A3w
def A3x:=cR A2T
def A6z:=cB A3x
def A3y:=cR A2S
def A60:=cR A3y
def A61:=cR A60
def A2U:=cR A61
def A62:=cR A2U
def A63:=cR A2E
def A64:=cR A63
def A65:=cL A64
def B9u:=cL A65
def B9v:=cB B9u
def A66:=cR B9v
def B9w:=cL A66
def E1p:=cR B9w
def B9x:=cR A66
def A67:=cR B9x
def B9y:=cL A67
def E1q:=cR B9y
def E1r:=cR A67
def B9z:=cR A65
def E1s:=cR B9z
def E1t:=cR A64
def A68:=cR A2p
def E1u:=cR A68
def q35:=zQ3 O4 35 Tryz.f35 B5j fun s=>(bnd (D6 A6 (s.env.get 6) s.heap) fun v=>bnd (bnd (some (s.env.get 7)) fun v=>bnd (some []) fun vs=>some (v::vs)) fun vs=>some (v::vs))
def A1F:=zDr O4 [E8i,C8p] [4,12,13] [0,0,2,6,15,0,32,0,128,0,512,2016,4095,8191,16383] [0,1,2,3,5,6,7,8,9,10,11] (.o 4 [] [6,8,10] (.o 12 [] [] (.o 13 [14] [] .f)))
def A1G:=zDr O4 [B2p,C83] [] [0,0,2,6,15,31,63,127,63,511,1023,2047,4095,63,8255,24639,65535,131071] [0,1,2,3,4,5,6,7,8,9,10,11,12,13,14,15,16,17] .f
def A1H:=zDr O4 [C87,C86] [14,15,16] [0,0,2,0,8,0,32,0,0,384,992,2016,4064,8190,16382,32767,65535] [0,1,2,3,4,5,6,7,8,9,10,11,12,13] (.o 14 [] [] (.o 15 [] [] (.o 16 [] [] .f)))
def A1I:=zDr O4 [A6b,C9M] [] [0,1,0,7,15,31,0,64,255,511] [0,1,2,3,4,5,6,7,8,9] .f
def A09:=zDr O4 [E1f,B9f] [3,5,6] [0,0,2,7,0,31,63,127] [0,1,2,4] (.o 3 [] [4] (.o 5 [] [] (.o 6 [7] [] .f)))
def A1A:=zDr O4 [E1k,B9n] [3,15,16] [0,0,2,7,0,16,0,112,240,496,0,1024,0,4096,16368,32767,65535,131071] [0,1,2,4,5,6,7,8,9,10,11,12,13,14] (.o 3 [] [5,9,11,13] (.o 15 [] [] (.o 16 [17] [] .f)))
def A0Y:=zDr O4 [A3r,A6s] [] [0,0,3,7,15,0,32,127] [0,1,2,3,4,5,6,7] .f
def A0I:=zDr O4 [A3w,A6w] [] [0,0,2,6,15,31,63,127,63,511,1023,2047,4095,63,8255,32767,65535] [0,1,2,3,4,5,6,7,8,9,10,11,12,13,14,15,16] .f
def A0Z:=zDr O4 [A61,A60] [11,12,13] [0,0,0,4,0,0,48,124,252,508,1022,2046,4095,8191] [0,1,2,3,4,5,6,7,8,9,10] (.o 11 [] [] (.o 12 [] [] (.o 13 [] [] .f)))
def A1c:=B3 O4 [[E8d],[E8d,C8i],[E8e],[E8e,C8k],[E8f],[E8f,C8m],[E8g],[E8g,C8o],[E8h],[C8o,E8h,B2i],[B2i,C8n],[C8m,C8n,B2h],[B2h,C8l],[C8k,C8l,B2g],[B2g,C8j],[C8i,C8j,B2f],[B2f,C8h],[C8h,D5N],[E8i],[D5N,C8p,A4P],[E8j],[E8j,C8s],[E8k],[E8k,C8u],[E8l],[E8l,C8w],[E8m],[E8m,C8y],[E8n],[C8y,E8n,B2m],[B2m,C8x],[C8w,C8x,B2l],[B2l,C8v],[C8u,C8v,B2k],[B2k,C8t],[C8s,C8t,B2j],[B2j,C8r],[C8r,C8q],[E8o],[E8p],[E8o,E8p,B2p],[E8q],[E8q,C84],[C83,C84,B2o],[B2o,C82],[C82,C81],[E8r],[E8r,C88],[C88,C87],[C86,C85],[C81,C85,B2n],[B2n,C80],[C80,C8z],[C8q,C8z,A35],[E8s],[E8s,C9B],[E8t],[E8t,C9D],[E8u],[E8u,C9F],[E8v],[C9F,E8v,B2s],[B2s,C9E],[C9D,C9E,B2r],[B2r,C9C],[C9B,C9C,B2q],[B2q,C9A],[C9A,C89],[E8w],[E8w,C9G],[C89,C9G,A37],[E8x],[E8x,C9J],[E8y],[E8y,C9L],[E1c],[E1c,B9a],[E1d],[E1d,B9c],[E1e],[B9c,E1e,A6c],[A6c,B9b],[B9a,B9b,A6b],[C9L,C9M,B2w],[B2w,C9K],[C9J,C9K,B2v],[B2v,C9I],[C9I,C9H],[E1f],[B9f,B9e],[B9e,B9d],[C9H,B9d,B2u],[B2u,B2t],[E1g],[E1g,B9i],[E1h],[E1h,B9k],[E1i],[E1i,B9m],[E1j],[B9m,E1j,A6h],[A6h,B9l],[B9k,B9l,A6g],[A6g,B9j],[B9i,B9j,A6f],[A6f,B9h],[B9h,B9g],[E1k],[B9g,B9n,A6e],[A6e,A6d],[E1l],[E1l,B9q],[E1m],[E1m,B9s],[E1n],[B9s,E1n,A6j],[A6j,B9r],[B9q,B9r,A6i],[A6i,B9p],[B9p,B9o],[E1o],[E1o,B9t],[B9o,B9t,A3Z],[A6k],[A6k,A3d],[A6l],[A6l,A3f],[A6m],[A6m,A3h],[A6n],[A6n,A3j],[A6o],[A6o,A3l],[A6p],[A3l,A6p,A2K],[A2K,A3k],[A3j,A3k,A2J],[A2J,A3i],[A3h,A3i,A2I],[A2I,A3g],[A3f,A3g,A2H],[A2H,A3e],[A3d,A3e,A2G],[A2G,A3c],[A3c,A3b],[A6q],[A6r],[A6q,A6r,A2P],[A2P,A3p],[A6t],[A6u],[A6t,A6u,A3r],[A6s,A3q],[A6v],[A3q,A6v,A2Q],[A3p,A2Q,A2O],[A2O,A3o],[A3o,A3n],[A3n,A2N],[A6x],[A6y],[A6x,A6y,A3w],[A6z],[A6z,A3x],[A6w,A3x,A2T],[A2T,A3v],[A3v,A3u],[A62],[A62,A2U],[A2U,A61],[A60,A3y],[A3u,A3y,A2S],[A2S,A1L],[A1L,A3t],[A3t,A3s],[A3s,A2R],[A2N,A2R,A2M],[A2M,A3m],[A3m,A2L],[A3b,A2L,A2F],[E1p],[E1p,B9w],[E1q],[E1q,B9y],[E1r],[B9y,E1r,A67],[A67,B9x],[B9w,B9x,A66],[A66,B9v],[B9v,B9u],[E1s],[E1s,B9z],[B9u,B9z,A65],[E1t],[A65,E1t,A64],[A64,A63],[A2F,A63,A2E],[A2E,A3a],[A3Z,A3a,A2D],[A2D,A3Y],[A6d,A3Y,A2C],[A2C,A3X],[B2t,A3X,A2c],[A2c,A38],[A37,A38,A2b],[A2b,A36],[A35,A36,A2a],[A2a,A34],[A4P,A34,A2q],[A2q,A4O],[A4O,A4N],[A4N,A4M],[E1u],[E1u,A68],[A4M,A68,A2p],[A2p,A4L],[A4L,A4K],[A4K,B5j]]
end
end Go.Vab

namespace Go.Vab
open Go Go.Proofs
theorem K3 {G X:Prop} (f:Hd X→G:=by
 intro xX
 repeat' (first|refine stp (x:=?_)|(with_reducible refine A5 (c18 (ra.app _)) ?_;try dsimp only)|(with_reducible refine SpecQ.step (c18 (ra.app _)) ?_;rintro _ rfl;try dsimp only)|(with_reducible refine B6 (c18 (ra.app _)) ?_)|(with_reducible refine A5 (c83 (ra.app _)) ?_;try dsimp only)|(with_reducible refine SpecQ.step (c83 (ra.app _)) ?_;rintro _ rfl;try dsimp only)|(with_reducible refine B6 (c83 (ra.app _)) ?_)|(with_reducible refine A5 (c36 (ra.app _)) ?_;try dsimp only)|(with_reducible refine SpecQ.step (c36 (ra.app _)) ?_;rintro _ rfl;try dsimp only)|(with_reducible refine B6 (c36 (ra.app _)) ?_)|(with_reducible refine A5 (c41 (ra.app _)) ?_;try dsimp only)|(with_reducible refine SpecQ.step (c41 (ra.app _)) ?_;rintro _ rfl;try dsimp only)|(with_reducible refine B6 (c41 (ra.app _)) ?_)|(with_reducible refine A5 (c42 (ra.app _)) ?_;try dsimp only)|(with_reducible refine SpecQ.step (c42 (ra.app _)) ?_;rintro _ rfl;try dsimp only)|(with_reducible refine B6 (c42 (ra.app _)) ?_)|(with_reducible refine A5 (c43 (ra.app _)) ?_;try dsimp only)|(with_reducible refine SpecQ.step (c43 (ra.app _)) ?_;rintro _ rfl;try dsimp only)|(with_reducible refine B6 (c43 (ra.app _)) ?_)|(with_reducible refine A5 (c40 (ra.app _)) ?_;try dsimp only)|(with_reducible refine SpecQ.step (c40 (ra.app _)) ?_;rintro _ rfl;try dsimp only)|(with_reducible refine B6 (c40 (ra.app _)) ?_)|(with_reducible refine A5 (P2 (ra.app _) (rc.app _)) ?_;try dsimp only)|(with_reducible refine SpecQ.step (P2 (ra.app _) (rc.app _)) ?_;rintro _ rfl;try dsimp only)|(with_reducible refine B6 (P2 (ra.app _) (rc.app _)) ?_)|(simp (decide:=true) only [A1c,snB,if_true,if_false])|(with_reducible refine A1F _ _ _ ?_)|(with_reducible refine A1G _ _ _ ?_)|(with_reducible refine A1H _ _ _ ?_)|(with_reducible refine A1I _ _ _ ?_)|(with_reducible refine A09 _ _ _ ?_)|(with_reducible refine A1A _ _ _ ?_)|(with_reducible refine A0Y _ _ _ ?_)|(with_reducible refine A0I _ _ _ ?_)|(with_reducible refine A0Z _ _ _ ?_))
 exact xX.get) (x:X):G:=f ⟨x⟩
attribute [local irreducible] E9 Evs gW D9 E8 G5
theorem F9J {h : A3} {s : Stt} {vt vp vs vi va vb : AV} {b : Pt} {a : Actn} {wt wp : AV} (ra : StR h s vt vp vs vi va vb) (hs : H6 s) (rc : ActR h a wt wp) (w : a.kind = 1#8) :
  SpecQ Tryz.prog 35 [eSt s vt vp vs vi va vb,pt b,C5 a wt wp] h (M9 h [vt,vp,vs,vi,va,vb,wt,wp] (madeP s b a)):=by
 have ta:=ra.cells
 have tc:=rc.cells
 have l1:=ra.fs.len
 have l2:=ra.fi.len
 have l3:=ra.fa.len
 have l4:=ra.fb.len
 rw [List.length_map] at l1 l2 l3 l4
 refine q35 fun env g0 g1 g2=>?_
 have ff:=E3 g0 g1 g2 ta tc l1 l2 l3 l4 w
 refine K3 (x:=?_)
 clear ff
 cases h1:O7 s b a.role
 ·have hm:madeP s b a=.error 191:=by simp [madeP,w,h1]
  rw [hm]
  have ff:=D8 g0 g1 g2 ta tc l1 l2 l3 l4 w h1
  refine K3 (x:=?_)
  clear ff
  exact ⟨_,rfl⟩
 have ff:=D8 g0 g1 g2 ta tc l1 l2 l3 l4 w h1
 refine K3 (x:=?_)
 clear ff
 cases h2:A8 fB s.bans a.who.e
 rotate_left
 ·have hm:madeP s b a=.error 193:=by simp [madeP,w,h1,h2]
  rw [hm]
  have ff:=F8 g0 g1 g2 ta tc l1 l2 l3 l4 w h1 h2
  refine K3 (x:=?_)
  clear ff
  exact ⟨_,rfl⟩
 have ff:=F8 g0 g1 g2 ta tc l1 l2 l3 l4 w h1 h2
 refine K3 (x:=?_)
 clear ff
 cases h3:A8 fS s.seats a.who.e
 rotate_left
 ·have hm:madeP s b a=.error 8:=by simp [madeP,w,h1,h2,h3]
  rw [hm]
  have ff:=H7 g0 g1 g2 ta tc l1 l2 l3 l4 w h1 h2 h3
  refine K3 (x:=?_)
  clear ff
  exact ⟨_,rfl⟩
 have ff:=H7 g0 g1 g2 ta tc l1 l2 l3 l4 w h1 h2 h3
 refine K3 (x:=?_)
 clear ff
 by_cases h4:40≤s.seats.length
 ·have hm:madeP s b a=.error 9:=by simp [madeP,w,h1,h2,h3,h4]
  rw [hm]
  have ff:=N9 g0 g1 g2 ta tc l1 l2 l3 l4 w h1 h2 h3 h4
  refine K3 (x:=?_)
  clear ff
  exact ⟨_,rfl⟩
 have hm:madeP s b a=.ok { s with invites:=del fI s.invites a.who.e,asks:=del fA s.asks a.who.e,seats:=ins fS s.seats ⟨a.who,a.role,a.version⟩ }:=by simp [madeP,w,h1,h2,h3,h4]
 rw [hm]
 have ff:=N9 g0 g1 g2 ta tc l1 l2 l3 l4 w h1 h2 h3 h4
 refine K3 (x:=?_)
 clear ff
 refine SpecQ.step (E8c (ra.app _) hs) ?_
 rintro ⟨v,h2⟩ ⟨x1,x2,x3,x4,t,e,rs,o1,o2,o3,o4⟩
 cases e
 have tb:=rs.cells
 simp only [List.append_assoc,List.cons_append,List.nil_append] at rs ⊢
 have hsx:H6 { s with invites:=del fI s.invites a.who.e,asks:=del fA s.asks a.who.e }:=⟨hs.1,Nat.le_trans (t9 _ _ _) hs.2.1,Nat.le_trans (t9 _ _ _) hs.2.2.1,hs.2.2.2⟩
 have ff:=T9 g0 g1 g2 ta tc l1 l2 l3 l4 w h1 h2 h3 h4 tb
 refine K3 (x:=?_)
 clear ff
 refine SpecQ.step (c84 (s:={ s with invites:=del fI s.invites a.who.e,asks:=del fA s.asks a.who.e }) rs hsx) ?_
 rintro ⟨v,h2⟩ ⟨y,t2,e,rs2,oy⟩
 cases e
 have tb2:=rs2.cells
 simp only [List.append_assoc,List.cons_append,List.nil_append] at rs2 ⊢
 have ff:=Y6 g0 g1 g2 ta tc l1 l2 l3 l4 w h1 h2 h3 h4 tb tb2
 refine K3 (x:=?_)
 clear ff
 refine N5 (A:=[_,_,_]) (N8 ra rc) rs2 fun y' hy b' hb=>?_
 simp only [List.mem_cons,List.not_mem_nil,or_false] at hy
 rcases hy with rfl|rfl|rfl|rfl|rfl|rfl
 ·exact .inl ⟨_,by simp,hb⟩
 ·exact .inl ⟨_,by simp,hb⟩
 ·rcases oy _ hb with h1|h1
  ·exact absurd h1 (Y5 _)
  ·exact .inr (by simp at h1 ⊢;omega)
 ·rcases o2 _ hb with h1|h1
  ·exact .inl ⟨_,by simp,h1⟩
  ·exact .inr (by simp at h1 ⊢;omega)
 ·rcases o3 _ hb with h1|h1
  ·exact .inl ⟨_,by simp,h1⟩
  ·exact .inr (by simp at h1 ⊢;omega)
 ·rcases o4 _ hb with h1|h1
  ·exact .inl ⟨_,by simp,h1⟩
  ·exact .inr (by simp at h1 ⊢;omega)
theorem F9K {h : A3} {s : Stt} {vt vp vs vi va vb : AV} {b : Pt} {a : Actn} {wt wp : AV} (ra : StR h s vt vp vs vi va vb) (hs : H6 s) (rc : ActR h a wt wp) (w : a.kind = 2#8) :
  SpecQ Tryz.prog 35 [eSt s vt vp vs vi va vb,pt b,C5 a wt wp] h (M9 h [vt,vp,vs,vi,va,vb,wt,wp] (madeP s b a)):=by
 have ta:=ra.cells
 have tc:=rc.cells
 have l1:=ra.fs.len
 have l2:=ra.fi.len
 have l3:=ra.fa.len
 have l4:=ra.fb.len
 rw [List.length_map] at l1 l2 l3 l4
 refine q35 fun env g0 g1 g2=>?_
 have ff:=E3 g0 g1 g2 ta tc l1 l2 l3 l4 w
 refine K3 (x:=?_)
 clear ff
 by_cases h1:D0 s b=2#8
 rotate_left
 ·have hm:madeP s b a=.error 191:=by simp [madeP,w,h1]
  rw [hm]
  have ff:=D8 g0 g1 g2 ta tc l1 l2 l3 l4 w h1
  refine K3 (x:=?_)
  clear ff
  exact ⟨_,rfl⟩
 have ff:=D8 g0 g1 g2 ta tc l1 l2 l3 l4 w h1
 refine K3 (x:=?_)
 clear ff
 cases h2:A8 fS s.seats a.e
 ·have hm:madeP s b a=.error 7:=by simp [madeP,w,h1,h2]
  rw [hm]
  have ff:=F8 g0 g1 g2 ta tc l1 l2 l3 l4 w h1 h2
  refine K3 (x:=?_)
  clear ff
  exact ⟨_,rfl⟩
 have ff:=F8 g0 g1 g2 ta tc l1 l2 l3 l4 w h1 h2
 refine K3 (x:=?_)
 clear ff
 by_cases h3:a.e=b
 ·rw [h3] at h2
  have hm:madeP s b a=.error 195:=by simp [madeP,w,h1,h2,h3]
  rw [hm]
  have ff:=H7 g0 g1 g2 ta tc l1 l2 l3 l4 w h1 h2 h3
  refine K3 (x:=?_)
  clear ff
  exact ⟨_,rfl⟩
 have hm:madeP s b a=.ok { s with seats:=del fS s.seats a.e }:=by simp [madeP,w,h1,h2,h3]
 rw [hm]
 have ff:=H7 g0 g1 g2 ta tc l1 l2 l3 l4 w h1 h2 h3
 refine K3 (x:=?_)
 clear ff
 refine SpecQ.step (A1W (ra.app _) hs) ?_
 rintro ⟨v,h2⟩ ⟨x1,x2,x3,x4,t,e,rs,o1,o2,o3,o4⟩
 cases e
 have tb:=rs.cells
 simp only [List.append_assoc,List.cons_append,List.nil_append] at rs ⊢
 have ff:=N9 g0 g1 g2 ta tc l1 l2 l3 l4 w h1 h2 h3 tb
 refine K3 (x:=?_)
 clear ff
 refine N5 (A:=[_,_,_]) (N8 ra rc) rs fun y' hy b' hb=>?_
 simp only [List.mem_cons,List.not_mem_nil,or_false] at hy
 rcases hy with rfl|rfl|rfl|rfl|rfl|rfl
 ·exact .inl ⟨_,by simp,hb⟩
 ·exact .inl ⟨_,by simp,hb⟩
 ·rcases o1 _ hb with h1|h1
  ·exact .inl ⟨_,by simp,h1⟩
  ·exact .inr (by simp at h1 ⊢;omega)
 ·rcases o2 _ hb with h1|h1
  ·exact .inl ⟨_,by simp,h1⟩
  ·exact .inr (by simp at h1 ⊢;omega)
 ·rcases o3 _ hb with h1|h1
  ·exact .inl ⟨_,by simp,h1⟩
  ·exact .inr (by simp at h1 ⊢;omega)
 ·rcases o4 _ hb with h1|h1
  ·exact .inl ⟨_,by simp,h1⟩
  ·exact .inr (by simp at h1 ⊢;omega)
theorem F8c {h : A3} {s : Stt} {vt vp vs vi va vb : AV} {b : Pt} {a : Actn} {wt wp : AV} (ra : StR h s vt vp vs vi va vb) (hs : H6 s) (rc : ActR h a wt wp) (w : a.kind = 13#8) :
  SpecQ Tryz.prog 35 [eSt s vt vp vs vi va vb,pt b,C5 a wt wp] h (M9 h [vt,vp,vs,vi,va,vb,wt,wp] (madeP s b a)):=by
 have ta:=ra.cells
 have tc:=rc.cells
 have l1:=ra.fs.len
 have l2:=ra.fi.len
 have l3:=ra.fa.len
 have l4:=ra.fb.len
 rw [List.length_map] at l1 l2 l3 l4
 refine q35 fun env g0 g1 g2=>?_
 have ff:=E3 g0 g1 g2 ta tc l1 l2 l3 l4 w
 refine K3 (x:=?_)
 clear ff
 by_cases h1:D0 s b=2#8
 rotate_left
 ·have hm:madeP s b a=.error 191:=by simp [madeP,w,h1]
  rw [hm]
  have ff:=D8 g0 g1 g2 ta tc l1 l2 l3 l4 w h1
  refine K3 (x:=?_)
  clear ff
  exact ⟨_,rfl⟩
 have ff:=D8 g0 g1 g2 ta tc l1 l2 l3 l4 w h1
 refine K3 (x:=?_)
 clear ff
 cases h2:A8 fA s.asks a.e
 ·have hm:madeP s b a=.error 7:=by simp [madeP,w,h1,h2]
  rw [hm]
  have ff:=F8 g0 g1 g2 ta tc l1 l2 l3 l4 w h1 h2
  refine K3 (x:=?_)
  clear ff
  exact ⟨_,rfl⟩
 have hm:madeP s b a=.ok { s with asks:=del fA s.asks a.e }:=by simp [madeP,w,h1,h2]
 rw [hm]
 have ff:=F8 g0 g1 g2 ta tc l1 l2 l3 l4 w h1 h2
 refine K3 (x:=?_)
 clear ff
 refine SpecQ.step (A4J (ra.app _) hs) ?_
 rintro ⟨v,h2⟩ ⟨x1,x2,x3,x4,t,e,rs,o1,o2,o3,o4⟩
 cases e
 have tb:=rs.cells
 simp only [List.append_assoc,List.cons_append,List.nil_append] at rs ⊢
 have ff:=H7 g0 g1 g2 ta tc l1 l2 l3 l4 w h1 h2 tb
 refine K3 (x:=?_)
 clear ff
 refine N5 (A:=[_,_,_]) (N8 ra rc) rs fun y' hy b' hb=>?_
 simp only [List.mem_cons,List.not_mem_nil,or_false] at hy
 rcases hy with rfl|rfl|rfl|rfl|rfl|rfl
 ·exact .inl ⟨_,by simp,hb⟩
 ·exact .inl ⟨_,by simp,hb⟩
 ·rcases o1 _ hb with h1|h1
  ·exact .inl ⟨_,by simp,h1⟩
  ·exact .inr (by simp at h1 ⊢;omega)
 ·rcases o2 _ hb with h1|h1
  ·exact .inl ⟨_,by simp,h1⟩
  ·exact .inr (by simp at h1 ⊢;omega)
 ·rcases o3 _ hb with h1|h1
  ·exact .inl ⟨_,by simp,h1⟩
  ·exact .inr (by simp at h1 ⊢;omega)
 ·rcases o4 _ hb with h1|h1
  ·exact .inl ⟨_,by simp,h1⟩
  ·exact .inr (by simp at h1 ⊢;omega)
theorem F8d {h : A3} {s : Stt} {vt vp vs vi va vb : AV} {b : Pt} {a : Actn} {wt wp : AV} (ra : StR h s vt vp vs vi va vb) (hs : H6 s) (rc : ActR h a wt wp) (w : a.kind = 15#8) :
  SpecQ Tryz.prog 35 [eSt s vt vp vs vi va vb,pt b,C5 a wt wp] h (M9 h [vt,vp,vs,vi,va,vb,wt,wp] (madeP s b a)):=by
 have ta:=ra.cells
 have tc:=rc.cells
 have l1:=ra.fs.len
 have l2:=ra.fi.len
 have l3:=ra.fa.len
 have l4:=ra.fb.len
 rw [List.length_map] at l1 l2 l3 l4
 refine q35 fun env g0 g1 g2=>?_
 have ff:=E3 g0 g1 g2 ta tc l1 l2 l3 l4 w
 refine K3 (x:=?_)
 clear ff
 by_cases h1:D0 s b=2#8
 rotate_left
 ·have hm:madeP s b a=.error 191:=by simp [madeP,w,h1]
  rw [hm]
  have ff:=D8 g0 g1 g2 ta tc l1 l2 l3 l4 w h1
  refine K3 (x:=?_)
  clear ff
  exact ⟨_,rfl⟩
 have ff:=D8 g0 g1 g2 ta tc l1 l2 l3 l4 w h1
 refine K3 (x:=?_)
 clear ff
 cases h2:A8 fB s.bans a.e
 ·have hm:madeP s b a=.error 7:=by simp [madeP,w,h1,h2]
  rw [hm]
  have ff:=F8 g0 g1 g2 ta tc l1 l2 l3 l4 w h1 h2
  refine K3 (x:=?_)
  clear ff
  exact ⟨_,rfl⟩
 have hm:madeP s b a=.ok { s with bans:=del fB s.bans a.e }:=by simp [madeP,w,h1,h2]
 rw [hm]
 have ff:=F8 g0 g1 g2 ta tc l1 l2 l3 l4 w h1 h2
 refine K3 (x:=?_)
 clear ff
 refine SpecQ.step (G0S (ra.app _) hs) ?_
 rintro ⟨v,h2⟩ ⟨x1,x2,x3,x4,t,e,rs,o1,o2,o3,o4⟩
 cases e
 have tb:=rs.cells
 simp only [List.append_assoc,List.cons_append,List.nil_append] at rs ⊢
 have ff:=H7 g0 g1 g2 ta tc l1 l2 l3 l4 w h1 h2 tb
 refine K3 (x:=?_)
 clear ff
 refine N5 (A:=[_,_,_]) (N8 ra rc) rs fun y' hy b' hb=>?_
 simp only [List.mem_cons,List.not_mem_nil,or_false] at hy
 rcases hy with rfl|rfl|rfl|rfl|rfl|rfl
 ·exact .inl ⟨_,by simp,hb⟩
 ·exact .inl ⟨_,by simp,hb⟩
 ·rcases o1 _ hb with h1|h1
  ·exact .inl ⟨_,by simp,h1⟩
  ·exact .inr (by simp at h1 ⊢;omega)
 ·rcases o2 _ hb with h1|h1
  ·exact .inl ⟨_,by simp,h1⟩
  ·exact .inr (by simp at h1 ⊢;omega)
 ·rcases o3 _ hb with h1|h1
  ·exact .inl ⟨_,by simp,h1⟩
  ·exact .inr (by simp at h1 ⊢;omega)
 ·rcases o4 _ hb with h1|h1
  ·exact .inl ⟨_,by simp,h1⟩
  ·exact .inr (by simp at h1 ⊢;omega)
end Go.Vab

namespace Go.Vab
open Go Go.Proofs
theorem O5 {G X:Prop} (f:Hd X→G:=by
 intro xX
 repeat' (first|refine stp (x:=?_)|(with_reducible refine A5 (c18 (ra.app _)) ?_;try dsimp only)|(with_reducible refine SpecQ.step (c18 (ra.app _)) ?_;rintro _ rfl;try dsimp only)|(with_reducible refine B6 (c18 (ra.app _)) ?_)|(with_reducible refine A5 (c83 (ra.app _)) ?_;try dsimp only)|(with_reducible refine SpecQ.step (c83 (ra.app _)) ?_;rintro _ rfl;try dsimp only)|(with_reducible refine B6 (c83 (ra.app _)) ?_)|(with_reducible refine A5 (c36 (ra.app _)) ?_;try dsimp only)|(with_reducible refine SpecQ.step (c36 (ra.app _)) ?_;rintro _ rfl;try dsimp only)|(with_reducible refine B6 (c36 (ra.app _)) ?_)|(with_reducible refine A5 (c41 (ra.app _)) ?_;try dsimp only)|(with_reducible refine SpecQ.step (c41 (ra.app _)) ?_;rintro _ rfl;try dsimp only)|(with_reducible refine B6 (c41 (ra.app _)) ?_)|(with_reducible refine A5 (c42 (ra.app _)) ?_;try dsimp only)|(with_reducible refine SpecQ.step (c42 (ra.app _)) ?_;rintro _ rfl;try dsimp only)|(with_reducible refine B6 (c42 (ra.app _)) ?_)|(with_reducible refine A5 (c43 (ra.app _)) ?_;try dsimp only)|(with_reducible refine SpecQ.step (c43 (ra.app _)) ?_;rintro _ rfl;try dsimp only)|(with_reducible refine B6 (c43 (ra.app _)) ?_)|(with_reducible refine A5 (c40 (ra.app _)) ?_;try dsimp only)|(with_reducible refine SpecQ.step (c40 (ra.app _)) ?_;rintro _ rfl;try dsimp only)|(with_reducible refine B6 (c40 (ra.app _)) ?_)|(with_reducible refine A5 (P2 (ra.app _) (rc.app _)) ?_;try dsimp only)|(with_reducible refine SpecQ.step (P2 (ra.app _) (rc.app _)) ?_;rintro _ rfl;try dsimp only)|(with_reducible refine B6 (P2 (ra.app _) (rc.app _)) ?_)|(simp (decide:=true) only [A1c,snB,if_true,if_false])|(with_reducible refine A1F _ _ _ ?_)|(with_reducible refine A1G _ _ _ ?_)|(with_reducible refine A1H _ _ _ ?_)|(with_reducible refine A1I _ _ _ ?_)|(with_reducible refine A09 _ _ _ ?_)|(with_reducible refine A1A _ _ _ ?_)|(with_reducible refine A0Y _ _ _ ?_)|(with_reducible refine A0I _ _ _ ?_)|(with_reducible refine A0Z _ _ _ ?_))
 exact xX.get) (x:X):G:=f ⟨x⟩
attribute [local irreducible] E9 Evs gW D9 E8 G5
theorem F9L {h : A3} {s : Stt} {vt vp vs vi va vb : AV} {b : Pt} {a : Actn} {wt wp : AV} (ra : StR h s vt vp vs vi va vb) (hs : H6 s) (rc : ActR h a wt wp) (w : a.kind = 3#8) :
  SpecQ Tryz.prog 35 [eSt s vt vp vs vi va vb,pt b,C5 a wt wp] h (M9 h [vt,vp,vs,vi,va,vb,wt,wp] (madeP s b a)):=by
 have ta:=ra.cells
 have tc:=rc.cells
 have l1:=ra.fs.len
 have l2:=ra.fi.len
 have l3:=ra.fa.len
 have l4:=ra.fb.len
 rw [List.length_map] at l1 l2 l3 l4
 refine q35 fun env g0 g1 g2=>?_
 rcases idxI_spec fS s.seats a.e with ⟨i,hi,k1,k2,k3⟩|⟨k1,k2⟩
 rotate_left
 ·by_cases h1:D0 s b=2#8
  ·have hm:madeP s b a=.error 7:=by simp [madeP,w,k2,h1]
   rw [hm]
   have ff:=F8 g0 g1 g2 ta tc l1 l2 l3 l4 w k1 h1
   refine O5 (x:=?_)
   clear ff
   exact ⟨_,rfl⟩
  ·have hm:madeP s b a=.error 191:=by simp [madeP,w,k2,h1]
   rw [hm]
   have ff:=F8 g0 g1 g2 ta tc l1 l2 l3 l4 w k1 h1
   refine O5 (x:=?_)
   clear ff
   exact ⟨_,rfl⟩
 obtain ⟨pb,pv,pp,bb,p1,p2,p3,p4⟩:=ra.fs.idxE hi
 have ff:=Y6 g0 g1 g2 ta tc l1 l2 l3 l4 w k1 @H5 p1 p2 p3 p4
 refine O5 (x:=?_)
 clear ff
 by_cases h1:D0 s b=2#8
 rotate_left
 ·have hm:madeP s b a=.error 191:=by simp [madeP,w,k2,h1]
  rw [hm]
  have ff:=L5 g0 g1 g2 ta tc l1 l2 l3 l4 w k1 @H5 p1 p2 p3 p4 h1
  refine O5 (x:=?_)
  clear ff
  exact ⟨_,rfl⟩
 have ff:=L5 g0 g1 g2 ta tc l1 l2 l3 l4 w k1 @H5 p1 p2 p3 p4 h1
 refine O5 (x:=?_)
 clear ff
 by_cases h2:s.seats[i].role=a.role
 ·have hm:madeP s b a=.error 8:=by simp [madeP,w,k2,h1,h2]
  rw [hm]
  have ff:=z9 g0 g1 g2 ta tc l1 l2 l3 l4 w k1 @H5 p1 p2 p3 p4 h1 h2
  refine O5 (x:=?_)
  clear ff
  exact ⟨_,rfl⟩
 by_cases h3:s.seats[i].role=2#8
 ·by_cases h4:v8 s=1
  ·have hm:madeP s b a=.error 192:=by rw [h3] at h2;simp [madeP,w,k2,h1,h2,h3,h4]
   rw [hm]
   rw [h3] at h2
   have ff:=A2r g0 g1 g2 ta tc l1 l2 l3 l4 w k1 @H5 p1 p2 p3 p4 h1 h2 h3 h4
   refine O5 (x:=?_)
   clear ff
   exact ⟨_,rfl⟩
  have hm:madeP s b a=.ok { s with seats:=ins fS (del fS s.seats a.e) { s.seats[i] with role:=a.role } }:=by first|(rw [h3] at h2;simp [madeP,w,k2,h1,h2,h3,h4])|simp [madeP,w,k2,h1,h2,h3]
  rw [hm]
  rw [h3] at h2
  have ff:=A2r g0 g1 g2 ta tc l1 l2 l3 l4 w k1 @H5 p1 p2 p3 p4 h1 h2 h3 h4
  refine O5 (x:=?_)
  clear ff
  refine SpecQ.step (A1W (ra.app _) hs) ?_
  rintro ⟨v,h2⟩ ⟨x1,x2,x3,x4,t,e,rs,o1,o2,o3,o4⟩
  cases e
  have tb:=rs.cells
  simp only [List.append_assoc,List.cons_append,List.nil_append] at rs ⊢
  have hsx:H6 { s with seats:=del fS s.seats a.e }:=⟨Nat.le_trans (t9 _ _ _) hs.1,hs.2.1,hs.2.2.1,hs.2.2.2⟩
  have ff:=D6B g0 g1 g2 ta tc l1 l2 l3 l4 w k1 @H5 p1 p2 p3 p4 h1 h2 h3 h4 tb
  refine O5 (x:=?_)
  clear ff
  refine SpecQ.step (c84 (s:={ s with seats:=del fS s.seats a.e }) rs hsx) ?_
  rintro ⟨v,h2⟩ ⟨y,t2,e,rs2,oy⟩
  cases e
  have tb2:=rs2.cells
  simp only [List.append_assoc,List.cons_append,List.nil_append] at rs2 ⊢
  have ff:=A4Q g0 g1 g2 ta tc l1 l2 l3 l4 w k1 @H5 p1 p2 p3 p4 h1 h2 h3 h4 tb tb2
  refine O5 (x:=?_)
  clear ff
  refine N5 (A:=[_,_,_]) (N8 ra rc) rs2 fun y' hy b' hb=>?_
  simp only [List.mem_cons,List.not_mem_nil,or_false] at hy
  rcases hy with rfl|rfl|rfl|rfl|rfl|rfl
  ·exact .inl ⟨_,by simp,hb⟩
  ·exact .inl ⟨_,by simp,hb⟩
  ·rcases oy _ hb with h1|h1
   ·exact absurd h1 (Y5 _)
   ·exact .inr (by simp at h1 ⊢;omega)
  ·rcases o2 _ hb with h1|h1
   ·exact .inl ⟨_,by simp,h1⟩
   ·exact .inr (by simp at h1 ⊢;omega)
  ·rcases o3 _ hb with h1|h1
   ·exact .inl ⟨_,by simp,h1⟩
   ·exact .inr (by simp at h1 ⊢;omega)
  ·rcases o4 _ hb with h1|h1
   ·exact .inl ⟨_,by simp,h1⟩
   ·exact .inr (by simp at h1 ⊢;omega)
 have hm:madeP s b a=.ok { s with seats:=ins fS (del fS s.seats a.e) { s.seats[i] with role:=a.role } }:=by first|(rw [h3] at h2;simp [madeP,w,k2,h1,h2,h3,h4])|simp [madeP,w,k2,h1,h2,h3]
 rw [hm]
 have ff:=A0R g0 g1 g2 ta tc l1 l2 l3 l4 w k1 @H5 p1 p2 p3 p4 h1 h2 h3
 refine O5 (x:=?_)
 clear ff
 refine SpecQ.step (A1W (ra.app _) hs) ?_
 rintro ⟨v,h2⟩ ⟨x1,x2,x3,x4,t,e,rs,o1,o2,o3,o4⟩
 cases e
 have tb:=rs.cells
 simp only [List.append_assoc,List.cons_append,List.nil_append] at rs ⊢
 have hsx:H6 { s with seats:=del fS s.seats a.e }:=⟨Nat.le_trans (t9 _ _ _) hs.1,hs.2.1,hs.2.2.1,hs.2.2.2⟩
 have ff:=A2r g0 g1 g2 ta tc l1 l2 l3 l4 w k1 @H5 p1 p2 p3 p4 h1 h2 h3 tb
 refine O5 (x:=?_)
 clear ff
 refine SpecQ.step (c84 (s:={ s with seats:=del fS s.seats a.e }) rs hsx) ?_
 rintro ⟨v,h2⟩ ⟨y,t2,e,rs2,oy⟩
 cases e
 have tb2:=rs2.cells
 simp only [List.append_assoc,List.cons_append,List.nil_append] at rs2 ⊢
 have ff:=D6B g0 g1 g2 ta tc l1 l2 l3 l4 w k1 @H5 p1 p2 p3 p4 h1 h2 h3 tb tb2
 refine O5 (x:=?_)
 clear ff
 refine N5 (A:=[_,_,_]) (N8 ra rc) rs2 fun y' hy b' hb=>?_
 simp only [List.mem_cons,List.not_mem_nil,or_false] at hy
 rcases hy with rfl|rfl|rfl|rfl|rfl|rfl
 ·exact .inl ⟨_,by simp,hb⟩
 ·exact .inl ⟨_,by simp,hb⟩
 ·rcases oy _ hb with h1|h1
  ·exact absurd h1 (Y5 _)
  ·exact .inr (by simp at h1 ⊢;omega)
 ·rcases o2 _ hb with h1|h1
  ·exact .inl ⟨_,by simp,h1⟩
  ·exact .inr (by simp at h1 ⊢;omega)
 ·rcases o3 _ hb with h1|h1
  ·exact .inl ⟨_,by simp,h1⟩
  ·exact .inr (by simp at h1 ⊢;omega)
 ·rcases o4 _ hb with h1|h1
  ·exact .inl ⟨_,by simp,h1⟩
  ·exact .inr (by simp at h1 ⊢;omega)
theorem F8e {h : A3} {s : Stt} {vt vp vs vi va vb : AV} {b : Pt} {a : Actn} {wt wp : AV} (ra : StR h s vt vp vs vi va vb) (hs : H6 s) (rc : ActR h a wt wp) (w : a.kind = 12#8) :
  SpecQ Tryz.prog 35 [eSt s vt vp vs vi va vb,pt b,C5 a wt wp] h (M9 h [vt,vp,vs,vi,va,vb,wt,wp] (madeP s b a)):=by
 have ta:=ra.cells
 have tc:=rc.cells
 have l1:=ra.fs.len
 have l2:=ra.fi.len
 have l3:=ra.fa.len
 have l4:=ra.fb.len
 rw [List.length_map] at l1 l2 l3 l4
 refine q35 fun env g0 g1 g2=>?_
 rcases idxI_spec fA s.asks a.e with ⟨i,hi,k1,k2,k3⟩|⟨k1,k2⟩
 rotate_left
 ·cases h1:O7 s b a.role
  ·have hm:madeP s b a=.error 191:=by simp [madeP,w,k2,h1]
   rw [hm]
   have ff:=F8 g0 g1 g2 ta tc l1 l2 l3 l4 w k1 h1
   refine O5 (x:=?_)
   clear ff
   exact ⟨_,rfl⟩
  ·have hm:madeP s b a=.error 7:=by simp [madeP,w,k2,h1]
   rw [hm]
   have ff:=F8 g0 g1 g2 ta tc l1 l2 l3 l4 w k1 h1
   refine O5 (x:=?_)
   clear ff
   exact ⟨_,rfl⟩
 obtain ⟨pb,pv,pp,bb,p1,p2,p3,p4⟩:=ra.fa.idxE hi
 have ff:=Y6 g0 g1 g2 ta tc l1 l2 l3 l4 w k1 @H5 p1 p2 p3 p4
 refine O5 (x:=?_)
 clear ff
 cases h1:O7 s b a.role
 ·have hm:madeP s b a=.error 191:=by simp [madeP,w,k2,h1]
  rw [hm]
  have ff:=L5 g0 g1 g2 ta tc l1 l2 l3 l4 w k1 @H5 p1 p2 p3 p4 h1
  refine O5 (x:=?_)
  clear ff
  exact ⟨_,rfl⟩
 have ff:=L5 g0 g1 g2 ta tc l1 l2 l3 l4 w k1 @H5 p1 p2 p3 p4 h1
 refine O5 (x:=?_)
 clear ff
 by_cases h4:40≤s.seats.length
 ·have hm:madeP s b a=.error 9:=by simp [madeP,w,k2,h1,h4]
  rw [hm]
  have ff:=z9 g0 g1 g2 ta tc l1 l2 l3 l4 w k1 @H5 p1 p2 p3 p4 h1 h4
  refine O5 (x:=?_)
  clear ff
  exact ⟨_,rfl⟩
 have hm:madeP s b a=.ok { s with asks:=del fA s.asks a.e,seats:=ins fS s.seats ⟨s.asks[i].who,a.role,a.version⟩ }:=by simp [madeP,w,k2,h1,h4]
 rw [hm]
 have ff:=z9 g0 g1 g2 ta tc l1 l2 l3 l4 w k1 @H5 p1 p2 p3 p4 h1 h4
 refine O5 (x:=?_)
 clear ff
 refine SpecQ.step (A4J (ra.app _) hs) ?_
 rintro ⟨v,h2⟩ ⟨x1,x2,x3,x4,t,e,rs,o1,o2,o3,o4⟩
 cases e
 have tb:=rs.cells
 simp only [List.append_assoc,List.cons_append,List.nil_append] at rs ⊢
 have hsx:H6 { s with asks:=del fA s.asks a.e }:=⟨hs.1,hs.2.1,Nat.le_trans (t9 _ _ _) hs.2.2.1,hs.2.2.2⟩
 have ff:=A0R g0 g1 g2 ta tc l1 l2 l3 l4 w k1 @H5 p1 p2 p3 p4 h1 h4 tb
 refine O5 (x:=?_)
 clear ff
 refine SpecQ.step (c84 (s:={ s with asks:=del fA s.asks a.e }) rs hsx) ?_
 rintro ⟨v,h2⟩ ⟨y,t2,e,rs2,oy⟩
 cases e
 have tb2:=rs2.cells
 simp only [List.append_assoc,List.cons_append,List.nil_append] at rs2 ⊢
 have ff:=A2r g0 g1 g2 ta tc l1 l2 l3 l4 w k1 @H5 p1 p2 p3 p4 h1 h4 tb tb2
 refine O5 (x:=?_)
 clear ff
 refine N5 (A:=[_,_,_]) (N8 ra rc) rs2 fun y' hy b' hb=>?_
 simp only [List.mem_cons,List.not_mem_nil,or_false] at hy
 rcases hy with rfl|rfl|rfl|rfl|rfl|rfl
 ·exact .inl ⟨_,by simp,hb⟩
 ·exact .inl ⟨_,by simp,hb⟩
 ·rcases oy _ hb with h1|h1
  ·exact absurd h1 (Y5 _)
  ·exact .inr (by simp at h1 ⊢;omega)
 ·rcases o2 _ hb with h1|h1
  ·exact .inl ⟨_,by simp,h1⟩
  ·exact .inr (by simp at h1 ⊢;omega)
 ·rcases o3 _ hb with h1|h1
  ·exact .inl ⟨_,by simp,h1⟩
  ·exact .inr (by simp at h1 ⊢;omega)
 ·rcases o4 _ hb with h1|h1
  ·exact .inl ⟨_,by simp,h1⟩
  ·exact .inr (by simp at h1 ⊢;omega)
end Go.Vab

namespace Go.Vab
open Go Go.Proofs
theorem Z4 {G X:Prop} (f:Hd X→G:=by
 intro xX
 repeat' (first|refine stp (x:=?_)|(with_reducible refine A5 (c18 (ra.app _)) ?_;try dsimp only)|(with_reducible refine SpecQ.step (c18 (ra.app _)) ?_;rintro _ rfl;try dsimp only)|(with_reducible refine B6 (c18 (ra.app _)) ?_)|(with_reducible refine A5 (c83 (ra.app _)) ?_;try dsimp only)|(with_reducible refine SpecQ.step (c83 (ra.app _)) ?_;rintro _ rfl;try dsimp only)|(with_reducible refine B6 (c83 (ra.app _)) ?_)|(with_reducible refine A5 (c36 (ra.app _)) ?_;try dsimp only)|(with_reducible refine SpecQ.step (c36 (ra.app _)) ?_;rintro _ rfl;try dsimp only)|(with_reducible refine B6 (c36 (ra.app _)) ?_)|(with_reducible refine A5 (c41 (ra.app _)) ?_;try dsimp only)|(with_reducible refine SpecQ.step (c41 (ra.app _)) ?_;rintro _ rfl;try dsimp only)|(with_reducible refine B6 (c41 (ra.app _)) ?_)|(with_reducible refine A5 (c42 (ra.app _)) ?_;try dsimp only)|(with_reducible refine SpecQ.step (c42 (ra.app _)) ?_;rintro _ rfl;try dsimp only)|(with_reducible refine B6 (c42 (ra.app _)) ?_)|(with_reducible refine A5 (c43 (ra.app _)) ?_;try dsimp only)|(with_reducible refine SpecQ.step (c43 (ra.app _)) ?_;rintro _ rfl;try dsimp only)|(with_reducible refine B6 (c43 (ra.app _)) ?_)|(with_reducible refine A5 (c40 (ra.app _)) ?_;try dsimp only)|(with_reducible refine SpecQ.step (c40 (ra.app _)) ?_;rintro _ rfl;try dsimp only)|(with_reducible refine B6 (c40 (ra.app _)) ?_)|(with_reducible refine A5 (P2 (ra.app _) (rc.app _)) ?_;try dsimp only)|(with_reducible refine SpecQ.step (P2 (ra.app _) (rc.app _)) ?_;rintro _ rfl;try dsimp only)|(with_reducible refine B6 (P2 (ra.app _) (rc.app _)) ?_)|(simp (decide:=true) only [A1c,snB,if_true,if_false])|(with_reducible refine A1F _ _ _ ?_)|(with_reducible refine A1G _ _ _ ?_)|(with_reducible refine A1H _ _ _ ?_)|(with_reducible refine A1I _ _ _ ?_)|(with_reducible refine A09 _ _ _ ?_)|(with_reducible refine A1A _ _ _ ?_)|(with_reducible refine A0Y _ _ _ ?_)|(with_reducible refine A0I _ _ _ ?_)|(with_reducible refine A0Z _ _ _ ?_))
 exact xX.get) (x:X):G:=f ⟨x⟩
theorem D9P {G X:Prop} (f:Hd X→G:=by
 intro xX
 repeat' (first|refine stp (x:=?_)|(with_reducible refine A5 (c86) ?_;try dsimp only)|(with_reducible refine SpecQ.step (c86) ?_;rintro _ rfl;try dsimp only)|(with_reducible refine B6 (c86) ?_)|(simp (decide:=true) only [A1c,snB,if_true,if_false])|(with_reducible refine A1F _ _ _ ?_)|(with_reducible refine A1G _ _ _ ?_)|(with_reducible refine A1H _ _ _ ?_)|(with_reducible refine A1I _ _ _ ?_)|(with_reducible refine A09 _ _ _ ?_)|(with_reducible refine A1A _ _ _ ?_)|(with_reducible refine A0Y _ _ _ ?_)|(with_reducible refine A0I _ _ _ ?_)|(with_reducible refine A0Z _ _ _ ?_))
 exact xX.get) (x:X):G:=f ⟨x⟩
theorem A5Q {G X:Prop} (f:Hd X→G:=by
 intro xX
 repeat' (first|refine stp (x:=?_)|(simp (decide:=true) only [A1c,snB,if_true,if_false])|(with_reducible refine A1F _ _ _ ?_)|(with_reducible refine A1G _ _ _ ?_)|(with_reducible refine A1H _ _ _ ?_)|(with_reducible refine A1I _ _ _ ?_)|(with_reducible refine A09 _ _ _ ?_)|(with_reducible refine A1A _ _ _ ?_)|(with_reducible refine A0Y _ _ _ ?_)|(with_reducible refine A0I _ _ _ ?_)|(with_reducible refine A0Z _ _ _ ?_))
 exact xX.get) (x:X):G:=f ⟨x⟩
theorem F7Z {G X:Prop} (f:Hd X→G:=by
 intro xX
 repeat' (first|refine stp (x:=?_)|(with_reducible refine A5 (c36 (ra.app _)) ?_;try dsimp only)|(with_reducible refine SpecQ.step (c36 (ra.app _)) ?_;rintro _ rfl;try dsimp only)|(with_reducible refine B6 (c36 (ra.app _)) ?_)|(simp (decide:=true) only [A1c,snB,if_true,if_false])|(with_reducible refine A1F _ _ _ ?_)|(with_reducible refine A1G _ _ _ ?_)|(with_reducible refine A1H _ _ _ ?_)|(with_reducible refine A1I _ _ _ ?_)|(with_reducible refine A09 _ _ _ ?_)|(with_reducible refine A1A _ _ _ ?_)|(with_reducible refine A0Y _ _ _ ?_)|(with_reducible refine A0I _ _ _ ?_)|(with_reducible refine A0Z _ _ _ ?_))
 exact xX.get) (x:X):G:=f ⟨x⟩
attribute [local irreducible] E9 Evs gW D9 E8 G5
theorem F9M {h : A3} {s : Stt} {vt vp vs vi va vb : AV} {b : Pt} {a : Actn} {wt wp : AV} (ra : StR h s vt vp vs vi va vb) (hs : H6 s) (rc : ActR h a wt wp) (w : a.kind = 5#8) :
  SpecQ Tryz.prog 35 [eSt s vt vp vs vi va vb,pt b,C5 a wt wp] h (M9 h [vt,vp,vs,vi,va,vb,wt,wp] (madeP s b a)):=by
 have ta:=ra.cells
 have tc:=rc.cells
 have l1:=ra.fs.len
 have l2:=ra.fi.len
 have l3:=ra.fa.len
 have l4:=ra.fb.len
 rw [List.length_map] at l1 l2 l3 l4
 refine q35 fun env g0 g1 g2=>?_
 have ff:=E3 g0 g1 g2 ta tc l1 l2 l3 l4 w
 refine Z4 (x:=?_)
 clear ff
 cases h1:O7 s b a.role
 ·have hm:madeP s b a=.error 191:=by simp [madeP,w,h1]
  rw [hm]
  have ff:=D8 g0 g1 g2 ta tc l1 l2 l3 l4 w h1
  refine Z4 (x:=?_)
  clear ff
  exact ⟨_,rfl⟩
 have ff:=D8 g0 g1 g2 ta tc l1 l2 l3 l4 w h1
 refine Z4 (x:=?_)
 clear ff
 cases h2:A8 fB s.bans a.who.e
 rotate_left
 ·have hm:madeP s b a=.error 193:=by simp [madeP,w,h1,h2]
  rw [hm]
  have ff:=F8 g0 g1 g2 ta tc l1 l2 l3 l4 w h1 h2
  refine Z4 (x:=?_)
  clear ff
  exact ⟨_,rfl⟩
 have ff:=F8 g0 g1 g2 ta tc l1 l2 l3 l4 w h1 h2
 refine Z4 (x:=?_)
 clear ff
 cases h3:A8 fS s.seats a.who.e
 rotate_left
 ·have hm:madeP s b a=.error 8:=by simp [madeP,w,h1,h2,h3]
  rw [hm]
  have ff:=H7 g0 g1 g2 ta tc l1 l2 l3 l4 w h1 h2 h3
  refine Z4 (x:=?_)
  clear ff
  exact ⟨_,rfl⟩
 have ff:=H7 g0 g1 g2 ta tc l1 l2 l3 l4 w h1 h2 h3
 refine Z4 (x:=?_)
 clear ff
 cases h3b:A8 fI s.invites a.who.e
 rotate_left
 ·have hm:madeP s b a=.error 8:=by simp [madeP,w,h1,h2,h3,h3b]
  rw [hm]
  have ff:=N9 g0 g1 g2 ta tc l1 l2 l3 l4 w h1 h2 h3 h3b
  refine Z4 (x:=?_)
  clear ff
  exact ⟨_,rfl⟩
 have ff:=N9 g0 g1 g2 ta tc l1 l2 l3 l4 w h1 h2 h3 h3b
 refine Z4 (x:=?_)
 clear ff
 by_cases h4:40≤s.invites.length
 ·have hm:madeP s b a=.error 9:=by simp [madeP,w,h1,h2,h3,h3b,h4]
  rw [hm]
  have ff:=T9 g0 g1 g2 ta tc l1 l2 l3 l4 w h1 h2 h3 h3b h4
  refine Z4 (x:=?_)
  clear ff
  exact ⟨_,rfl⟩
 have hm:madeP s b a=.ok { s with asks:=del fA s.asks a.who.e,invites:=ins fI s.invites ⟨a.who,a.role,I1 s b⟩ }:=by simp [madeP,w,h1,h2,h3,h3b,h4]
 rw [hm]
 have ff:=T9 g0 g1 g2 ta tc l1 l2 l3 l4 w h1 h2 h3 h3b h4
 refine Z4 (x:=?_)
 clear ff
 refine SpecQ.step (A4J (ra.app _) hs) ?_
 rintro ⟨v,h2⟩ ⟨x1,x2,x3,x4,t,e,rs,o1,o2,o3,o4⟩
 cases e
 have tb:=rs.cells
 simp only [List.append_assoc,List.cons_append,List.nil_append] at rs ⊢
 have ff:=Y6 g0 g1 g2 ta tc l1 l2 l3 l4 w h1 h2 h3 h3b h4 tb
 refine Z4 (x:=?_)
 clear ff
 have hrow:Row B1 (h++⟨eSt s vt vp vs vi va vb,0,.own⟩::⟨pt b,0,.own⟩::⟨C5 a wt wp,0,.own⟩::⟨C1 0#32 ci0 D4 .nilslice .nilslice .nilslice .nilslice .nilslice .nilslice,0,.own⟩::⟨C1 0#32 ci0 D4 .nilslice .nilslice .nilslice .nilslice .nilslice .nilslice,0,.own⟩::t) x2 (s.invites.map B7):=rs.fi
 have lrow:=hrow.len
 have brow:=hrow.bound
 rw [List.length_map] at lrow brow
 refine Y9 (fun r=>∃ env',r=(.exit 3,⟨env',h++⟨eSt s vt vp vs vi va vb,0,.own⟩::⟨pt b,0,.own⟩::⟨C5 a wt wp,0,.own⟩::⟨C1 0#32 ci0 D4 .nilslice .nilslice .nilslice .nilslice .nilslice .nilslice,0,.own⟩::⟨C1 0#32 ci0 D4 .nilslice .nilslice .nilslice .nilslice .nilslice .nilslice,0,.own⟩::(t++⟨eSt s vt vp x1 x2 x3 x4,0,.own⟩::[])⟩)∧env'.get 3=.ptr h.length 0 [] A6∧env'.get 4=.ptr (h.length+1) 0 [] (.arr 32 (.int .u8))∧env'.get 5=.ptr (h.length+2) 0 [] D5∧env'.get 6=.ptr (h.length+3) 0 [] A6∧env'.get 9=.ptr (h.length+4) 0 [] A6∧env'.get 10=.ptr (h.length+(List.length t+1+1+1+1+1)) 0 [] A6∧env'.get 11=nat (low fI s.invites (a.who.e))) ?_ ?_
 ·refine G0 s.invites.length (fun i st => ∃ env', st = ⟨env', h ++ ⟨eSt s vt vp vs vi va vb, 0, .own⟩ :: ⟨pt b, 0, .own⟩ :: ⟨C5 a wt wp, 0, .own⟩ :: ⟨C1 0#32 ci0 D4 .nilslice .nilslice .nilslice .nilslice .nilslice .nilslice, 0, .own⟩ :: ⟨C1 0#32 ci0 D4 .nilslice .nilslice .nilslice .nilslice .nilslice .nilslice, 0, .own⟩ :: (t ++ ⟨eSt s vt vp x1 x2 x3 x4, 0, .own⟩ :: [])⟩ ∧ env'.get 3 = .ptr h.length 0 [] A6 ∧ env'.get 4 = .ptr (h.length + 1) 0 [] (.arr 32 (.int .u8)) ∧ env'.get 5 = .ptr (h.length + 2) 0 [] D5 ∧ env'.get 6 = .ptr (h.length + 3) 0 [] A6 ∧ env'.get 9 = .ptr (h.length + 4) 0 [] A6 ∧ env'.get 10 = .ptr (h.length + (List.length t + 1 + 1 + 1 + 1 + 1)) 0 [] A6 ∧ env'.get 11 = nat i ∧ ∀ j (hj : j < s.invites.length), j < i → ltP (fI s.invites[j]) (a.who.e) = true) ?_ ?_
   ⟨_,(by simp;rfl),by simp,by simp,by simp,by simp,by simp,by simp,by simp,fun j _ hj=>absurd hj (by omega)⟩
  ·rintro i st hi ⟨env',rfl,e3,e4,e5,e6,e9,e10,e11,hlt⟩
   obtain ⟨pb,pv,pp,bb,p1,p2,p3,p4⟩:=hrow.idxE hi
   have p2':=p2 [⟨eSt s vt vp x1 x2 x3 x4,0,.own⟩]
   simp only [List.append_assoc,List.cons_append,List.nil_append] at p2'
   cases hq:ltP s.invites[i].who.e (a.who.e)
   ·have hlow:low fI s.invites (a.who.e)=i:=X8 fI (by omega) hlt (fun _ => hq)
    have ff:=L5 ta tc tb lrow hi p1 p2' p3 p4 e3 e4 e5 e6 e9 e10 e11 hq
    refine D9P (x:=?_)
    clear ff
    exact .inr ⟨by simp,_,rfl,by simp [e3],by simp [e4],by simp [e5],by simp [e6],by simp [e9],by simp [e10],by simp [e11,hlow]⟩
   ·skip
    have ff:=L5 ta tc tb lrow hi p1 p2' p3 p4 e3 e4 e5 e6 e9 e10 e11 hq
    refine D9P (x:=?_)
    clear ff
    refine .inl ⟨by simp,_,rfl,by simp [e3],by simp [e4],by simp [e5],by simp [e6],by simp [e9],by simp [e10],by simp,fun j hj hji=>?_⟩
    by_cases hq':j=i
    ·subst hq';exact hq
    ·exact hlt j hj (by omega)
  ·rintro st ⟨env',rfl,e3,e4,e5,e6,e9,e10,e11,hlt⟩
   have hlow:low fI s.invites (a.who.e)=s.invites.length:=X8 fI (Nat.le_refl _) hlt (fun hi=>absurd hi (by omega))
   have ff:=D8 ta tc tb lrow e3 e4 e5 e6 e9 e10 e11
   refine A5Q (x:=?_)
   clear ff
   exact ⟨by simp,_,rfl,by simp [e3],by simp [e4],by simp [e5],by simp [e6],by simp [e9],by simp [e10],by simp [e11,hlow]⟩
 rintro r ⟨env,rfl,e3,e4,e5,e6,e9,e10,e11⟩
 have hn:=A0o fI s.invites (a.who.e)
 generalize hN:low fI s.invites (a.who.e)=n at e11 hn
 obtain ⟨y1,f1,r1,_⟩:=hrow.pre (n:=n) (by simpa using hn)
 obtain ⟨y2,f2,r2,_⟩:=hrow.suf (n:=n) (by simpa using hn)
 rw [A40] at r1
 rw [A41] at r2
 obtain ⟨im,him,m1,m2,m3⟩:∃ im,∃ him:im < s.seats.length,U1 fS s.seats b=im∧fnd fS s.seats b=some s.seats[im]∧fS s.seats[im]=b:=by
  rcases idxI_spec fS s.seats b with q|⟨m1,m2⟩
  ·exact q
  ·exfalso;simp [O7,D0,m2] at h1
 obtain ⟨qb,qv,qp,cc,q1,q2,q3,q4⟩:=ra.fs.idxE him
 have hme:I1 s b=s.seats[im].who:=by simp [I1,m2]
 have ff:=z9 ta tc tb f1 f2 e3 e4 e5 e6 e9 e10 e11 m1 @H5 q1 q2 q3 q4
 refine A5Q (x:=?_)
 clear ff
 refine Y2 (h:=h) (⟨eSt s vt vp vs vi va vb,0,.own⟩::⟨pt b,0,.own⟩::⟨C5 a wt wp,0,.own⟩::⟨C1 0#32 ci0 D4 .nilslice .nilslice .nilslice .nilslice .nilslice .nilslice,0,.own⟩::⟨C1 0#32 ci0 D4 .nilslice .nilslice .nilslice .nilslice .nilslice .nilslice,0,.own⟩::(t++[⟨eSt s vt vp x1 x2 x3 x4,0,.own⟩])) [⟨.node [],0,.own⟩] [] (n:=h.length+(List.length t+1+1+1+1+1+1)) (es:=[]) (new:=(s.invites.take n).map B7) (by simp) (by simp only [List.length_cons,List.length_append,List.length_nil] <;> omega) a9 (fun _ => rfl) RnU.one (by have:=(r1.app ([⟨eSt s vt vp x1 x2 x3 x4,0,.own⟩,⟨.node [],0,.own⟩])).1;simpa using this) (by simp;omega) (by omega) fun z1 u1 gz1 _ _ _ => ?_
 have cz1:=gz1.cell
 simp only [List.nil_append,List.cons_append,List.append_assoc] at gz1 ⊢
 have ff:=A0R ta tc tb f1 f2 e3 e4 e5 e6 e9 e10 e11 m1 @H5 q1 q2 q3 q4 cz1
 refine F7Z (x:=?_)
 clear ff
 refine Y2 (h:=h) (⟨eSt s vt vp vs vi va vb,0,.own⟩::⟨pt b,0,.own⟩::⟨C5 a wt wp,0,.own⟩::⟨C1 0#32 ci0 D4 .nilslice .nilslice .nilslice .nilslice .nilslice .nilslice,0,.own⟩::⟨C1 0#32 ci0 D4 .nilslice .nilslice .nilslice .nilslice .nilslice .nilslice,0,.own⟩::(t++[⟨eSt s vt vp x1 x2 x3 x4,0,.own⟩])) u1 [⟨.node [B7 ⟨a.who,a.role,s.seats[im].who⟩],0,.own⟩] (n:=h.length+(List.length t+1+1+1+1+1+1)) (es:=(s.invites.take n).map B7) (new:=[B7 ⟨a.who,a.role,s.seats[im].who⟩]) (by simp) (by simp only [List.length_cons,List.length_append,List.length_nil] <;> omega) a9 (fun _ => rfl) gz1 (by rw [M6];simp) (by simp;omega) (by omega) fun z2 u2 gz2 _ _ _ => ?_
 have cz2:=gz2.cell
 simp only [List.nil_append,List.cons_append,List.append_assoc] at gz2 ⊢
 have ff:=A2r ta tc tb f1 f2 e3 e4 e5 e6 e9 e10 e11 m1 @H5 q1 q2 q3 q4 cz1 cz2
 refine A5Q (x:=?_)
 clear ff
 refine Y2 (h:=h) (⟨eSt s vt vp vs vi va vb,0,.own⟩::⟨pt b,0,.own⟩::⟨C5 a wt wp,0,.own⟩::⟨C1 0#32 ci0 D4 .nilslice .nilslice .nilslice .nilslice .nilslice .nilslice,0,.own⟩::⟨C1 0#32 ci0 D4 .nilslice .nilslice .nilslice .nilslice .nilslice .nilslice,0,.own⟩::(t++[⟨eSt s vt vp x1 x2 x3 x4,0,.own⟩])) u2 [] (n:=h.length+(List.length t+1+1+1+1+1+1)) (es:=(s.invites.take n).map B7++[B7 ⟨a.who,a.role,s.seats[im].who⟩]) (new:=(s.invites.drop n).map B7) (by simp) (by simp only [List.length_cons,List.length_append,List.length_nil] <;> omega) a9 (fun _ => rfl) gz2 (by have:=(r2.app (⟨eSt s vt vp x1 x2 x3 x4,0,.own⟩::u2)).1;simpa using this) (by simp;omega) (by omega) fun z3 u3 gz3 _ _ _ => ?_
 have cz3:=gz3.cell
 simp only [List.nil_append,List.cons_append,List.append_assoc] at gz3 ⊢
 have ff:=D6B ta tc tb f1 f2 e3 e4 e5 e6 e9 e10 e11 m1 @H5 q1 q2 q3 q4 cz1 cz2 cz3
 refine A5Q (x:=?_)
 clear ff
 have hfin:Row B1 (h++⟨eSt s vt vp vs vi va vb,0,.own⟩::⟨pt b,0,.own⟩::⟨C5 a wt wp,0,.own⟩::⟨C1 0#32 ci0 D4 .nilslice .nilslice .nilslice .nilslice .nilslice .nilslice,0,.own⟩::⟨C1 0#32 ci0 D4 .nilslice .nilslice .nilslice .nilslice .nilslice .nilslice,0,.own⟩::(t++⟨eSt s vt vp x1 z3 x3 x4,0,.own⟩::u3)) z3 ((ins fI s.invites ⟨a.who,a.role,s.seats[im].who⟩).map B7):=by
  have:=gz3.row (F:=h++(⟨eSt s vt vp vs vi va vb,0,.own⟩::⟨pt b,0,.own⟩::⟨C5 a wt wp,0,.own⟩::⟨C1 0#32 ci0 D4 .nilslice .nilslice .nilslice .nilslice .nilslice .nilslice,0,.own⟩::⟨C1 0#32 ci0 D4 .nilslice .nilslice .nilslice .nilslice .nilslice .nilslice,0,.own⟩::(t++[⟨eSt s vt vp x1 z3 x3 x4,0,.own⟩]))) (l:=[]) a9 (by simp only [List.length_cons,List.length_append,List.length_nil] <;> omega)
  have hk:fI ⟨a.who,a.role,s.seats[im].who⟩=a.who.e:=rfl
  simpa [ins,hk,hN] using this
 have oz:Lo (h.length+5) .nilslice z3:=fun b' hb'=>.inr (by have:=(gz3.rb_ge b' hb').1;omega)
 rw [hme]
 have q:∀ {ty:Ty} {x:AV} {es:List AV},Row ty (h++⟨eSt s vt vp vs vi va vb,0,.own⟩::⟨pt b,0,.own⟩::⟨C5 a wt wp,0,.own⟩::⟨C1 0#32 ci0 D4 .nilslice .nilslice .nilslice .nilslice .nilslice .nilslice,0,.own⟩::⟨C1 0#32 ci0 D4 .nilslice .nilslice .nilslice .nilslice .nilslice .nilslice,0,.own⟩::t) x es→Row ty (h++⟨eSt s vt vp vs vi va vb,0,.own⟩::⟨pt b,0,.own⟩::⟨C5 a wt wp,0,.own⟩::⟨C1 0#32 ci0 D4 .nilslice .nilslice .nilslice .nilslice .nilslice .nilslice,0,.own⟩::⟨C1 0#32 ci0 D4 .nilslice .nilslice .nilslice .nilslice .nilslice .nilslice,0,.own⟩::(t++⟨eSt s vt vp x1 z3 x3 x4,0,.own⟩::u3)) x es:=fun r=>by have:=r.app (⟨eSt s vt vp x1 z3 x3 x4,0,.own⟩::u3);simpa using this
 have rs2:StR (h++⟨eSt s vt vp vs vi va vb,0,.own⟩::⟨pt b,0,.own⟩::⟨C5 a wt wp,0,.own⟩::⟨C1 0#32 ci0 D4 .nilslice .nilslice .nilslice .nilslice .nilslice .nilslice,0,.own⟩::⟨C1 0#32 ci0 D4 .nilslice .nilslice .nilslice .nilslice .nilslice .nilslice,0,.own⟩::(t++⟨eSt s vt vp x1 z3 x3 x4,0,.own⟩::u3)) { s with asks:=del fA s.asks a.who.e,invites:=ins fI s.invites ⟨a.who,a.role,s.seats[im].who⟩ } vt vp x1 z3 x3 x4:=⟨ra.ft.app _,ra.fp.app _,q rs.fs,hfin,q rs.fa,q rs.fb⟩
 refine N5 (A:=[_,_,_]) (N8 ra rc) rs2 fun y' hy b' hb=>?_
 simp only [List.mem_cons,List.not_mem_nil,or_false] at hy
 rcases hy with rfl|rfl|rfl|rfl|rfl|rfl
 ·exact .inl ⟨_,by simp,hb⟩
 ·exact .inl ⟨_,by simp,hb⟩
 ·rcases o1 _ hb with h1|h1
  ·exact .inl ⟨_,by simp,h1⟩
  ·exact .inr (by simp at h1 ⊢;omega)
 ·rcases oz _ hb with h1|h1
  ·exact absurd h1 (Y5 _)
  ·exact .inr (by simp at h1 ⊢;omega)
 ·rcases o3 _ hb with h1|h1
  ·exact .inl ⟨_,by simp,h1⟩
  ·exact .inr (by simp at h1 ⊢;omega)
 ·rcases o4 _ hb with h1|h1
  ·exact .inl ⟨_,by simp,h1⟩
  ·exact .inr (by simp at h1 ⊢;omega)
end Go.Vab

namespace Go.Vab
open Go Go.Proofs
noncomputable section
def A21:Ctx:=⟨fun _ _ _ => none,TT,311,[16,17,18,19,20,23,25,26,27,29,30,31,32,33,34,35,36,37,38,39,40,41,42,43,44,45,47,48,49,50,51,53,54,55,57,58,59,61,62,63,64,65,66,67,68,69,70,71,72,73,74,75,76,77,78,80,81,82,83,85,86,87,89,90,91,92,93,94,95,96,97,98,99,100,101,102,103,104,105,106,107,108,109,110,111,112,114,115,116,117,119,120,121,122,124,126,127,128,129,130,131,133,134,135,136,137,139,140,141,143,144,145,146,147,149,150,151,152,153,155,156,157,158,159,160,161,162,163,164,165,166,167,168,170,172,173,174,175,176,177,179,180,181,182,183,185,186,187,188,189,190,191,192,193,194,195,196,197,198,199,201,202,203,204,205,207,208,209,210,211,213,214,215,216,217,218,219,220,221,222,223,224,225,226,227,228,229,230,231,232,233,235,236,237,238,239,240,241,242,243,244,245,246,247,248,249,250,251,252,253,254,255,256,257,258,260,261,262,263,265,266,267,268,269,270,271,272,274,275,276,277,278,279,280,281,282,283,284,285,286,287,288,289,290,291,292,293,294,295,297,298,299,300,301,302,304,305,306,307,308,309,310]⟩
def D5O:=B8 Tryz.f87
def D5P:=cR D5O
def D5Q:=cR D5P
def B5k:=cR D5Q
def D5R:=cL B5k
def D5S:=cR D5R
def D5T:=cB D5S
def B5l:=cR D5T
def B5m:=cL B5l
def D5U:=cL B5m
def C9N:=cB D5U
def B2x:=cR C9N
def C9O:=cL B2x
def E8z:=cR C9O
def C9P:=cR B2x
def B2y:=cR C9P
def C9Q:=cL B2y
def E80:=cR C9Q
def E81:=cR B2y
def C9R:=cR B5m
def E82:=cR C9R
def C9S:=cR B5l
def B2z:=cR C9S
def C9T:=cL B2z
def B20:=cR C9T
def C9U:=cL B20
def C9V:=cB C9U
def B21:=cR C9V
def C9W:=cL B21
def E83:=cR C9W
def C9X:=cR B21
def B22:=cR C9X
def C9Y:=cL B22
def E84:=cR C9Y
def C9Z:=cR B22
def B23:=cR C9Z
def C9a:=cL B23
def E85:=cR C9a
def E86:=cR B23
def C9b:=cR B20
def E87:=cR C9b
def C9c:=cR B2z
def B24:=cR C9c
def C9d:=cL B24
def B25:=cR C9d
def C9e:=cL B25
def C9f:=cB C9e
def B26:=cR C9f
def C9g:=cL B26
def E88:=cR C9g
def C9h:=cR B26
def B27:=cR C9h
def C9i:=cL B27
def E89:=cR C9i
def E9A:=cR B27
def C9j:=cR B25
def E9B:=cR C9j
def C9k:=cR B24
def B28:=cR C9k
def B29:=cL B28
def C9l:=cL B29
def B3A:=cR C9l
def C9m:=cL B3A
def E9C:=cR C9m
def E9D:=cR B3A
def C9n:=cR B29
def E9E:=cR C9n
def C9o:=cR B28
def B3B:=cR C9o
def B3C:=cL B3B
def C9p:=cL B3C
def C9q:=cB C9p
def B3D:=cR C9q
def C9r:=cL B3D
def E9F:=cR C9r
def C9s:=cR B3D
def B3E:=cR C9s
def C9t:=cL B3E
def E9G:=cR C9t
def C9u:=cR B3E
def B3F:=cR C9u
def C9v:=cL B3F
def E9H:=cR C9v
def C9w:=cR B3F
def B3G:=cR C9w
def C9x:=cL B3G
def E9I:=cR C9x
def C9y:=cR B3G
def B3H:=cR C9y
def C9z:=cL B3H
def E9J:=cR C9z
def C90:=cR B3H
def B3I:=cR C90
def C91:=cL B3I
def E9K:=cR C91
def E9L:=cR B3I
def C92:=cR B3C
def E9M:=cR C92
def C93:=cR B3B
def B3J:=cR C93
def A69:=cL B3J
def B90:=cL A69
def B91:=cB B90
def A7A:=cR B91
def B92:=cL A7A
def E1v:=cR B92
def B93:=cR A7A
def A7B:=cR B93
def B94:=cL A7B
def E1w:=cR B94
def B95:=cR A7B
def A7C:=cR B95
def B96:=cL A7C
def E1x:=cR B96
def B97:=cR A7C
def A7D:=cR B97
def B98:=cL A7D
def E1y:=cR B98
def B99:=cR A7D
def A7E:=cR B99
def C0A:=cL A7E
def E1z:=cR C0A
def C0B:=cR A7E
def A7F:=cR C0B
def C0C:=cL A7F
def E10:=cR C0C
def E11:=cR A7F
def C0D:=cR A69
def C0E:=cR C0D
def A7G:=cR C0E
def C0F:=cL A7G
def C0G:=cB C0F
def A7H:=cB C0G
def C0H:=cL A7H
def A7I:=cR C0H
def E12:=cL A7I
def E13:=cR A7I
def C0I:=cR A7H
def E14:=cB C0I
def C0J:=cR A7G
def C0K:=cR C0J
def C0L:=cR C0K
def C0M:=cR C0L
def E15:=cR C0M
def C0N:=cR B3J
def A7J:=cR C0N
def A7K:=cL A7J
def C0O:=cL A7K
def A7L:=cR C0O
def C0P:=cL A7L
def E16:=cR C0P
def E17:=cR A7L
def C0Q:=cR A7K
def E18:=cR C0Q
def E19:=cR A7J
def C0R:=cR B5k
def A7M:=cR C0R
def C0S:=cL A7M
def A7N:=cB C0S
def C0T:=cL A7N
def A7O:=cR C0T
def E2A:=cL A7O
def E2B:=cR A7O
def A7P:=cR A7N
def C0U:=cL A7P
def E2C:=cR C0U
def C0V:=cR A7P
def A7Q:=cR C0V
def E2D:=cL A7Q
def C0W:=cR A7Q
def A7R:=cR C0W
def E2E:=cL A7R
def E2F:=cR A7R
def C0X:=cR A7M
def E2G:=cR C0X
def q87:=zQ3 A21 87 Tryz.f87 D5O fun s=>(bnd (D6 A6 (s.env.get 6) s.heap) fun v=>bnd (bnd (some (s.env.get 7)) fun v=>bnd (some []) fun vs=>some (v::vs)) fun vs=>some (v::vs))
def A16:=zDr A21 [B23,C9Z] [] [0,1,3,7,15,7,63,127,255,511,7,2047,4095,8191] [0,1,2,3,4,5,6,7,8,9,10,11,12,13] .f
def A17:=zDr A21 [E9B,C9j] [2,18,19] [0,0,3,0,8,0,56,120,248,0,512,0,3584,7680,15872,0,32768,131064,262143,524287,1048575] [0,1,3,4,5,6,7,8,9,10,11,12,13,14,15,16,17] (.o 2 [] [4,8,10,14,16] (.o 18 [] [] (.o 19 [20] [] .f)))
def A18:=zDr A21 [E9M,C92] [2,8,9] [0,0,3,0,8,0,32,120,255,511,1023] [0,1,3,4,5,6,7] (.o 2 [] [4,6] (.o 8 [] [] (.o 9 [10] [] .f)))
def A1u:=zDr A21 [A7I,C0H] [] [0,0,2,6,15,31,63,127,63,511,1023,2047,4095,63,16383,32767] [0,1,2,3,4,5,6,7,8,9,10,11,12,13,14,15] .f
def A22:=B3 A21 [[E8z],[E8z,C9O],[E80],[E80,C9Q],[E81],[C9Q,E81,B2y],[B2y,C9P],[C9O,C9P,B2x],[B2x,C9N],[C9N,D5U],[E82],[E82,C9R],[D5U,C9R,B5m],[E83],[E83,C9W],[E84],[E84,C9Y],[E85],[E85,C9a],[E86],[C9a,E86,B23],[C9Y,C9Z,B22],[B22,C9X],[C9W,C9X,B21],[B21,C9V],[C9V,C9U],[E87],[E87,C9b],[C9U,C9b,B20],[B20,C9T],[E88],[E88,C9g],[E89],[E89,C9i],[E9A],[C9i,E9A,B27],[B27,C9h],[C9g,C9h,B26],[B26,C9f],[C9f,C9e],[E9B],[C9e,C9j,B25],[B25,C9d],[E9C],[E9C,C9m],[E9D],[C9m,E9D,B3A],[B3A,C9l],[E9E],[E9E,C9n],[C9l,C9n,B29],[E9F],[E9F,C9r],[E9G],[E9G,C9t],[E9H],[E9H,C9v],[E9I],[E9I,C9x],[E9J],[E9J,C9z],[E9K],[E9K,C91],[E9L],[C91,E9L,B3I],[B3I,C90],[C9z,C90,B3H],[B3H,C9y],[C9x,C9y,B3G],[B3G,C9w],[C9v,C9w,B3F],[B3F,C9u],[C9t,C9u,B3E],[B3E,C9s],[C9r,C9s,B3D],[B3D,C9q],[C9q,C9p],[E9M],[C9p,C92,B3C],[E1v],[E1v,B92],[E1w],[E1w,B94],[E1x],[E1x,B96],[E1y],[E1y,B98],[E1z],[E1z,C0A],[E10],[E10,C0C],[E11],[C0C,E11,A7F],[A7F,C0B],[C0A,C0B,A7E],[A7E,B99],[B98,B99,A7D],[A7D,B97],[B96,B97,A7C],[A7C,B95],[B94,B95,A7B],[A7B,B93],[B92,B93,A7A],[A7A,B91],[B91,B90],[E12],[E13],[E12,E13,A7I],[E14],[E14,C0I],[C0H,C0I,A7H],[A7H,C0G],[C0G,C0F],[E15],[E15,C0M],[C0M,C0L],[C0L,C0K],[C0K,C0J],[C0F,C0J,A7G],[A7G,C0E],[C0E,C0D],[B90,C0D,A69],[E16],[E16,C0P],[E17],[C0P,E17,A7L],[A7L,C0O],[E18],[E18,C0Q],[C0O,C0Q,A7K],[E19],[A7K,E19,A7J],[A7J,C0N],[A69,C0N,B3J],[B3J,C93],[B3C,C93,B3B],[B3B,C9o],[B29,C9o,B28],[B28,C9k],[C9d,C9k,B24],[B24,C9c],[C9T,C9c,B2z],[B2z,C9S],[B5m,C9S,B5l],[B5l,D5T],[D5T,D5S],[D5S,D5R],[E2A],[E2B],[E2A,E2B,A7O],[A7O,C0T],[E2C],[E2C,C0U],[E2D],[E2E],[E2F],[E2E,E2F,A7R],[A7R,C0W],[E2D,C0W,A7Q],[A7Q,C0V],[C0U,C0V,A7P],[C0T,A7P,A7N],[A7N,C0S],[E2G],[E2G,C0X],[C0S,C0X,A7M],[A7M,C0R],[D5R,C0R,B5k],[B5k,D5Q],[D5Q,D5P],[D5P,D5O]]
end
end Go.Vab

namespace Go.Vab
open Go Go.Proofs
theorem L7 {G X:Prop} (f:Hd X→G:=by
 intro xX
 repeat' (first|refine stp (x:=?_)|(with_reducible refine A5 (c18 (ra.app _)) ?_;try dsimp only)|(with_reducible refine SpecQ.step (c18 (ra.app _)) ?_;rintro _ rfl;try dsimp only)|(with_reducible refine B6 (c18 (ra.app _)) ?_)|(with_reducible refine A5 (c83 (ra.app _)) ?_;try dsimp only)|(with_reducible refine SpecQ.step (c83 (ra.app _)) ?_;rintro _ rfl;try dsimp only)|(with_reducible refine B6 (c83 (ra.app _)) ?_)|(with_reducible refine A5 (c36 (ra.app _)) ?_;try dsimp only)|(with_reducible refine SpecQ.step (c36 (ra.app _)) ?_;rintro _ rfl;try dsimp only)|(with_reducible refine B6 (c36 (ra.app _)) ?_)|(with_reducible refine A5 (c41 (ra.app _)) ?_;try dsimp only)|(with_reducible refine SpecQ.step (c41 (ra.app _)) ?_;rintro _ rfl;try dsimp only)|(with_reducible refine B6 (c41 (ra.app _)) ?_)|(with_reducible refine A5 (c42 (ra.app _)) ?_;try dsimp only)|(with_reducible refine SpecQ.step (c42 (ra.app _)) ?_;rintro _ rfl;try dsimp only)|(with_reducible refine B6 (c42 (ra.app _)) ?_)|(with_reducible refine A5 (c43 (ra.app _)) ?_;try dsimp only)|(with_reducible refine SpecQ.step (c43 (ra.app _)) ?_;rintro _ rfl;try dsimp only)|(with_reducible refine B6 (c43 (ra.app _)) ?_)|(with_reducible refine A5 (c40 (ra.app _)) ?_;try dsimp only)|(with_reducible refine SpecQ.step (c40 (ra.app _)) ?_;rintro _ rfl;try dsimp only)|(with_reducible refine B6 (c40 (ra.app _)) ?_)|(with_reducible refine A5 (P2 (ra.app _) (rc.app _)) ?_;try dsimp only)|(with_reducible refine SpecQ.step (P2 (ra.app _) (rc.app _)) ?_;rintro _ rfl;try dsimp only)|(with_reducible refine B6 (P2 (ra.app _) (rc.app _)) ?_)|(simp (decide:=true) only [A22,snB,if_true,if_false])|(with_reducible refine A16 _ _ _ ?_)|(with_reducible refine A17 _ _ _ ?_)|(with_reducible refine A18 _ _ _ ?_)|(with_reducible refine A1u _ _ _ ?_))
 exact xX.get) (x:X):G:=f ⟨x⟩
attribute [local irreducible] E9 Evs gW D9 E8 G5
theorem G0T {h : A3} {s : Stt} {vt vp vs vi va vb : AV} {b : Pt} {a : Actn} {wt wp : AV} (ra : StR h s vt vp vs vi va vb) (hs : H6 s) (rc : ActR h a wt wp) (w : a.kind = 4#8) :
  SpecQ Tryz.prog 87 [eSt s vt vp vs vi va vb,pt b,C5 a wt wp] h (M9 h [vt,vp,vs,vi,va,vb,wt,wp] (madeP s b a)):=by
 have ta:=ra.cells
 have tc:=rc.cells
 have l1:=ra.fs.len
 have l2:=ra.fi.len
 have l3:=ra.fa.len
 have l4:=ra.fb.len
 rw [List.length_map] at l1 l2 l3 l4
 refine q87 fun env g0 g1 g2=>?_
 have ff:=E3 g0 g1 g2 ta tc l1 l2 l3 l4 w
 refine L7 (x:=?_)
 clear ff
 by_cases h1:D0 s b=0#8
 ·have hm:madeP s b a=.error 191:=by simp [madeP,w,h1]
  rw [hm]
  have ff:=D8 g0 g1 g2 ta tc l1 l2 l3 l4 w h1
  refine L7 (x:=?_)
  clear ff
  exact ⟨_,rfl⟩
 have ff:=D8 g0 g1 g2 ta tc l1 l2 l3 l4 w h1
 refine L7 (x:=?_)
 clear ff
 by_cases h2:D0 s b=2#8
 ·by_cases h3:v8 s=1
  ·by_cases h4:1 < s.seats.length
   ·skip
    have hm:madeP s b a=.error 192:=by simp [madeP,w,h1,h2,h3,h4]
    rw [hm]
    have ff:=N9 g0 g1 g2 ta tc l1 l2 l3 l4 w h1 h2 h3 h4
    refine L7 (x:=?_)
    clear ff
    exact ⟨_,rfl⟩
   ·skip
    have hm:madeP s b a=.ok { s with seats:=del fS s.seats b }:=by simp [madeP,w,h1,h2,h3,h4]
    rw [hm]
    have ff:=N9 g0 g1 g2 ta tc l1 l2 l3 l4 w h1 h2 h3 h4
    refine L7 (x:=?_)
    clear ff
    refine SpecQ.step (A1W (ra.app _) hs) ?_
    rintro ⟨v,h2⟩ ⟨x1,x2,x3,x4,t,e,rs,o1,o2,o3,o4⟩
    cases e
    have tb:=rs.cells
    simp only [List.append_assoc,List.cons_append,List.nil_append] at rs ⊢
    have ff:=T9 g0 g1 g2 ta tc l1 l2 l3 l4 w h1 h2 h3 h4 tb
    refine L7 (x:=?_)
    clear ff
    refine N5 (A:=[_,_,_]) (N8 ra rc) rs fun y' hy b' hb=>?_
    simp only [List.mem_cons,List.not_mem_nil,or_false] at hy
    rcases hy with rfl|rfl|rfl|rfl|rfl|rfl
    ·exact .inl ⟨_,by simp,hb⟩
    ·exact .inl ⟨_,by simp,hb⟩
    ·rcases o1 _ hb with h1|h1
     ·exact .inl ⟨_,by simp,h1⟩
     ·exact .inr (by simp at h1 ⊢;omega)
    ·rcases o2 _ hb with h1|h1
     ·exact .inl ⟨_,by simp,h1⟩
     ·exact .inr (by simp at h1 ⊢;omega)
    ·rcases o3 _ hb with h1|h1
     ·exact .inl ⟨_,by simp,h1⟩
     ·exact .inr (by simp at h1 ⊢;omega)
    ·rcases o4 _ hb with h1|h1
     ·exact .inl ⟨_,by simp,h1⟩
     ·exact .inr (by simp at h1 ⊢;omega)
  ·skip
   have hm:madeP s b a=.ok { s with seats:=del fS s.seats b }:=by simp [madeP,w,h1,h2,h3]
   rw [hm]
   have ff:=H7 g0 g1 g2 ta tc l1 l2 l3 l4 w h1 h2 h3
   refine L7 (x:=?_)
   clear ff
   refine SpecQ.step (A1W (ra.app _) hs) ?_
   rintro ⟨v,h2⟩ ⟨x1,x2,x3,x4,t,e,rs,o1,o2,o3,o4⟩
   cases e
   have tb:=rs.cells
   simp only [List.append_assoc,List.cons_append,List.nil_append] at rs ⊢
   have ff:=N9 g0 g1 g2 ta tc l1 l2 l3 l4 w h1 h2 h3 tb
   refine L7 (x:=?_)
   clear ff
   refine N5 (A:=[_,_,_]) (N8 ra rc) rs fun y' hy b' hb=>?_
   simp only [List.mem_cons,List.not_mem_nil,or_false] at hy
   rcases hy with rfl|rfl|rfl|rfl|rfl|rfl
   ·exact .inl ⟨_,by simp,hb⟩
   ·exact .inl ⟨_,by simp,hb⟩
   ·rcases o1 _ hb with h1|h1
    ·exact .inl ⟨_,by simp,h1⟩
    ·exact .inr (by simp at h1 ⊢;omega)
   ·rcases o2 _ hb with h1|h1
    ·exact .inl ⟨_,by simp,h1⟩
    ·exact .inr (by simp at h1 ⊢;omega)
   ·rcases o3 _ hb with h1|h1
    ·exact .inl ⟨_,by simp,h1⟩
    ·exact .inr (by simp at h1 ⊢;omega)
   ·rcases o4 _ hb with h1|h1
    ·exact .inl ⟨_,by simp,h1⟩
    ·exact .inr (by simp at h1 ⊢;omega)
 ·skip
  have hm:madeP s b a=.ok { s with seats:=del fS s.seats b }:=by simp [madeP,w,h1,h2]
  rw [hm]
  have ff:=F8 g0 g1 g2 ta tc l1 l2 l3 l4 w h1 h2
  refine L7 (x:=?_)
  clear ff
  refine SpecQ.step (A1W (ra.app _) hs) ?_
  rintro ⟨v,h2⟩ ⟨x1,x2,x3,x4,t,e,rs,o1,o2,o3,o4⟩
  cases e
  have tb:=rs.cells
  simp only [List.append_assoc,List.cons_append,List.nil_append] at rs ⊢
  have ff:=H7 g0 g1 g2 ta tc l1 l2 l3 l4 w h1 h2 tb
  refine L7 (x:=?_)
  clear ff
  refine N5 (A:=[_,_,_]) (N8 ra rc) rs fun y' hy b' hb=>?_
  simp only [List.mem_cons,List.not_mem_nil,or_false] at hy
  rcases hy with rfl|rfl|rfl|rfl|rfl|rfl
  ·exact .inl ⟨_,by simp,hb⟩
  ·exact .inl ⟨_,by simp,hb⟩
  ·rcases o1 _ hb with h1|h1
   ·exact .inl ⟨_,by simp,h1⟩
   ·exact .inr (by simp at h1 ⊢;omega)
  ·rcases o2 _ hb with h1|h1
   ·exact .inl ⟨_,by simp,h1⟩
   ·exact .inr (by simp at h1 ⊢;omega)
  ·rcases o3 _ hb with h1|h1
   ·exact .inl ⟨_,by simp,h1⟩
   ·exact .inr (by simp at h1 ⊢;omega)
  ·rcases o4 _ hb with h1|h1
   ·exact .inl ⟨_,by simp,h1⟩
   ·exact .inr (by simp at h1 ⊢;omega)
theorem G0U {h : A3} {s : Stt} {vt vp vs vi va vb : AV} {b : Pt} {a : Actn} {wt wp : AV} (ra : StR h s vt vp vs vi va vb) (hs : H6 s) (rc : ActR h a wt wp) (w : a.kind = 8#8) :
  SpecQ Tryz.prog 87 [eSt s vt vp vs vi va vb,pt b,C5 a wt wp] h (M9 h [vt,vp,vs,vi,va,vb,wt,wp] (madeP s b a)):=by
 have ta:=ra.cells
 have tc:=rc.cells
 have l1:=ra.fs.len
 have l2:=ra.fi.len
 have l3:=ra.fa.len
 have l4:=ra.fb.len
 rw [List.length_map] at l1 l2 l3 l4
 refine q87 fun env g0 g1 g2=>?_
 have ff:=E3 g0 g1 g2 ta tc l1 l2 l3 l4 w
 refine L7 (x:=?_)
 clear ff
 cases h2:A8 fI s.invites b
 ·have hm:madeP s b a=.error 7:=by simp [madeP,w,h2]
  rw [hm]
  have ff:=D8 g0 g1 g2 ta tc l1 l2 l3 l4 w h2
  refine L7 (x:=?_)
  clear ff
  exact ⟨_,rfl⟩
 have hm:madeP s b a=.ok { s with invites:=del fI s.invites b }:=by simp [madeP,w,h2]
 rw [hm]
 have ff:=D8 g0 g1 g2 ta tc l1 l2 l3 l4 w h2
 refine L7 (x:=?_)
 clear ff
 refine SpecQ.step (A4I (ra.app _) hs) ?_
 rintro ⟨v,h2⟩ ⟨x1,x2,x3,x4,t,e,rs,o1,o2,o3,o4⟩
 cases e
 have tb:=rs.cells
 simp only [List.append_assoc,List.cons_append,List.nil_append] at rs ⊢
 have ff:=F8 g0 g1 g2 ta tc l1 l2 l3 l4 w h2 tb
 refine L7 (x:=?_)
 clear ff
 refine N5 (A:=[_,_,_]) (N8 ra rc) rs fun y' hy b' hb=>?_
 simp only [List.mem_cons,List.not_mem_nil,or_false] at hy
 rcases hy with rfl|rfl|rfl|rfl|rfl|rfl
 ·exact .inl ⟨_,by simp,hb⟩
 ·exact .inl ⟨_,by simp,hb⟩
 ·rcases o1 _ hb with h1|h1
  ·exact .inl ⟨_,by simp,h1⟩
  ·exact .inr (by simp at h1 ⊢;omega)
 ·rcases o2 _ hb with h1|h1
  ·exact .inl ⟨_,by simp,h1⟩
  ·exact .inr (by simp at h1 ⊢;omega)
 ·rcases o3 _ hb with h1|h1
  ·exact .inl ⟨_,by simp,h1⟩
  ·exact .inr (by simp at h1 ⊢;omega)
 ·rcases o4 _ hb with h1|h1
  ·exact .inl ⟨_,by simp,h1⟩
  ·exact .inr (by simp at h1 ⊢;omega)
theorem F9N {h : A3} {s : Stt} {vt vp vs vi va vb : AV} {b : Pt} {a : Actn} {wt wp : AV} (ra : StR h s vt vp vs vi va vb) (hs : H6 s) (rc : ActR h a wt wp) (w : a.kind = 11#8) :
  SpecQ Tryz.prog 87 [eSt s vt vp vs vi va vb,pt b,C5 a wt wp] h (M9 h [vt,vp,vs,vi,va,vb,wt,wp] (madeP s b a)):=by
 have ta:=ra.cells
 have tc:=rc.cells
 have l1:=ra.fs.len
 have l2:=ra.fi.len
 have l3:=ra.fa.len
 have l4:=ra.fb.len
 rw [List.length_map] at l1 l2 l3 l4
 refine q87 fun env g0 g1 g2=>?_
 have ff:=E3 g0 g1 g2 ta tc l1 l2 l3 l4 w
 refine L7 (x:=?_)
 clear ff
 cases h2:A8 fA s.asks b
 ·have hm:madeP s b a=.error 7:=by simp [madeP,w,h2]
  rw [hm]
  have ff:=D8 g0 g1 g2 ta tc l1 l2 l3 l4 w h2
  refine L7 (x:=?_)
  clear ff
  exact ⟨_,rfl⟩
 have hm:madeP s b a=.ok { s with asks:=del fA s.asks b }:=by simp [madeP,w,h2]
 rw [hm]
 have ff:=D8 g0 g1 g2 ta tc l1 l2 l3 l4 w h2
 refine L7 (x:=?_)
 clear ff
 refine SpecQ.step (A4J (ra.app _) hs) ?_
 rintro ⟨v,h2⟩ ⟨x1,x2,x3,x4,t,e,rs,o1,o2,o3,o4⟩
 cases e
 have tb:=rs.cells
 simp only [List.append_assoc,List.cons_append,List.nil_append] at rs ⊢
 have ff:=F8 g0 g1 g2 ta tc l1 l2 l3 l4 w h2 tb
 refine L7 (x:=?_)
 clear ff
 refine N5 (A:=[_,_,_]) (N8 ra rc) rs fun y' hy b' hb=>?_
 simp only [List.mem_cons,List.not_mem_nil,or_false] at hy
 rcases hy with rfl|rfl|rfl|rfl|rfl|rfl
 ·exact .inl ⟨_,by simp,hb⟩
 ·exact .inl ⟨_,by simp,hb⟩
 ·rcases o1 _ hb with h1|h1
  ·exact .inl ⟨_,by simp,h1⟩
  ·exact .inr (by simp at h1 ⊢;omega)
 ·rcases o2 _ hb with h1|h1
  ·exact .inl ⟨_,by simp,h1⟩
  ·exact .inr (by simp at h1 ⊢;omega)
 ·rcases o3 _ hb with h1|h1
  ·exact .inl ⟨_,by simp,h1⟩
  ·exact .inr (by simp at h1 ⊢;omega)
 ·rcases o4 _ hb with h1|h1
  ·exact .inl ⟨_,by simp,h1⟩
  ·exact .inr (by simp at h1 ⊢;omega)
theorem G0V {h : A3} {s : Stt} {vt vp vs vi va vb : AV} {b : Pt} {a : Actn} {wt wp : AV} (ra : StR h s vt vp vs vi va vb) (hs : H6 s) (rc : ActR h a wt wp) (w : a.kind = 6#8) :
  SpecQ Tryz.prog 87 [eSt s vt vp vs vi va vb,pt b,C5 a wt wp] h (M9 h [vt,vp,vs,vi,va,vb,wt,wp] (madeP s b a)):=by
 have ta:=ra.cells
 have tc:=rc.cells
 have l1:=ra.fs.len
 have l2:=ra.fi.len
 have l3:=ra.fa.len
 have l4:=ra.fb.len
 rw [List.length_map] at l1 l2 l3 l4
 refine q87 fun env g0 g1 g2=>?_
 rcases idxI_spec fI s.invites a.e with ⟨i,hi,k1,k2,k3⟩|⟨k1,k2⟩
 rotate_left
 ·by_cases h1:D0 s b=0#8
  ·have hm:madeP s b a=.error 191:=by simp [madeP,w,k2,h1]
   rw [hm]
   have ff:=F8 g0 g1 g2 ta tc l1 l2 l3 l4 w k1 h1
   refine L7 (x:=?_)
   clear ff
   exact ⟨_,rfl⟩
  ·have hm:madeP s b a=.error 7:=by simp [madeP,w,k2,h1]
   rw [hm]
   have ff:=F8 g0 g1 g2 ta tc l1 l2 l3 l4 w k1 h1
   refine L7 (x:=?_)
   clear ff
   exact ⟨_,rfl⟩
 obtain ⟨pb,pv,pp,bb,p1,p2,p3,p4⟩:=ra.fi.idxE hi
 have ff:=Y6 g0 g1 g2 ta tc l1 l2 l3 l4 w k1 @H5 p1 p2 p3 p4
 refine L7 (x:=?_)
 clear ff
 by_cases h1:D0 s b=0#8
 ·have hm:madeP s b a=.error 191:=by simp [madeP,w,k2,h1]
  rw [hm]
  have ff:=L5 g0 g1 g2 ta tc l1 l2 l3 l4 w k1 @H5 p1 p2 p3 p4 h1
  refine L7 (x:=?_)
  clear ff
  exact ⟨_,rfl⟩
 have ff:=L5 g0 g1 g2 ta tc l1 l2 l3 l4 w k1 @H5 p1 p2 p3 p4 h1
 refine L7 (x:=?_)
 clear ff
 by_cases h2:D0 s b=2#8
 ·skip
  have hm:madeP s b a=.ok { s with invites:=del fI s.invites a.e }:=by simp [madeP,w,k2,h1,h2]
  rw [hm]
  have ff:=z9 g0 g1 g2 ta tc l1 l2 l3 l4 w k1 @H5 p1 p2 p3 p4 h1 h2
  refine L7 (x:=?_)
  clear ff
  refine SpecQ.step (A4I (ra.app _) hs) ?_
  rintro ⟨v,h2⟩ ⟨x1,x2,x3,x4,t,e,rs,o1,o2,o3,o4⟩
  cases e
  have tb:=rs.cells
  simp only [List.append_assoc,List.cons_append,List.nil_append] at rs ⊢
  have ff:=A0R g0 g1 g2 ta tc l1 l2 l3 l4 w k1 @H5 p1 p2 p3 p4 h1 h2 tb
  refine L7 (x:=?_)
  clear ff
  refine N5 (A:=[_,_,_]) (N8 ra rc) rs fun y' hy b' hb=>?_
  simp only [List.mem_cons,List.not_mem_nil,or_false] at hy
  rcases hy with rfl|rfl|rfl|rfl|rfl|rfl
  ·exact .inl ⟨_,by simp,hb⟩
  ·exact .inl ⟨_,by simp,hb⟩
  ·rcases o1 _ hb with h1|h1
   ·exact .inl ⟨_,by simp,h1⟩
   ·exact .inr (by simp at h1 ⊢;omega)
  ·rcases o2 _ hb with h1|h1
   ·exact .inl ⟨_,by simp,h1⟩
   ·exact .inr (by simp at h1 ⊢;omega)
  ·rcases o3 _ hb with h1|h1
   ·exact .inl ⟨_,by simp,h1⟩
   ·exact .inr (by simp at h1 ⊢;omega)
  ·rcases o4 _ hb with h1|h1
   ·exact .inl ⟨_,by simp,h1⟩
   ·exact .inr (by simp at h1 ⊢;omega)
 by_cases h3:s.invites[i].by_.e=b
 ·skip
  have hm:madeP s b a=.ok { s with invites:=del fI s.invites a.e }:=by simp [madeP,w,k2,h1,h2,h3]
  rw [hm]
  have ff:=A0R g0 g1 g2 ta tc l1 l2 l3 l4 w k1 @H5 p1 p2 p3 p4 h1 h2 h3
  refine L7 (x:=?_)
  clear ff
  refine SpecQ.step (A4I (ra.app _) hs) ?_
  rintro ⟨v,h2⟩ ⟨x1,x2,x3,x4,t,e,rs,o1,o2,o3,o4⟩
  cases e
  have tb:=rs.cells
  simp only [List.append_assoc,List.cons_append,List.nil_append] at rs ⊢
  have ff:=A2r g0 g1 g2 ta tc l1 l2 l3 l4 w k1 @H5 p1 p2 p3 p4 h1 h2 h3 tb
  refine L7 (x:=?_)
  clear ff
  refine N5 (A:=[_,_,_]) (N8 ra rc) rs fun y' hy b' hb=>?_
  simp only [List.mem_cons,List.not_mem_nil,or_false] at hy
  rcases hy with rfl|rfl|rfl|rfl|rfl|rfl
  ·exact .inl ⟨_,by simp,hb⟩
  ·exact .inl ⟨_,by simp,hb⟩
  ·rcases o1 _ hb with h1|h1
   ·exact .inl ⟨_,by simp,h1⟩
   ·exact .inr (by simp at h1 ⊢;omega)
  ·rcases o2 _ hb with h1|h1
   ·exact .inl ⟨_,by simp,h1⟩
   ·exact .inr (by simp at h1 ⊢;omega)
  ·rcases o3 _ hb with h1|h1
   ·exact .inl ⟨_,by simp,h1⟩
   ·exact .inr (by simp at h1 ⊢;omega)
  ·rcases o4 _ hb with h1|h1
   ·exact .inl ⟨_,by simp,h1⟩
   ·exact .inr (by simp at h1 ⊢;omega)
 have hm:madeP s b a=.error 191:=by simp [madeP,w,k2,h1,h2,h3]
 rw [hm]
 have ff:=A0R g0 g1 g2 ta tc l1 l2 l3 l4 w k1 @H5 p1 p2 p3 p4 h1 h2 h3
 refine L7 (x:=?_)
 clear ff
 exact ⟨_,rfl⟩
end Go.Vab

namespace Go.Vab
open Go Go.Proofs
theorem O8 {G X:Prop} (f:Hd X→G:=by
 intro xX
 repeat' (first|refine stp (x:=?_)|(with_reducible refine A5 (c18 (ra.app _)) ?_;try dsimp only)|(with_reducible refine SpecQ.step (c18 (ra.app _)) ?_;rintro _ rfl;try dsimp only)|(with_reducible refine B6 (c18 (ra.app _)) ?_)|(with_reducible refine A5 (c83 (ra.app _)) ?_;try dsimp only)|(with_reducible refine SpecQ.step (c83 (ra.app _)) ?_;rintro _ rfl;try dsimp only)|(with_reducible refine B6 (c83 (ra.app _)) ?_)|(with_reducible refine A5 (c36 (ra.app _)) ?_;try dsimp only)|(with_reducible refine SpecQ.step (c36 (ra.app _)) ?_;rintro _ rfl;try dsimp only)|(with_reducible refine B6 (c36 (ra.app _)) ?_)|(with_reducible refine A5 (c41 (ra.app _)) ?_;try dsimp only)|(with_reducible refine SpecQ.step (c41 (ra.app _)) ?_;rintro _ rfl;try dsimp only)|(with_reducible refine B6 (c41 (ra.app _)) ?_)|(with_reducible refine A5 (c42 (ra.app _)) ?_;try dsimp only)|(with_reducible refine SpecQ.step (c42 (ra.app _)) ?_;rintro _ rfl;try dsimp only)|(with_reducible refine B6 (c42 (ra.app _)) ?_)|(with_reducible refine A5 (c43 (ra.app _)) ?_;try dsimp only)|(with_reducible refine SpecQ.step (c43 (ra.app _)) ?_;rintro _ rfl;try dsimp only)|(with_reducible refine B6 (c43 (ra.app _)) ?_)|(with_reducible refine A5 (c40 (ra.app _)) ?_;try dsimp only)|(with_reducible refine SpecQ.step (c40 (ra.app _)) ?_;rintro _ rfl;try dsimp only)|(with_reducible refine B6 (c40 (ra.app _)) ?_)|(with_reducible refine A5 (P2 (ra.app _) (rc.app _)) ?_;try dsimp only)|(with_reducible refine SpecQ.step (P2 (ra.app _) (rc.app _)) ?_;rintro _ rfl;try dsimp only)|(with_reducible refine B6 (P2 (ra.app _) (rc.app _)) ?_)|(simp (decide:=true) only [A22,snB,if_true,if_false])|(with_reducible refine A16 _ _ _ ?_)|(with_reducible refine A17 _ _ _ ?_)|(with_reducible refine A18 _ _ _ ?_)|(with_reducible refine A1u _ _ _ ?_))
 exact xX.get) (x:X):G:=f ⟨x⟩
attribute [local irreducible] E9 Evs gW D9 E8 G5
theorem G0W {h : A3} {s : Stt} {vt vp vs vi va vb : AV} {b : Pt} {a : Actn} {wt wp : AV} (ra : StR h s vt vp vs vi va vb) (hs : H6 s) (rc : ActR h a wt wp) (w : a.kind = 7#8) :
  SpecQ Tryz.prog 87 [eSt s vt vp vs vi va vb,pt b,C5 a wt wp] h (M9 h [vt,vp,vs,vi,va,vb,wt,wp] (madeP s b a)):=by
 have ta:=ra.cells
 have tc:=rc.cells
 have l1:=ra.fs.len
 have l2:=ra.fi.len
 have l3:=ra.fa.len
 have l4:=ra.fb.len
 rw [List.length_map] at l1 l2 l3 l4
 refine q87 fun env g0 g1 g2=>?_
 rcases idxI_spec fI s.invites b with ⟨i,hi,k1,k2,k3⟩|⟨k1,k2⟩
 rotate_left
 ·have hm:madeP s b a=.error 7:=by simp [madeP,w,k2]
  rw [hm]
  have ff:=D8 g0 g1 g2 ta tc l1 l2 l3 l4 w k1
  refine O8 (x:=?_)
  clear ff
  exact ⟨_,rfl⟩
 obtain ⟨pb,pv,pp,bb,p1,p2,p3,p4⟩:=ra.fi.idxE hi
 have ff:=Y6 g0 g1 g2 ta tc l1 l2 l3 l4 w k1 @H5 p1 p2 p3 p4
 refine O8 (x:=?_)
 clear ff
 by_cases h4:40≤s.seats.length
 ·have hm:madeP s b a=.error 9:=by simp [madeP,w,k2,h4]
  rw [hm]
  have ff:=L5 g0 g1 g2 ta tc l1 l2 l3 l4 w k1 @H5 p1 p2 p3 p4 h4
  refine O8 (x:=?_)
  clear ff
  exact ⟨_,rfl⟩
 have hm:madeP s b a=.ok { s with invites:=del fI s.invites b,seats:=ins fS s.seats ⟨s.invites[i].who,s.invites[i].role,a.version⟩ }:=by simp [madeP,w,k2,h4]
 rw [hm]
 have ff:=L5 g0 g1 g2 ta tc l1 l2 l3 l4 w k1 @H5 p1 p2 p3 p4 h4
 refine O8 (x:=?_)
 clear ff
 refine SpecQ.step (A4I (ra.app _) hs) ?_
 rintro ⟨v,h2⟩ ⟨x1,x2,x3,x4,t,e,rs,o1,o2,o3,o4⟩
 cases e
 have tb:=rs.cells
 simp only [List.append_assoc,List.cons_append,List.nil_append] at rs ⊢
 have hsx:H6 { s with invites:=del fI s.invites b }:=⟨hs.1,Nat.le_trans (t9 _ _ _) hs.2.1,hs.2.2.1,hs.2.2.2⟩
 have ff:=z9 g0 g1 g2 ta tc l1 l2 l3 l4 w k1 @H5 p1 p2 p3 p4 h4 tb
 refine O8 (x:=?_)
 clear ff
 refine SpecQ.step (c84 (s:={ s with invites:=del fI s.invites b }) rs hsx) ?_
 rintro ⟨v,h2⟩ ⟨y,t2,e,rs2,oy⟩
 cases e
 have tb2:=rs2.cells
 simp only [List.append_assoc,List.cons_append,List.nil_append] at rs2 ⊢
 have ff:=A0R g0 g1 g2 ta tc l1 l2 l3 l4 w k1 @H5 p1 p2 p3 p4 h4 tb tb2
 refine O8 (x:=?_)
 clear ff
 refine N5 (A:=[_,_,_]) (N8 ra rc) rs2 fun y' hy b' hb=>?_
 simp only [List.mem_cons,List.not_mem_nil,or_false] at hy
 rcases hy with rfl|rfl|rfl|rfl|rfl|rfl
 ·exact .inl ⟨_,by simp,hb⟩
 ·exact .inl ⟨_,by simp,hb⟩
 ·rcases oy _ hb with h1|h1
  ·exact absurd h1 (Y5 _)
  ·exact .inr (by simp at h1 ⊢;omega)
 ·rcases o2 _ hb with h1|h1
  ·exact .inl ⟨_,by simp,h1⟩
  ·exact .inr (by simp at h1 ⊢;omega)
 ·rcases o3 _ hb with h1|h1
  ·exact .inl ⟨_,by simp,h1⟩
  ·exact .inr (by simp at h1 ⊢;omega)
 ·rcases o4 _ hb with h1|h1
  ·exact .inl ⟨_,by simp,h1⟩
  ·exact .inr (by simp at h1 ⊢;omega)
theorem G0X {h : A3} {s : Stt} {vt vp vs vi va vb : AV} {b : Pt} {a : Actn} {wt wp : AV} (ra : StR h s vt vp vs vi va vb) (hs : H6 s) (rc : ActR h a wt wp) (w : a.kind = 9#8) :
  SpecQ Tryz.prog 87 [eSt s vt vp vs vi va vb,pt b,C5 a wt wp] h (M9 h [vt,vp,vs,vi,va,vb,wt,wp] (madeP s b a)):=by
 have ta:=ra.cells
 have tc:=rc.cells
 have l1:=ra.fs.len
 have l2:=ra.fi.len
 have l3:=ra.fa.len
 have l4:=ra.fb.len
 rw [List.length_map] at l1 l2 l3 l4
 refine q87 fun env g0 g1 g2=>?_
 have ff:=E3 g0 g1 g2 ta tc l1 l2 l3 l4 w
 refine O8 (x:=?_)
 clear ff
 by_cases h1:a.who.e=b
 rotate_left
 ·have hm:madeP s b a=.error 195:=by simp [madeP,w,h1]
  rw [hm]
  have ff:=D8 g0 g1 g2 ta tc l1 l2 l3 l4 w h1
  refine O8 (x:=?_)
  clear ff
  exact ⟨_,rfl⟩
 have ff:=D8 g0 g1 g2 ta tc l1 l2 l3 l4 w h1
 refine O8 (x:=?_)
 clear ff
 cases h2:A8 fB s.bans b
 rotate_left
 ·have hm:madeP s b a=.error 193:=by simp [madeP,w,h1,h2]
  rw [hm]
  have ff:=F8 g0 g1 g2 ta tc l1 l2 l3 l4 w h1 h2
  refine O8 (x:=?_)
  clear ff
  exact ⟨_,rfl⟩
 have ff:=F8 g0 g1 g2 ta tc l1 l2 l3 l4 w h1 h2
 refine O8 (x:=?_)
 clear ff
 by_cases h3:D0 s b=0#8
 rotate_left
 ·have hm:madeP s b a=.error 8:=by simp [madeP,w,h1,h2,h3]
  rw [hm]
  have ff:=H7 g0 g1 g2 ta tc l1 l2 l3 l4 w h1 h2 h3
  refine O8 (x:=?_)
  clear ff
  exact ⟨_,rfl⟩
 have ff:=H7 g0 g1 g2 ta tc l1 l2 l3 l4 w h1 h2 h3
 refine O8 (x:=?_)
 clear ff
 by_cases hl:s.acc.link=1#8
 rotate_left
 ·have hm:madeP s b a=.error 196:=by simp [madeP,w,h1,h2,h3,hl]
  rw [hm]
  have ff:=N9 g0 g1 g2 ta tc l1 l2 l3 l4 w h1 h2 h3 hl
  refine O8 (x:=?_)
  clear ff
  exact ⟨_,rfl⟩
 have ff:=N9 g0 g1 g2 ta tc l1 l2 l3 l4 w h1 h2 h3 hl
 refine O8 (x:=?_)
 clear ff
 cases hp:V5 s a
 ·have hm:madeP s b a=.error 194:=by simp [madeP,w,h1,h2,h3,hl,hp]
  rw [hm]
  have ff:=T9 g0 g1 g2 ta tc l1 l2 l3 l4 w h1 h2 h3 hl hp
  refine O8 (x:=?_)
  clear ff
  exact ⟨_,rfl⟩
 have ff:=T9 g0 g1 g2 ta tc l1 l2 l3 l4 w h1 h2 h3 hl hp
 refine O8 (x:=?_)
 clear ff
 by_cases h4:40≤s.seats.length
 ·have hm:madeP s b a=.error 9:=by simp [madeP,w,h1,h2,h3,hl,hp,h4]
  rw [hm]
  have ff:=Y6 g0 g1 g2 ta tc l1 l2 l3 l4 w h1 h2 h3 hl hp h4
  refine O8 (x:=?_)
  clear ff
  exact ⟨_,rfl⟩
 have hm:madeP s b a=.ok { s with invites:=del fI s.invites b,asks:=del fA s.asks b,seats:=ins fS s.seats ⟨a.who,1#8,a.version⟩ }:=by simp [madeP,w,h1,h2,h3,hl,hp,h4]
 rw [hm]
 have ff:=Y6 g0 g1 g2 ta tc l1 l2 l3 l4 w h1 h2 h3 hl hp h4
 refine O8 (x:=?_)
 clear ff
 refine SpecQ.step (E8c (ra.app _) hs) ?_
 rintro ⟨v,h2⟩ ⟨x1,x2,x3,x4,t,e,rs,o1,o2,o3,o4⟩
 cases e
 have tb:=rs.cells
 simp only [List.append_assoc,List.cons_append,List.nil_append] at rs ⊢
 have hsx:H6 { s with invites:=del fI s.invites b,asks:=del fA s.asks b }:=⟨hs.1,Nat.le_trans (t9 _ _ _) hs.2.1,Nat.le_trans (t9 _ _ _) hs.2.2.1,hs.2.2.2⟩
 have ff:=L5 g0 g1 g2 ta tc l1 l2 l3 l4 w h1 h2 h3 hl hp h4 tb
 refine O8 (x:=?_)
 clear ff
 refine SpecQ.step (c84 (s:={ s with invites:=del fI s.invites b,asks:=del fA s.asks b }) rs hsx) ?_
 rintro ⟨v,h2⟩ ⟨y,t2,e,rs2,oy⟩
 cases e
 have tb2:=rs2.cells
 simp only [List.append_assoc,List.cons_append,List.nil_append] at rs2 ⊢
 have ff:=z9 g0 g1 g2 ta tc l1 l2 l3 l4 w h1 h2 h3 hl hp h4 tb tb2
 refine O8 (x:=?_)
 clear ff
 refine N5 (A:=[_,_,_]) (N8 ra rc) rs2 fun y' hy b' hb=>?_
 simp only [List.mem_cons,List.not_mem_nil,or_false] at hy
 rcases hy with rfl|rfl|rfl|rfl|rfl|rfl
 ·exact .inl ⟨_,by simp,hb⟩
 ·exact .inl ⟨_,by simp,hb⟩
 ·rcases oy _ hb with h1|h1
  ·exact absurd h1 (Y5 _)
  ·exact .inr (by simp at h1 ⊢;omega)
 ·rcases o2 _ hb with h1|h1
  ·exact .inl ⟨_,by simp,h1⟩
  ·exact .inr (by simp at h1 ⊢;omega)
 ·rcases o3 _ hb with h1|h1
  ·exact .inl ⟨_,by simp,h1⟩
  ·exact .inr (by simp at h1 ⊢;omega)
 ·rcases o4 _ hb with h1|h1
  ·exact .inl ⟨_,by simp,h1⟩
  ·exact .inr (by simp at h1 ⊢;omega)
end Go.Vab

namespace Go.Vab
open Go Go.Proofs
theorem d7 {G X:Prop} (f:Hd X→G:=by
 intro xX
 repeat' (first|refine stp (x:=?_)|(with_reducible refine A5 (c18 (ra.app _)) ?_;try dsimp only)|(with_reducible refine SpecQ.step (c18 (ra.app _)) ?_;rintro _ rfl;try dsimp only)|(with_reducible refine B6 (c18 (ra.app _)) ?_)|(with_reducible refine A5 (c83 (ra.app _)) ?_;try dsimp only)|(with_reducible refine SpecQ.step (c83 (ra.app _)) ?_;rintro _ rfl;try dsimp only)|(with_reducible refine B6 (c83 (ra.app _)) ?_)|(with_reducible refine A5 (c36 (ra.app _)) ?_;try dsimp only)|(with_reducible refine SpecQ.step (c36 (ra.app _)) ?_;rintro _ rfl;try dsimp only)|(with_reducible refine B6 (c36 (ra.app _)) ?_)|(with_reducible refine A5 (c41 (ra.app _)) ?_;try dsimp only)|(with_reducible refine SpecQ.step (c41 (ra.app _)) ?_;rintro _ rfl;try dsimp only)|(with_reducible refine B6 (c41 (ra.app _)) ?_)|(with_reducible refine A5 (c42 (ra.app _)) ?_;try dsimp only)|(with_reducible refine SpecQ.step (c42 (ra.app _)) ?_;rintro _ rfl;try dsimp only)|(with_reducible refine B6 (c42 (ra.app _)) ?_)|(with_reducible refine A5 (c43 (ra.app _)) ?_;try dsimp only)|(with_reducible refine SpecQ.step (c43 (ra.app _)) ?_;rintro _ rfl;try dsimp only)|(with_reducible refine B6 (c43 (ra.app _)) ?_)|(with_reducible refine A5 (c40 (ra.app _)) ?_;try dsimp only)|(with_reducible refine SpecQ.step (c40 (ra.app _)) ?_;rintro _ rfl;try dsimp only)|(with_reducible refine B6 (c40 (ra.app _)) ?_)|(with_reducible refine A5 (P2 (ra.app _) (rc.app _)) ?_;try dsimp only)|(with_reducible refine SpecQ.step (P2 (ra.app _) (rc.app _)) ?_;rintro _ rfl;try dsimp only)|(with_reducible refine B6 (P2 (ra.app _) (rc.app _)) ?_)|(simp (decide:=true) only [A22,snB,if_true,if_false])|(with_reducible refine A16 _ _ _ ?_)|(with_reducible refine A17 _ _ _ ?_)|(with_reducible refine A18 _ _ _ ?_)|(with_reducible refine A1u _ _ _ ?_))
 exact xX.get) (x:X):G:=f ⟨x⟩
attribute [local irreducible] E9 Evs gW D9 E8 G5
theorem F9O {h : A3} {s : Stt} {vt vp vs vi va vb : AV} {b : Pt} {a : Actn} {wt wp : AV} (ra : StR h s vt vp vs vi va vb) (hs : H6 s) (rc : ActR h a wt wp) (w : a.kind = 16#8) :
  SpecQ Tryz.prog 87 [eSt s vt vp vs vi va vb,pt b,C5 a wt wp] h (M9 h [vt,vp,vs,vi,va,vb,wt,wp] (madeP s b a)):=by
 have ta:=ra.cells
 have tc:=rc.cells
 have l1:=ra.fs.len
 have l2:=ra.fi.len
 have l3:=ra.fa.len
 have l4:=ra.fb.len
 rw [List.length_map] at l1 l2 l3 l4
 refine q87 fun env g0 g1 g2=>?_
 have ff:=E3 g0 g1 g2 ta tc l1 l2 l3 l4 w
 refine d7 (x:=?_)
 clear ff
 by_cases h1:D0 s b=0#8
 ·have hm:madeP s b a=.error 191:=by simp [madeP,w,h1]
  rw [hm]
  have ff:=D8 g0 g1 g2 ta tc l1 l2 l3 l4 w h1
  refine d7 (x:=?_)
  clear ff
  exact ⟨_,rfl⟩
 have ff:=D8 g0 g1 g2 ta tc l1 l2 l3 l4 w h1
 refine d7 (x:=?_)
 clear ff
 by_cases h2:D0 s b < s.acc.title
 ·have hm:madeP s b a=.error 191:=by simp [madeP,w,h1,h2]
  rw [hm]
  have ff:=F8 g0 g1 g2 ta tc l1 l2 l3 l4 w h1 h2
  refine d7 (x:=?_)
  clear ff
  exact ⟨_,rfl⟩
 have hm:madeP s b a=.ok { s with title:=a.title }:=by simp [madeP,w,h1,h2]
 rw [hm]
 have ff:=F8 g0 g1 g2 ta tc l1 l2 l3 l4 w h1 h2
 refine d7 (x:=?_)
 clear ff
 refine N5 (A:=[_,_,_]) (c:=⟨C1 0#32 ci0 D4 .nilslice .nilslice .nilslice .nilslice .nilslice .nilslice,0,.own⟩) (N8 ra rc) ⟨rc.t.app _,ra.fp.app _,ra.fs.app _,ra.fi.app _,ra.fa.app _,ra.fb.app _⟩ fun y' hy b' hb=>?_
 simp only [List.mem_cons,List.not_mem_nil,or_false] at hy
 rcases hy with rfl|rfl|rfl|rfl|rfl|rfl <;> exact .inl ⟨_,by simp,hb⟩
theorem F9P {h : A3} {s : Stt} {vt vp vs vi va vb : AV} {b : Pt} {a : Actn} {wt wp : AV} (ra : StR h s vt vp vs vi va vb) (hs : H6 s) (rc : ActR h a wt wp) (w : a.kind = 17#8) :
  SpecQ Tryz.prog 87 [eSt s vt vp vs vi va vb,pt b,C5 a wt wp] h (M9 h [vt,vp,vs,vi,va,vb,wt,wp] (madeP s b a)):=by
 have ta:=ra.cells
 have tc:=rc.cells
 have l1:=ra.fs.len
 have l2:=ra.fi.len
 have l3:=ra.fa.len
 have l4:=ra.fb.len
 rw [List.length_map] at l1 l2 l3 l4
 refine q87 fun env g0 g1 g2=>?_
 have ff:=E3 g0 g1 g2 ta tc l1 l2 l3 l4 w
 refine d7 (x:=?_)
 clear ff
 by_cases h1:D0 s b=2#8
 rotate_left
 ·have hm:madeP s b a=.error 191:=by simp [madeP,w,h1]
  rw [hm]
  have ff:=D8 g0 g1 g2 ta tc l1 l2 l3 l4 w h1
  refine d7 (x:=?_)
  clear ff
  exact ⟨_,rfl⟩
 have hm:madeP s b a=.ok { s with acc:=a.acc }:=by simp [madeP,w,h1]
 rw [hm]
 have ff:=D8 g0 g1 g2 ta tc l1 l2 l3 l4 w h1
 refine d7 (x:=?_)
 clear ff
 refine N5 (A:=[_,_,_]) (c:=⟨C1 0#32 ci0 D4 .nilslice .nilslice .nilslice .nilslice .nilslice .nilslice,0,.own⟩) (N8 ra rc) ⟨ra.ft.app _,ra.fp.app _,ra.fs.app _,ra.fi.app _,ra.fa.app _,ra.fb.app _⟩ fun y' hy b' hb=>?_
 simp only [List.mem_cons,List.not_mem_nil,or_false] at hy
 rcases hy with rfl|rfl|rfl|rfl|rfl|rfl <;> exact .inl ⟨_,by simp,hb⟩
theorem F9Q {h : A3} {s : Stt} {vt vp vs vi va vb : AV} {b : Pt} {a : Actn} {wt wp : AV} (ra : StR h s vt vp vs vi va vb) (hs : H6 s) (rc : ActR h a wt wp) (w : a.kind ≠ 1#8 ∧ a.kind ≠ 2#8 ∧ a.kind ≠ 3#8 ∧ a.kind ≠ 4#8 ∧ a.kind ≠ 5#8 ∧ a.kind ≠ 6#8 ∧ a.kind ≠ 7#8 ∧ a.kind ≠ 8#8 ∧ a.kind ≠ 9#8 ∧ a.kind ≠ 10#8 ∧ a.kind ≠ 11#8 ∧ a.kind ≠ 12#8 ∧ a.kind ≠ 13#8 ∧ a.kind ≠ 14#8 ∧ a.kind ≠ 15#8 ∧ a.kind ≠ 16#8 ∧ a.kind ≠ 17#8) :
  SpecQ Tryz.prog 87 [eSt s vt vp vs vi va vb,pt b,C5 a wt wp] h (M9 h [vt,vp,vs,vi,va,vb,wt,wp] (madeP s b a)):=by
 have ta:=ra.cells
 have tc:=rc.cells
 have l1:=ra.fs.len
 have l2:=ra.fi.len
 have l3:=ra.fa.len
 have l4:=ra.fb.len
 rw [List.length_map] at l1 l2 l3 l4
 refine q87 fun env g0 g1 g2=>?_
 have ff:=E3 g0 g1 g2 ta tc l1 l2 l3 l4 w
 refine d7 (x:=?_)
 clear ff
 by_cases h1:D0 s b=2#8
 rotate_left
 ·have hm:madeP s b a=.error 191:=by simp [madeP,w,h1]
  rw [hm]
  have ff:=D8 g0 g1 g2 ta tc l1 l2 l3 l4 w h1
  refine d7 (x:=?_)
  clear ff
  exact ⟨_,rfl⟩
 have hm:madeP s b a=.ok { s with pass:=a.pass }:=by simp [madeP,w,h1]
 rw [hm]
 have ff:=D8 g0 g1 g2 ta tc l1 l2 l3 l4 w h1
 refine d7 (x:=?_)
 clear ff
 refine N5 (A:=[_,_,_]) (c:=⟨C1 0#32 ci0 D4 .nilslice .nilslice .nilslice .nilslice .nilslice .nilslice,0,.own⟩) (N8 ra rc) ⟨ra.ft.app _,rc.p.app _,ra.fs.app _,ra.fi.app _,ra.fa.app _,ra.fb.app _⟩ fun y' hy b' hb=>?_
 simp only [List.mem_cons,List.not_mem_nil,or_false] at hy
 rcases hy with rfl|rfl|rfl|rfl|rfl|rfl <;> exact .inl ⟨_,by simp,hb⟩
end Go.Vab

namespace Go.Vab
open Go Go.Proofs
theorem R9 {G X:Prop} (f:Hd X→G:=by
 intro xX
 repeat' (first|refine stp (x:=?_)|(with_reducible refine A5 (c18 (ra.app _)) ?_;try dsimp only)|(with_reducible refine SpecQ.step (c18 (ra.app _)) ?_;rintro _ rfl;try dsimp only)|(with_reducible refine B6 (c18 (ra.app _)) ?_)|(with_reducible refine A5 (c83 (ra.app _)) ?_;try dsimp only)|(with_reducible refine SpecQ.step (c83 (ra.app _)) ?_;rintro _ rfl;try dsimp only)|(with_reducible refine B6 (c83 (ra.app _)) ?_)|(with_reducible refine A5 (c36 (ra.app _)) ?_;try dsimp only)|(with_reducible refine SpecQ.step (c36 (ra.app _)) ?_;rintro _ rfl;try dsimp only)|(with_reducible refine B6 (c36 (ra.app _)) ?_)|(with_reducible refine A5 (c41 (ra.app _)) ?_;try dsimp only)|(with_reducible refine SpecQ.step (c41 (ra.app _)) ?_;rintro _ rfl;try dsimp only)|(with_reducible refine B6 (c41 (ra.app _)) ?_)|(with_reducible refine A5 (c42 (ra.app _)) ?_;try dsimp only)|(with_reducible refine SpecQ.step (c42 (ra.app _)) ?_;rintro _ rfl;try dsimp only)|(with_reducible refine B6 (c42 (ra.app _)) ?_)|(with_reducible refine A5 (c43 (ra.app _)) ?_;try dsimp only)|(with_reducible refine SpecQ.step (c43 (ra.app _)) ?_;rintro _ rfl;try dsimp only)|(with_reducible refine B6 (c43 (ra.app _)) ?_)|(with_reducible refine A5 (c40 (ra.app _)) ?_;try dsimp only)|(with_reducible refine SpecQ.step (c40 (ra.app _)) ?_;rintro _ rfl;try dsimp only)|(with_reducible refine B6 (c40 (ra.app _)) ?_)|(with_reducible refine A5 (P2 (ra.app _) (rc.app _)) ?_;try dsimp only)|(with_reducible refine SpecQ.step (P2 (ra.app _) (rc.app _)) ?_;rintro _ rfl;try dsimp only)|(with_reducible refine B6 (P2 (ra.app _) (rc.app _)) ?_)|(simp (decide:=true) only [A22,snB,if_true,if_false])|(with_reducible refine A16 _ _ _ ?_)|(with_reducible refine A17 _ _ _ ?_)|(with_reducible refine A18 _ _ _ ?_)|(with_reducible refine A1u _ _ _ ?_))
 exact xX.get) (x:X):G:=f ⟨x⟩
theorem D8Y {G X:Prop} (f:Hd X→G:=by
 intro xX
 repeat' (first|refine stp (x:=?_)|(with_reducible refine A5 (c86) ?_;try dsimp only)|(with_reducible refine SpecQ.step (c86) ?_;rintro _ rfl;try dsimp only)|(with_reducible refine B6 (c86) ?_)|(simp (decide:=true) only [A22,snB,if_true,if_false])|(with_reducible refine A16 _ _ _ ?_)|(with_reducible refine A17 _ _ _ ?_)|(with_reducible refine A18 _ _ _ ?_)|(with_reducible refine A1u _ _ _ ?_))
 exact xX.get) (x:X):G:=f ⟨x⟩
theorem A3E {G X:Prop} (f:Hd X→G:=by
 intro xX
 repeat' (first|refine stp (x:=?_)|(simp (decide:=true) only [A22,snB,if_true,if_false])|(with_reducible refine A16 _ _ _ ?_)|(with_reducible refine A17 _ _ _ ?_)|(with_reducible refine A18 _ _ _ ?_)|(with_reducible refine A1u _ _ _ ?_))
 exact xX.get) (x:X):G:=f ⟨x⟩
attribute [local irreducible] E9 Evs gW D9 E8 G5
theorem F9R {h : A3} {s : Stt} {vt vp vs vi va vb : AV} {b : Pt} {a : Actn} {wt wp : AV} (ra : StR h s vt vp vs vi va vb) (hs : H6 s) (rc : ActR h a wt wp) (w : a.kind = 10#8) :
  SpecQ Tryz.prog 87 [eSt s vt vp vs vi va vb,pt b,C5 a wt wp] h (M9 h [vt,vp,vs,vi,va,vb,wt,wp] (madeP s b a)):=by
 have ta:=ra.cells
 have tc:=rc.cells
 have l1:=ra.fs.len
 have l2:=ra.fi.len
 have l3:=ra.fa.len
 have l4:=ra.fb.len
 rw [List.length_map] at l1 l2 l3 l4
 refine q87 fun env g0 g1 g2=>?_
 have ff:=E3 g0 g1 g2 ta tc l1 l2 l3 l4 w
 refine R9 (x:=?_)
 clear ff
 by_cases h1:a.who.e=b
 rotate_left
 ·have hm:madeP s b a=.error 195:=by simp [madeP,w,h1]
  rw [hm]
  have ff:=D8 g0 g1 g2 ta tc l1 l2 l3 l4 w h1
  refine R9 (x:=?_)
  clear ff
  exact ⟨_,rfl⟩
 have ff:=D8 g0 g1 g2 ta tc l1 l2 l3 l4 w h1
 refine R9 (x:=?_)
 clear ff
 cases h2:A8 fB s.bans b
 rotate_left
 ·have hm:madeP s b a=.error 193:=by simp [madeP,w,h1,h2]
  rw [hm]
  have ff:=F8 g0 g1 g2 ta tc l1 l2 l3 l4 w h1 h2
  refine R9 (x:=?_)
  clear ff
  exact ⟨_,rfl⟩
 have ff:=F8 g0 g1 g2 ta tc l1 l2 l3 l4 w h1 h2
 refine R9 (x:=?_)
 clear ff
 by_cases h3:D0 s b=0#8
 rotate_left
 ·have hm:madeP s b a=.error 8:=by simp [madeP,w,h1,h2,h3]
  rw [hm]
  have ff:=H7 g0 g1 g2 ta tc l1 l2 l3 l4 w h1 h2 h3
  refine R9 (x:=?_)
  clear ff
  exact ⟨_,rfl⟩
 have ff:=H7 g0 g1 g2 ta tc l1 l2 l3 l4 w h1 h2 h3
 refine R9 (x:=?_)
 clear ff
 cases h3b:A8 fI s.invites b
 rotate_left
 ·have hm:madeP s b a=.error 8:=by simp [madeP,w,h1,h2,h3,h3b]
  rw [hm]
  have ff:=N9 g0 g1 g2 ta tc l1 l2 l3 l4 w h1 h2 h3 h3b
  refine R9 (x:=?_)
  clear ff
  exact ⟨_,rfl⟩
 have ff:=N9 g0 g1 g2 ta tc l1 l2 l3 l4 w h1 h2 h3 h3b
 refine R9 (x:=?_)
 clear ff
 cases h3c:A8 fA s.asks b
 rotate_left
 ·have hm:madeP s b a=.error 8:=by simp [madeP,w,h1,h2,h3,h3b,h3c]
  rw [hm]
  have ff:=T9 g0 g1 g2 ta tc l1 l2 l3 l4 w h1 h2 h3 h3b h3c
  refine R9 (x:=?_)
  clear ff
  exact ⟨_,rfl⟩
 have ff:=T9 g0 g1 g2 ta tc l1 l2 l3 l4 w h1 h2 h3 h3b h3c
 refine R9 (x:=?_)
 clear ff
 by_cases hl:s.acc.link=2#8
 rotate_left
 ·have hm:madeP s b a=.error 196:=by simp [madeP,w,h1,h2,h3,h3b,h3c,hl]
  rw [hm]
  have ff:=Y6 g0 g1 g2 ta tc l1 l2 l3 l4 w h1 h2 h3 h3b h3c hl
  refine R9 (x:=?_)
  clear ff
  exact ⟨_,rfl⟩
 have ff:=Y6 g0 g1 g2 ta tc l1 l2 l3 l4 w h1 h2 h3 h3b h3c hl
 refine R9 (x:=?_)
 clear ff
 cases hp:V5 s a
 ·have hm:madeP s b a=.error 194:=by simp [madeP,w,h1,h2,h3,h3b,h3c,hl,hp]
  rw [hm]
  have ff:=L5 g0 g1 g2 ta tc l1 l2 l3 l4 w h1 h2 h3 h3b h3c hl hp
  refine R9 (x:=?_)
  clear ff
  exact ⟨_,rfl⟩
 have ff:=L5 g0 g1 g2 ta tc l1 l2 l3 l4 w h1 h2 h3 h3b h3c hl hp
 refine R9 (x:=?_)
 clear ff
 by_cases h4:40≤s.asks.length
 ·have hm:madeP s b a=.error 9:=by simp [madeP,w,h1,h2,h3,h3b,h3c,hl,hp,h4]
  rw [hm]
  have ff:=z9 g0 g1 g2 ta tc l1 l2 l3 l4 w h1 h2 h3 h3b h3c hl hp h4
  refine R9 (x:=?_)
  clear ff
  exact ⟨_,rfl⟩
 have hm:madeP s b a=.ok { s with asks:=ins fA s.asks ⟨a.who,a.version⟩ }:=by simp [madeP,w,h1,h2,h3,h3b,h3c,hl,hp,h4]
 rw [hm]
 have ff:=z9 g0 g1 g2 ta tc l1 l2 l3 l4 w h1 h2 h3 h3b h3c hl hp h4
 refine R9 (x:=?_)
 clear ff
 have hrow:Row B5 h va (s.asks.map B9):=ra.fa
 have lrow:=hrow.len
 have brow:=hrow.bound
 rw [List.length_map] at lrow brow
 refine Y9 (fun r=>∃ env',r=(.exit 6,⟨env',h++⟨eSt s vt vp vs vi va vb,0,.own⟩::⟨pt b,0,.own⟩::⟨C5 a wt wp,0,.own⟩::⟨C1 0#32 ci0 D4 .nilslice .nilslice .nilslice .nilslice .nilslice .nilslice,0,.own⟩::⟨C1 0#32 ci0 D4 .nilslice .nilslice .nilslice .nilslice .nilslice .nilslice,0,.own⟩::⟨eSt s vt vp vs vi va vb,0,.own⟩::[]⟩)∧env'.get 3=.ptr h.length 0 [] A6∧env'.get 4=.ptr (h.length+1) 0 [] (.arr 32 (.int .u8))∧env'.get 5=.ptr (h.length+2) 0 [] D5∧env'.get 6=.ptr (h.length+3) 0 [] A6∧env'.get 8=.ptr (h.length+4) 0 [] A6∧env'.get 12=.ptr (h.length+5) 0 [] A6∧env'.get 13=nat (low fA s.asks (b))) ?_ ?_
 ·refine G0 s.asks.length (fun i st => ∃ env', st = ⟨env', h ++ ⟨eSt s vt vp vs vi va vb, 0, .own⟩ :: ⟨pt b, 0, .own⟩ :: ⟨C5 a wt wp, 0, .own⟩ :: ⟨C1 0#32 ci0 D4 .nilslice .nilslice .nilslice .nilslice .nilslice .nilslice, 0, .own⟩ :: ⟨C1 0#32 ci0 D4 .nilslice .nilslice .nilslice .nilslice .nilslice .nilslice, 0, .own⟩ :: ⟨eSt s vt vp vs vi va vb, 0, .own⟩ :: []⟩ ∧ env'.get 3 = .ptr h.length 0 [] A6 ∧ env'.get 4 = .ptr (h.length + 1) 0 [] (.arr 32 (.int .u8)) ∧ env'.get 5 = .ptr (h.length + 2) 0 [] D5 ∧ env'.get 6 = .ptr (h.length + 3) 0 [] A6 ∧ env'.get 8 = .ptr (h.length + 4) 0 [] A6 ∧ env'.get 12 = .ptr (h.length + 5) 0 [] A6 ∧ env'.get 13 = nat i ∧ ∀ j (hj : j < s.asks.length), j < i → ltP (fA s.asks[j]) (b) = true) ?_ ?_
   ⟨_,(by simp;rfl),by simp,by simp,by simp,by simp,by simp,by simp,by simp,fun j _ hj=>absurd hj (by omega)⟩
  ·rintro i st hi ⟨env',rfl,e3,e4,e5,e6,e8,e12,e13,hlt⟩
   obtain ⟨pb,pv,pp,bb,p1,p2,p3,p4⟩:=hrow.idxE hi
   have p2':=p2
   cases hq:ltP s.asks[i].who.e (b)
   ·have hlow:low fA s.asks (b)=i:=X8 fA (by omega) hlt (fun _ => hq)
    have ff:=L5 ta tc w lrow hi p1 p2' p3 p4 e3 e4 e5 e6 e8 e12 e13 hq
    refine D8Y (x:=?_)
    clear ff
    exact .inr ⟨by simp,_,rfl,by simp [e3],by simp [e4],by simp [e5],by simp [e6],by simp [e8],by simp [e12],by simp [e13,hlow]⟩
   ·skip
    have ff:=L5 ta tc w lrow hi p1 p2' p3 p4 e3 e4 e5 e6 e8 e12 e13 hq
    refine D8Y (x:=?_)
    clear ff
    refine .inl ⟨by simp,_,rfl,by simp [e3],by simp [e4],by simp [e5],by simp [e6],by simp [e8],by simp [e12],by simp,fun j hj hji=>?_⟩
    by_cases hq':j=i
    ·subst hq';exact hq
    ·exact hlt j hj (by omega)
  ·rintro st ⟨env',rfl,e3,e4,e5,e6,e8,e12,e13,hlt⟩
   have hlow:low fA s.asks (b)=s.asks.length:=X8 fA (Nat.le_refl _) hlt (fun hi=>absurd hi (by omega))
   have ff:=D8 ta tc w lrow e3 e4 e5 e6 e8 e12 e13
   refine A3E (x:=?_)
   clear ff
   exact ⟨by simp,_,rfl,by simp [e3],by simp [e4],by simp [e5],by simp [e6],by simp [e8],by simp [e12],by simp [e13,hlow]⟩
 rintro r ⟨env,rfl,e3,e4,e5,e6,e8,e12,e13⟩
 have hn:=A0o fA s.asks (b)
 generalize hN:low fA s.asks (b)=n at e13 hn
 obtain ⟨y1,f1,r1,_⟩:=hrow.pre (n:=n) (by simpa using hn)
 obtain ⟨y2,f2,r2,_⟩:=hrow.suf (n:=n) (by simpa using hn)
 rw [A40] at r1
 rw [A41] at r2
 have ff:=F8 ta tc w f1 f2 e3 e4 e5 e6 e8 e12 e13
 refine A3E (x:=?_)
 clear ff
 refine Y2 (h:=h) (⟨eSt s vt vp vs vi va vb,0,.own⟩::⟨pt b,0,.own⟩::⟨C5 a wt wp,0,.own⟩::⟨C1 0#32 ci0 D4 .nilslice .nilslice .nilslice .nilslice .nilslice .nilslice,0,.own⟩::⟨C1 0#32 ci0 D4 .nilslice .nilslice .nilslice .nilslice .nilslice .nilslice,0,.own⟩::[⟨eSt s vt vp vs vi va vb,0,.own⟩]) [⟨.node [],0,.own⟩] [] (n:=h.length+6) (es:=[]) (new:=(s.asks.take n).map B9) (by simp) (by simp only [List.length_cons,List.length_append,List.length_nil] <;> omega) i9 (fun _ => rfl) RnU.one (by have:=(r1.app (⟨eSt s vt vp vs vi va vb,0,.own⟩::⟨pt b,0,.own⟩::⟨C5 a wt wp,0,.own⟩::⟨C1 0#32 ci0 D4 .nilslice .nilslice .nilslice .nilslice .nilslice .nilslice,0,.own⟩::⟨C1 0#32 ci0 D4 .nilslice .nilslice .nilslice .nilslice .nilslice .nilslice,0,.own⟩::[⟨eSt s vt vp vs vi va vb,0,.own⟩,⟨.node [],0,.own⟩])).1;simpa using this) (by simp;omega) (by omega) fun z1 u1 gz1 _ _ _ => ?_
 have cz1:=gz1.cell
 simp only [List.nil_append,List.cons_append,List.append_assoc] at gz1 ⊢
 have ff:=H7 ta tc w f1 f2 e3 e4 e5 e6 e8 e12 e13 cz1
 refine A3E (x:=?_)
 clear ff
 refine Y2 (h:=h) (⟨eSt s vt vp vs vi va vb,0,.own⟩::⟨pt b,0,.own⟩::⟨C5 a wt wp,0,.own⟩::⟨C1 0#32 ci0 D4 .nilslice .nilslice .nilslice .nilslice .nilslice .nilslice,0,.own⟩::⟨C1 0#32 ci0 D4 .nilslice .nilslice .nilslice .nilslice .nilslice .nilslice,0,.own⟩::[⟨eSt s vt vp vs vi va vb,0,.own⟩]) u1 [⟨.node [B9 ⟨a.who,a.version⟩],0,.own⟩] (n:=h.length+6) (es:=(s.asks.take n).map B9) (new:=[B9 ⟨a.who,a.version⟩]) (by simp) (by simp only [List.length_cons,List.length_append,List.length_nil] <;> omega) i9 (fun _ => rfl) gz1 (by rw [M6];simp) (by simp;omega) (by omega) fun z2 u2 gz2 _ _ _ => ?_
 have cz2:=gz2.cell
 simp only [List.nil_append,List.cons_append,List.append_assoc] at gz2 ⊢
 have ff:=N9 ta tc w f1 f2 e3 e4 e5 e6 e8 e12 e13 cz1 cz2
 refine A3E (x:=?_)
 clear ff
 refine Y2 (h:=h) (⟨eSt s vt vp vs vi va vb,0,.own⟩::⟨pt b,0,.own⟩::⟨C5 a wt wp,0,.own⟩::⟨C1 0#32 ci0 D4 .nilslice .nilslice .nilslice .nilslice .nilslice .nilslice,0,.own⟩::⟨C1 0#32 ci0 D4 .nilslice .nilslice .nilslice .nilslice .nilslice .nilslice,0,.own⟩::[⟨eSt s vt vp vs vi va vb,0,.own⟩]) u2 [] (n:=h.length+6) (es:=(s.asks.take n).map B9++[B9 ⟨a.who,a.version⟩]) (new:=(s.asks.drop n).map B9) (by simp) (by simp only [List.length_cons,List.length_append,List.length_nil] <;> omega) i9 (fun _ => rfl) gz2 (by have:=(r2.app (⟨eSt s vt vp vs vi va vb,0,.own⟩::⟨pt b,0,.own⟩::⟨C5 a wt wp,0,.own⟩::⟨C1 0#32 ci0 D4 .nilslice .nilslice .nilslice .nilslice .nilslice .nilslice,0,.own⟩::⟨C1 0#32 ci0 D4 .nilslice .nilslice .nilslice .nilslice .nilslice .nilslice,0,.own⟩::⟨eSt s vt vp vs vi va vb,0,.own⟩::u2)).1;simpa using this) (by simp;omega) (by omega) fun z3 u3 gz3 _ _ _ => ?_
 have cz3:=gz3.cell
 simp only [List.nil_append,List.cons_append,List.append_assoc] at gz3 ⊢
 have ff:=T9 ta tc w f1 f2 e3 e4 e5 e6 e8 e12 e13 cz1 cz2 cz3
 refine A3E (x:=?_)
 clear ff
 have hfin:Row B5 (h++⟨eSt s vt vp vs vi va vb,0,.own⟩::⟨pt b,0,.own⟩::⟨C5 a wt wp,0,.own⟩::⟨C1 0#32 ci0 D4 .nilslice .nilslice .nilslice .nilslice .nilslice .nilslice,0,.own⟩::⟨C1 0#32 ci0 D4 .nilslice .nilslice .nilslice .nilslice .nilslice .nilslice,0,.own⟩::⟨eSt s vt vp vs vi z3 vb,0,.own⟩::u3) z3 ((ins fA s.asks ⟨a.who,a.version⟩).map B9):=by
  have:=gz3.row (F:=h++(⟨eSt s vt vp vs vi va vb,0,.own⟩::⟨pt b,0,.own⟩::⟨C5 a wt wp,0,.own⟩::⟨C1 0#32 ci0 D4 .nilslice .nilslice .nilslice .nilslice .nilslice .nilslice,0,.own⟩::⟨C1 0#32 ci0 D4 .nilslice .nilslice .nilslice .nilslice .nilslice .nilslice,0,.own⟩::[⟨eSt s vt vp vs vi z3 vb,0,.own⟩])) (l:=[]) i9 (by simp only [List.length_cons,List.length_append,List.length_nil] <;> omega)
  have hk:fA ⟨a.who,a.version⟩=b:=h1
  simpa [ins,hk,hN] using this
 have oz:Lo (h.length+5) .nilslice z3:=fun b' hb'=>.inr (by have:=(gz3.rb_ge b' hb').1;omega)
 have rs2:StR (h++⟨eSt s vt vp vs vi va vb,0,.own⟩::⟨pt b,0,.own⟩::⟨C5 a wt wp,0,.own⟩::⟨C1 0#32 ci0 D4 .nilslice .nilslice .nilslice .nilslice .nilslice .nilslice,0,.own⟩::⟨C1 0#32 ci0 D4 .nilslice .nilslice .nilslice .nilslice .nilslice .nilslice,0,.own⟩::⟨eSt s vt vp vs vi z3 vb,0,.own⟩::u3) { s with asks:=ins fA s.asks ⟨a.who,a.version⟩ } vt vp vs vi z3 vb:=⟨ra.ft.app _,ra.fp.app _,ra.fs.app _,ra.fi.app _,hfin,ra.fb.app _⟩
 refine N5 (A:=[_,_,_]) (N8 ra rc) rs2 fun y' hy b' hb=>?_
 simp only [List.mem_cons,List.not_mem_nil,or_false] at hy
 rcases hy with rfl|rfl|rfl|rfl|rfl|rfl
 ·exact .inl ⟨_,by simp,hb⟩
 ·exact .inl ⟨_,by simp,hb⟩
 ·exact .inl ⟨_,by simp,hb⟩
 ·exact .inl ⟨_,by simp,hb⟩
 ·rcases oz _ hb with h1|h1
  ·exact absurd h1 (Y5 _)
  ·exact .inr (by simp at h1 ⊢;omega)
 ·exact .inl ⟨_,by simp,hb⟩
end Go.Vab

namespace Go.Vab
open Go Go.Proofs
theorem B6w {G X:Prop} (f:Hd X→G:=by
 intro xX
 repeat' (first|refine stp (x:=?_)|(with_reducible refine A5 (c18 (ra.app _)) ?_;try dsimp only)|(with_reducible refine SpecQ.step (c18 (ra.app _)) ?_;rintro _ rfl;try dsimp only)|(with_reducible refine B6 (c18 (ra.app _)) ?_)|(simp (decide:=true) only [A1c,snB,if_true,if_false])|(with_reducible refine A1F _ _ _ ?_)|(with_reducible refine A1G _ _ _ ?_)|(with_reducible refine A1H _ _ _ ?_)|(with_reducible refine A1I _ _ _ ?_)|(with_reducible refine A09 _ _ _ ?_)|(with_reducible refine A1A _ _ _ ?_)|(with_reducible refine A0Y _ _ _ ?_)|(with_reducible refine A0I _ _ _ ?_)|(with_reducible refine A0Z _ _ _ ?_))
 exact xX.get) (x:X):G:=f ⟨x⟩
attribute [local irreducible] E9 Evs gW D9 E8 G5
theorem c87 {h : A3} {s : Stt} {vt vp vs vi va vb : AV} {b : Pt} {a : Actn} {wt wp : AV} (ra : StR h s vt vp vs vi va vb) (hs : H6 s) (rc : ActR h a wt wp) (w : a.kind ≠ 1#8 ∧ a.kind ≠ 2#8 ∧ a.kind ≠ 3#8 ∧ a.kind ≠ 5#8 ∧ a.kind ≠ 12#8 ∧ a.kind ≠ 13#8 ∧ a.kind ≠ 14#8 ∧ a.kind ≠ 15#8) :
  SpecQ Tryz.prog 87 [eSt s vt vp vs vi va vb,pt b,C5 a wt wp] h (M9 h [vt,vp,vs,vi,va,vb,wt,wp] (madeP s b a)):=by
 obtain ⟨w1,w2,w3,w5,w12,w13,w14,w15⟩:=w
 by_cases k4:a.kind=4#8
 ·exact G0T ra hs rc k4
 by_cases k6:a.kind=6#8
 ·exact G0V ra hs rc k6
 by_cases k7:a.kind=7#8
 ·exact G0W ra hs rc k7
 by_cases k8:a.kind=8#8
 ·exact G0U ra hs rc k8
 by_cases k9:a.kind=9#8
 ·exact G0X ra hs rc k9
 by_cases k10:a.kind=10#8
 ·exact F9R ra hs rc k10
 by_cases k11:a.kind=11#8
 ·exact F9N ra hs rc k11
 by_cases k16:a.kind=16#8
 ·exact F9O ra hs rc k16
 by_cases k17:a.kind=17#8
 ·exact F9P ra hs rc k17
 exact F9Q ra hs rc ⟨w1,w2,w3,k4,w5,k6,k7,k8,k9,k10,k11,w12,w13,w14,w15,k16,k17⟩
theorem F7a {h : A3} {s : Stt} {vt vp vs vi va vb : AV} {b : Pt} {a : Actn} {wt wp : AV} (ra : StR h s vt vp vs vi va vb) (hs : H6 s) (rc : ActR h a wt wp) (w : a.kind ≠ 1#8 ∧ a.kind ≠ 2#8 ∧ a.kind ≠ 3#8 ∧ a.kind ≠ 5#8 ∧ a.kind ≠ 12#8 ∧ a.kind ≠ 13#8 ∧ a.kind ≠ 14#8 ∧ a.kind ≠ 15#8) :
  SpecQ Tryz.prog 35 [eSt s vt vp vs vi va vb,pt b,C5 a wt wp] h (M9 h [vt,vp,vs,vi,va,vb,wt,wp] (madeP s b a)):=by
 have ta:=ra.cells
 have tc:=rc.cells
 have l1:=ra.fs.len
 have l2:=ra.fi.len
 have l3:=ra.fa.len
 have l4:=ra.fb.len
 rw [List.length_map] at l1 l2 l3 l4
 refine q35 fun env g0 g1 g2=>?_
 have ff:=E3 g0 g1 g2 ta tc l1 l2 l3 l4 w
 refine B6w (x:=?_)
 clear ff
 refine SpecQ.step (c87 (ra.app _) hs (rc.app _) w) ?_
 rintro ⟨v,h9⟩ hr
 cases hm:madeP s b a with
 | error k =>
  rw [hm] at hr
  obtain ⟨t,e⟩:=hr
  cases e
  simp only [List.append_assoc,List.cons_append,List.nil_append]
  have ff:=E3 g0 g1 g2 ta tc l1 l2 l3 l4 w
  refine B6w (x:=?_)
  clear ff
  exact ⟨_,rfl⟩
 | ok z =>
  rw [hm] at hr
  obtain ⟨x1,x2,x3,x4,x5,x6,t,e,rs,lo⟩:=hr
  cases e
  have tb:=rs.cells
  simp only [List.append_assoc,List.cons_append,List.nil_append] at rs ⊢
  have ff:=D8 g0 g1 g2 ta tc l1 l2 l3 l4 w tb
  refine B6w (x:=?_)
  clear ff
  refine N5 (A:=[_,_,_]) (N8 ra rc) rs fun y' hy b' hb=>?_
  rcases lo y' hy b' hb with h1|h1
  ·exact .inl h1
  ·exact .inr (by simp at h1 ⊢;omega)
end Go.Vab

namespace Go.Vab
open Go Go.Proofs
noncomputable section
def F3b:Ctx:=⟨fun _ _ _ => none,TT,63,[5,6,7,8,9,10,11,12,13,14,15,16,17,18,19,20,21,22,23,24,25,26,27,28,29,30,31,32,33,34,35,36,37,38,39,40,41,42,43,44,45,46,47,48,49,50,51,52,53,54,55,56,57,58,59,60,61,62]⟩
def D5V:=B8 Tryz.f16
def D5W:=cR D5V
def F2B:=cR D5W
def q16:=zQ2 F3b 16 Tryz.f16 D5V fun s=>(bnd (some (s.env.get 4)) fun v=>bnd (some []) fun vs=>some (v::vs))
def G24:=B3 F3b [[F2B],[F2B,D5W],[D5W,D5V]]
end
end Go.Vab

namespace Go.Vab
open Go Go.Proofs
theorem c16 {h : A3} {a b : Actn} {at_ ap bt bp : AV} (ra : ActR h a at_ ap) (rb : ActR h b bt bp) :
  SpecQ Tryz.prog 16 [C5 a at_ ap,C5 b bt bp] h fun r=>r=(.bool (decide (a=b)),h):=by
 have ta:=ra.cells
 have tb:=rb.cells
 have s1:=fun l=>(ra.t.app l).str
 have s2:=fun l=>(ra.p.app l).str
 have s3:=fun l=>(rb.t.app l).str
 have s4:=fun l=>(rb.p.app l).str
 refine SpecQ.drop1 rfl (q16 fun env g0 g1=>?_)
 repeat' (first|((with_reducible refine I6 (a:=?_) ?_ ?_);rotate_left;(focus ((conv=>lhs;simp (disch:=omega) [g0,g1,ta,tb,s1,s2,s3,s4]);done));try dsimp only)|(simp (decide:=true) only [G24,J7,J4,I3,J3,I2,J2,J1,if_true,if_false,J5,J6])|((with_reducible refine P8 (b:=?_) ?_ ?_ ?_);rotate_left;(focus ((conv=>lhs;simp (disch:=omega) [g0,g1,ta,tb,s1,s2,s3,s4]);done));all_goals ((intro hb;try simp only [Bool.not_true,Bool.not_false] at hb);try simp only [hb]))|(with_reducible refine P4 ?_ ?_ <;> (intro hb;try simp only [Bool.not_true,Bool.not_false] at hb) <;> try simp only [hb]))
 all_goals refine K6 ?_
 all_goals (clear ra rb ta tb s1 s2 s3 s4;cases a;cases b;simp_all)
end Go.Vab

namespace Go.Vab
open Go Go.Proofs
noncomputable section
def F3c:Ctx:=⟨fun _ _ _ => none,TT,78,[10,11,12,13,14,15,16,17,18,19,20,21,22,23,24,25,26,27,28,29,30,31,32,33,34,35,36,37,38,39,40,41,42,43,44,45,46,47,48,49,50,51,52,53,54,55,56,57,58,59,60,61,62,63,64,65,66,67,68,69,70,71,72,73,74,75,76,77]⟩
def D5X:=B8 Tryz.f82
def D5Y:=cR D5X
def D5Z:=cR D5Y
def D5a:=cR D5Z
def D5b:=cR D5a
def D5c:=cR D5b
def F2C:=cR D5c
def q82:=zQ1 F3c 82 Tryz.f82 D5X fun s=>(bnd (some (s.env.get 2)) fun v=>bnd (bnd (some (s.env.get 3)) fun v=>bnd (bnd (some (s.env.get 4)) fun v=>bnd (bnd (some (s.env.get 5)) fun v=>bnd (some []) fun vs=>some (v::vs)) fun vs=>some (v::vs)) fun vs=>some (v::vs)) fun vs=>some (v::vs))
def G25:=B3 F3c [[F2C],[F2C,D5c],[D5c,D5b],[D5b,D5a],[D5a,D5Z],[D5Z,D5Y],[D5Y,D5X]]
end
end Go.Vab

namespace Go.Vab
open Go Go.Proofs
noncomputable section
def F3d:Ctx:=⟨fun _ _ _ => none,TT,50,[8,9,10,11,12,13,14,15,16,17,18,19,20,22,23,24,26,27,28,30,31,32,34,35,36,37,38,40,41,42,43,44,46,47,48,49]⟩
def D5d:=B8 Tryz.f81
def D5e:=cR D5d
def D5f:=cR D5e
def B5n:=cR D5f
def D5g:=cL B5n
def B5o:=cR D5g
def F2D:=cL B5o
def F2E:=cR B5o
def B5p:=cR B5n
def D5h:=cL B5p
def B3K:=cR D5h
def E9N:=cL B3K
def E9O:=cR B3K
def B3L:=cR B5p
def C94:=cL B3L
def B3M:=cR C94
def E9P:=cL B3M
def E9Q:=cR B3M
def B3N:=cR B3L
def C95:=cL B3N
def B3O:=cR C95
def E9R:=cL B3O
def E9S:=cR B3O
def B3P:=cR B3N
def C96:=cL B3P
def B3Q:=cR C96
def E9T:=cL B3Q
def E9U:=cR B3Q
def B3R:=cR B3P
def C97:=cL B3R
def B3S:=cR C97
def E9V:=cL B3S
def E9W:=cR B3S
def C98:=cR B3R
def E9X:=cR C98
def q81:=zQ1 F3d 81 Tryz.f81 D5d fun s=>(bnd (D6 D5 (s.env.get 2) s.heap) fun v=>bnd (some []) fun vs=>some (v::vs))
def G26:=B3 F3d [[F2D],[F2E],[F2D,F2E,B5o],[B5o,D5g],[E9N],[E9O],[E9N,E9O,B3K],[B3K,D5h],[E9P],[E9Q],[E9P,E9Q,B3M],[B3M,C94],[E9R],[E9S],[E9R,E9S,B3O],[B3O,C95],[E9T],[E9U],[E9T,E9U,B3Q],[B3Q,C96],[E9V],[E9W],[E9V,E9W,B3S],[B3S,C97],[E9X],[E9X,C98],[C97,C98,B3R],[C96,B3R,B3P],[C95,B3P,B3N],[C94,B3N,B3L],[D5h,B3L,B5p],[D5g,B5p,B5n],[B5n,D5f],[D5f,D5e],[D5e,D5d]]
end
end Go.Vab

namespace Go.Vab
open Go Go.Proofs
noncomputable section
def D6s:Ctx:=⟨fun _ _ _ => none,TT,73,[3,4,7,8,9,10,11,12,13,14,15,16,17,18,19,20,21,22,23,24,25,26,28,29,30,31,32,33,34,35,36,37,38,39,40,41,42,43,44,45,46,47,48,49,50,51,52,54,55,56,57,58,59,60,61,62,63,64,65,66,67,68,69,70,71,72]⟩
def D5i:=B8 Tryz.f34
def B5q:=cR D5i
def D5j:=cL B5q
def B5r:=cR D5j
def D5k:=cL B5r
def F2F:=cR D5k
def F2G:=cR B5r
def D5l:=cR B5q
def B5s:=cR D5l
def D5m:=cL B5s
def B3T:=cR D5m
def C99:=cL B3T
def E9Y:=cR C99
def E9Z:=cR B3T
def D0A:=cR B5s
def E9a:=cR D0A
def q34:=zQ1 D6s 34 Tryz.f34 D5i fun s=>(bnd (some (s.env.get 2)) fun v=>bnd (some []) fun vs=>some (v::vs))
def F8f:=zDr D6s [B5r,D5j] [] [0,1,3,7,15,31,63,127,255,511,511,1535,4095,8191,16383,32767,65535,131071,262143,524287,1048575] [0,1,2,3,4,5,6,7,8,9,10,11,12,13,14,15,16,17,18,19,20] .f
def G27:=B3 D6s [[F2F],[F2F,D5k],[F2G],[D5k,F2G,B5r],[E9Y],[E9Y,C99],[E9Z],[C99,E9Z,B3T],[B3T,D5m],[E9a],[E9a,D0A],[D5m,D0A,B5s],[B5s,D5l],[D5j,D5l,B5q],[B5q,D5i]]
end
end Go.Vab

namespace Go.Vab
open Go Go.Proofs
theorem Y0 {G X:Prop} (f:Hd X→G:=by
 intro xX
 repeat' (first|refine stp (x:=?_)|(simp (decide:=true) only [G25,snB,if_true,if_false]))
 exact xX.get) (x:X):G:=f ⟨x⟩
theorem F7b {G X:Prop} (f:Hd X→G:=by
 intro xX
 repeat' (first|((with_reducible refine I6 (a:=?_) ?_ ?_);rotate_left;(focus ((conv=>lhs;simp (disch:=omega) [ff,P1]);done));try dsimp only)|((with_reducible refine V3 ?_ ?_);(focus (simp (disch:=omega) [ff,P1] <;> omega)))|((with_reducible refine V4 ?_ ?_);(focus (simp (disch:=omega) [ff,P1] <;> omega)))|(with_reducible refine W0 ?_)|(with_reducible refine SpecQ.step (c82) ?_;rintro _ rfl;try dsimp only)|((with_reducible refine S3 (args':=?_) ?_ ?_);rotate_left;(focus ((conv=>lhs;simp (disch:=omega) [ff,P1]);done)))|(simp (decide:=true) only [G26,J7,J4,I3,J3,I2,J2,J1,if_true,if_false,J5,J6]))
 exact xX.get) (x:X):G:=f ⟨x⟩
attribute [local irreducible] E9 Evs gW D9 E8 G5
def P1 (k:BitVec 8):AV:=.tuple [.bool (hW k),.bool (hE k),.bool (hR k),.bool (hP k)]
theorem c82 {h:A3} {k:BitVec 8}:SpecQ Tryz.prog 82 [u8 k] h fun r=>r=(P1 k,h):=by
 refine SpecQ.drop1 rfl (q82 fun env g0=>?_)
 by_cases k1:k=1#8
 ·subst k1
  have ff:=g0
  refine Y0 (x:=?_)
  clear ff
  exact ⟨[],by simp only [List.append_nil];rfl⟩
 by_cases k2:k=2#8
 ·subst k2
  have ff:=g0
  refine Y0 (x:=?_)
  clear ff
  exact ⟨[],by simp only [List.append_nil];rfl⟩
 by_cases k3:k=3#8
 ·subst k3
  have ff:=g0
  refine Y0 (x:=?_)
  clear ff
  exact ⟨[],by simp only [List.append_nil];rfl⟩
 by_cases k5:k=5#8
 ·subst k5
  have ff:=g0
  refine Y0 (x:=?_)
  clear ff
  exact ⟨[],by simp only [List.append_nil];rfl⟩
 by_cases k6:k=6#8
 ·subst k6
  have ff:=g0
  refine Y0 (x:=?_)
  clear ff
  exact ⟨[],by simp only [List.append_nil];rfl⟩
 by_cases k9:k=9#8
 ·subst k9
  have ff:=g0
  refine Y0 (x:=?_)
  clear ff
  exact ⟨[],by simp only [List.append_nil];rfl⟩
 by_cases k10:k=10#8
 ·subst k10
  have ff:=g0
  refine Y0 (x:=?_)
  clear ff
  exact ⟨[],by simp only [List.append_nil];rfl⟩
 by_cases k12:k=12#8
 ·subst k12
  have ff:=g0
  refine Y0 (x:=?_)
  clear ff
  exact ⟨[],by simp only [List.append_nil];rfl⟩
 by_cases k13:k=13#8
 ·subst k13
  have ff:=g0
  refine Y0 (x:=?_)
  clear ff
  exact ⟨[],by simp only [List.append_nil];rfl⟩
 by_cases k14:k=14#8
 ·subst k14
  have ff:=g0
  refine Y0 (x:=?_)
  clear ff
  exact ⟨[],by simp only [List.append_nil];rfl⟩
 by_cases k15:k=15#8
 ·subst k15
  have ff:=g0
  refine Y0 (x:=?_)
  clear ff
  exact ⟨[],by simp only [List.append_nil];rfl⟩
 by_cases k18:k=18#8
 ·subst k18
  have ff:=g0
  refine Y0 (x:=?_)
  clear ff
  exact ⟨[],by simp only [List.append_nil];rfl⟩
 have ff:=H7 g0 k1 k2 k3 k5 k6 k9 k10 k12 k13 k14 k15 k18
 refine Y0 (x:=?_)
 clear ff
 exact ⟨[],by simp only [List.append_nil,P1,hW,hE,hR,hP,k1,k2,k3,k5,k6,k9,k10,k12,k13,k14,k15,k18,decide_false,Bool.or_false];rfl⟩
def A1X (a:Actn):Actn:=⟨a.version,a.kind,if hW a.kind then a.who else ci0,if hE a.kind then a.e else pt0,if hR a.kind then a.role else 0#8,if a.kind=16#8 then a.title else [],if a.kind=17#8 then a.acc else D4,if hP a.kind then a.pass else []⟩
def B5t (a:Actn) (v:AV):AV:=if a.kind=16#8 then v else .nilslice
def B5u (a:Actn) (v:AV):AV:=if hP a.kind then v else .nilslice
theorem B5v {h:A3} {a:Actn} {vt vp:AV} (ra:ActR h a vt vp):ActR h (A1X a) (B5t a vt) (B5u a vp):=by
 constructor
 ·simp only [B5t,A1X];split
  ·exact ra.t
  ·exact BytL.nil h
 ·simp only [B5u,A1X];split
  ·exact ra.p
  ·exact BytL.nil h
theorem BytL.under {h:A3} {y:AV} {l:Bs} (hy:BytL h y l):y.under h.length=true:=by
 have h2:=hy.1.2
 unfold A01 at h2
 cases y with
 | slice i ver path t off len cap=>exact decide_eq_true (hy.rb_lt' _ rfl)
 | nilslice=>rfl
 | _ => simp at h2
theorem c81 {h:A3} {a:Actn} {vt vp:AV} (ra:ActR h a vt vp):SpecQ Tryz.prog 81 [C5 a vt vp] h fun r=>r=(C5 (A1X a) (B5t a vt) (B5u a vp),h):=by
 have ta:=ra.cells
 have ht:=(B5v ra).t.under
 have hp:=(B5v ra).p.under
 refine SpecQ.drop1 (by simp only [E5,AV.under,AV.unders,ht,hp];simp [eCi,J8,AV.under,AV.unders,A2k,u8,u32]) (q81 fun env g0=>?_)
 cases w1:hW a.kind <;> cases w2:hE a.kind <;> cases w3:hR a.kind <;> cases w4:hP a.kind <;> by_cases w5:a.kind=16#8 <;> by_cases w6:a.kind=17#8
 all_goals try (exfalso;clear ht hp ta g0;simp only [w5,w6] at w1 w2 w3 w4;revert w1 w2 w3 w4;decide)
 all_goals try (exfalso;clear ht hp ta g0;rw [w5] at w6;revert w6;decide)
 all_goals
  have ff:=aI9 g0 ta w1 w2 w3 w4 w5 w6 @F6O
  refine F7b (x:=?_)
  clear ff
 all_goals exact ⟨_,(by simp [A1X,B5t,B5u,w1,w2,w3,w4,w5,w6,C8];rfl)⟩
theorem F7c {a:Actn}:(!(decide (a.kind=0#8)||decide (18#8 < a.kind) || !decide (a=A1X a)||decide (200 < a.title.length)) && !((hR a.kind && !roleOk a.role)||(decide (a.kind=17#8) && !accOk a.acc))&&(!hP a.kind||decide (a.pass.length=16)||(decide (a.kind=18#8)&&decide (a.pass=[]))))=S8 a:=by
 obtain ⟨v,k,w,e,r,t,c,p⟩:=a
 simp only [S8,A1X,Actn.mk.injEq,true_and]
 have h0:decide (k < 1#8)=decide (k=0#8):=Z5 (by
  constructor
  ·intro h;apply BitVec.eq_of_toNat_eq;rw [BitVec.lt_def] at h;simp at h ⊢;exact h
  ·rintro rfl;decide)
 have ht:decide (0 < t.length) = !decide (t=[]):=by cases t <;> simp
 have hp:decide (p.length=0)=decide (p=[]):=by cases p <;> simp
 have hp16:decide (p.length=16)=true→decide (p=[])=false:=by cases p <;> simp
 rw [h0,ht,hp]
 have hr:roleOk r=true→decide (r=0#8)=false:=by
  intro h
  unfold roleOk at h
  rw [decide_eq_false_iff_not]
  rintro rfl
  revert h;decide
 have k16:decide (k=16#8)=hT k:=rfl
 have k17:decide (k=17#8)=hA k:=rfl
 have kx:hT k=true→hP k=false∧hA k=false:=by
  intro h;have:k=16#8:=of_decide_eq_true h;subst this;decide
 have ky:decide (k=18#8)=true→hP k=true:=by
  intro h;have:k=18#8:=of_decide_eq_true h;subst this;rfl
 have ite1:∀ (b:Bool) (x y z:Pt),decide (x=if b=true then y else z)=if b=true then decide (x=y) else decide (x=z):=fun b x y z=>by cases b <;> rfl
 have ite2:∀ (b:Bool) (x y z:Ci),decide (x=if b=true then y else z)=if b=true then decide (x=y) else decide (x=z):=fun b x y z=>by cases b <;> rfl
 have ite3:∀ (b:Bool) (x y z:BitVec 8),decide (x=if b=true then y else z)=if b=true then decide (x=y) else decide (x=z):=fun b x y z=>by cases b <;> rfl
 have ite4:∀ (x y z:Bs),decide (x=if k=16#8 then y else z)=if hT k=true then decide (x=y) else decide (x=z):=fun x y z=>by
  by_cases h:k=16#8 <;> simp [hT,h]
 have ite5:∀ (x y z:Acc),decide (x=if k=17#8 then y else z)=if hA k=true then decide (x=y) else decide (x=z):=fun x y z=>by
  by_cases h:k=17#8 <;> simp [hA,h]
 have ite6:∀ (b:Bool) (x y z:Bs),decide (x=if b=true then y else z)=if b=true then decide (x=y) else decide (x=z):=fun b x y z=>by cases b <;> rfl
 simp only [Bool.decide_and,ite1,ite2,ite3,ite4,ite5,ite6,k17,decide_true]
 generalize decide (w=ci0)=x1 at *
 generalize decide (e=pt0)=x2 at *
 generalize decide (r=0#8)=x3 at *
 generalize decide (t=[])=x4 at *
 generalize decide (c=D4)=x5 at *
 generalize decide (p=[])=x6 at *
 generalize decide (p.length=16)=x7 at *
 generalize roleOk r=x8 at *
 generalize accOk c=x9 at *
 generalize decide (k=18#8)=y1 at *
 generalize decide (k=0#8)=y2 at *
 generalize decide (18#8 < k)=y3 at *
 generalize decide (200 < t.length)=y4 at *
 generalize hW k=z1 at *
 generalize hE k=z2 at *
 generalize hR k=z3 at *
 generalize hP k=z4 at *
 generalize hT k=z5 at *
 generalize hA k=z6 at *
 clear h0 ht hp ite1 ite2 ite3 ite4 ite5 ite6 k16 k17
 cases y2
 case true=>simp
 cases y3
 case true=>simp
 cases y4
 case true=>simp
 cases z1 <;> cases z2 <;> cases z3 <;> cases x1 <;> cases x2 <;> cases x3 <;> cases x8 <;> simp_all
 all_goals (revert hp16 ky kx;cases x4 <;> cases x5 <;> cases x6 <;> cases x7 <;> cases z4 <;> revert x9 y1 z5 z6 <;> decide)
theorem c34 {h:A3} {a:Actn} {vt vp:AV} (ra:ActR h a vt vp):SpecQ Tryz.prog 34 [C5 a vt vp] h fun r=>r=(.bool (S8 a),h):=by
 have ta:=ra.cells
 have l1:=ra.t.len
 have l2:=ra.p.len
 rw [←F7c]
 refine SpecQ.drop1 rfl (q34 fun env g0=>?_)
 repeat' (first|((with_reducible refine I6 (a:=?_) ?_ ?_);rotate_left;(focus ((conv=>lhs;simp (disch:=omega) [g0,ta,l1,l2,P1]);done));try dsimp only)|((with_reducible refine S6 ?_ ?_);(focus (simp (disch:=omega) [g0,ta,l1,l2,P1];done)))|((with_reducible refine T4 ?_ ?_);(focus (simp (disch:=omega) [g0,ta,l1,l2,P1];done));try dsimp only)|((with_reducible refine T5 ?_ ?_);(focus (simp (disch:=omega) [g0,ta,l1,l2,P1];done));try dsimp only)|((with_reducible refine V3 ?_ ?_);(focus (simp (disch:=omega) [g0,ta,l1,l2,P1] <;> omega)))|((with_reducible refine V4 ?_ ?_);(focus (simp (disch:=omega) [g0,ta,l1,l2,P1] <;> omega)))|(with_reducible refine W0 ?_)|((with_reducible refine o9 ?_ ?_);(focus (simp (disch:=omega) [g0,ta,l1,l2,P1];done));try dsimp only)|((with_reducible refine s5 ?_ ?_);(focus (simp (disch:=omega) [g0,ta,l1,l2,P1];done));try dsimp only)|((with_reducible refine s6 ?_ ?_);(focus (simp (disch:=omega) [g0,ta,l1,l2,P1];done));try dsimp only)|(with_reducible refine A5 (c82) ?_;try dsimp only)|(with_reducible refine SpecQ.step (c82) ?_;rintro _ rfl;try dsimp only)|(with_reducible refine A5 (c81 (ra.app _)) ?_;try dsimp only)|(with_reducible refine SpecQ.step (c81 (ra.app _)) ?_;rintro _ rfl;try dsimp only)|(with_reducible refine A5 (c16 (ra.app _) (B5v (ra.app _))) ?_;try dsimp only)|(with_reducible refine SpecQ.step (c16 (ra.app _) (B5v (ra.app _))) ?_;rintro _ rfl;try dsimp only)|(with_reducible refine A5 (c39) ?_;try dsimp only)|(with_reducible refine SpecQ.step (c39) ?_;rintro _ rfl;try dsimp only)|(with_reducible refine A5 (c37) ?_;try dsimp only)|(with_reducible refine SpecQ.step (c37) ?_;rintro _ rfl;try dsimp only)|((with_reducible refine S3 (args':=?_) ?_ ?_);rotate_left;(focus ((conv=>lhs;simp (disch:=omega) [g0,ta,l1,l2,P1]);done)))|((with_reducible refine v7 (args':=?_) ?_ ?_);rotate_left;(focus ((conv=>lhs;simp (disch:=omega) [g0,ta,l1,l2,P1]);done)))|((with_reducible refine s7 (g:=?_) (caps:=?_) ?_ ?_);rotate_left;rotate_left;(focus ((conv=>lhs;simp (disch:=omega) [g0,ta,l1,l2,P1]);done)))|(simp (decide:=true) only [G27,J7,J4,I3,J3,I2,J2,J1,if_true,if_false,J5,J6])|(with_reducible refine F8f _ _ _ ?_)|((with_reducible refine a6 (b:=?_) ?_ ?_ ?_);rotate_left;(focus ((conv=>lhs;simp (disch:=omega) [g0,ta,l1,l2,P1]);done));all_goals ((intro hb;try simp only [Bool.not_true,Bool.not_false] at hb);try simp only [hb]))|((with_reducible refine P8 (b:=?_) ?_ ?_ ?_);rotate_left;(focus ((conv=>lhs;simp (disch:=omega) [g0,ta,l1,l2,P1]);done));all_goals ((intro hb;try simp only [Bool.not_true,Bool.not_false] at hb);try simp only [hb]))|((with_reducible refine W8 (b:=?_) ?_ ?_ ?_);rotate_left;(focus ((conv=>lhs;simp (disch:=omega) [g0,ta,l1,l2,P1]);done));all_goals ((intro hb;try simp only [Bool.not_true,Bool.not_false] at hb);try simp only [hb]))|(with_reducible refine P4 ?_ ?_ <;> (intro hb;try simp only [Bool.not_true,Bool.not_false] at hb) <;> try simp only [hb])|(with_reducible refine U8 ?_ ?_ <;> (intro hb;try simp only [Bool.not_true,Bool.not_false] at hb) <;> try simp only [hb])|(with_reducible refine Y8 ?_ ?_ <;> (intro hb;try simp only [Bool.not_true,Bool.not_false] at hb) <;> try simp only [hb])|(with_reducible refine A0V ?_ ?_ <;> (intro hb;try simp only [Bool.not_true,Bool.not_false] at hb) <;> try simp only [hb]))
 all_goals refine K6 ?_
 all_goals (clear ra ta l1 l2 g0;simp only [*,Bool.not_true,Bool.not_false,Bool.true_and,Bool.and_true,Bool.false_and,Bool.and_false,Bool.true_or,Bool.or_true,Bool.false_or,Bool.or_false];done)
end Go.Vab

namespace Go.Vab
open Go Go.Proofs
def A0Q (l:List Ci) (e:Pt):Ci:=l.foldl (fun c x=>if x.e=e then x else c) ci0
theorem F5o (l:List Ci) (x:Ci) (e:Pt):A0Q (l++[x]) e=if x.e=e then x else A0Q l e:=by simp [A0Q]
theorem F4Z {l:List Ci} {i:Nat} (hi:i < l.length) (e:Pt):A0Q (l.take (i+1)) e=if l[i].e=e then l[i] else A0Q (l.take i) e:=by
 rw [List.take_succ,List.getElem?_eq_getElem hi];exact F5o _ _ _
theorem lastF (e:Pt):∀ (l:List Ci) (c:Ci),(l.foldl (fun c x=>if x.e=e then x else c) c=c∧∀ x∈l,x.e≠e)∨(l.foldl (fun c x=>if x.e=e then x else c) c∈l∧(l.foldl (fun c x=>if x.e=e then x else c) c).e=e)
 | [],c=>.inl ⟨rfl,by simp⟩
 | x::xs,c=>by
  simp only [List.foldl_cons]
  rcases lastF e xs (if x.e=e then x else c) with ⟨h1,h2⟩|⟨h1,h2⟩
  ·by_cases hx:x.e=e
   ·right;rw [h1,if_pos hx];simp [hx]
   ·left;rw [h1,if_neg hx]
    refine ⟨rfl,fun y hy=>?_⟩
    rcases List.mem_cons.mp hy with rfl|hy
    ·exact hx
    ·exact h2 y hy
  ·right;exact ⟨List.mem_cons_of_mem _ h1,h2⟩
theorem D8Z {s:Stt} {e:Pt} {c:Ci} (h:P0 s e=some c):c∈M4 s∧c.e=e:=by
 unfold P0 at h
 split at h
 ·rename_i x hx
  have m:=List.mem_of_find?_eq_some hx
  have p:=List.find?_some hx
  simp only [decide_eq_true_eq] at p
  cases h
  exact ⟨by simp only [M4,List.mem_append,List.mem_map];exact .inl (.inl (.inl ⟨x,m,rfl⟩)),p⟩
 ·split at h
  ·rename_i x hx
   have m:=List.mem_of_find?_eq_some hx
   have p:=List.find?_some hx
   simp only [decide_eq_true_eq] at p
   cases h
   exact ⟨by simp only [M4,List.mem_append,List.mem_map];exact .inl (.inl (.inr ⟨x,m,rfl⟩)),p⟩
  ·cases hx:fnd fA s.asks e with
   | none=>rw [hx] at h;cases h
   | some x =>
    rw [hx] at h
    have m:=List.mem_of_find?_eq_some hx
    have p:=List.find?_some hx
    simp only [decide_eq_true_eq] at p
    cases h
    exact ⟨by simp only [M4,List.mem_append,List.mem_map];exact .inl (.inr ⟨x,m,rfl⟩),p⟩
theorem B6x {X:Type} {f:X→Pt} {l:List X} {e:Pt} (h:A8 f l e=true):∃ x,fnd f l e=some x:=Option.isSome_iff_exists.mp h
theorem A1v {X:Type} {f:X→Pt} {l:List X} {e:Pt} (h:A8 f l e=false):fnd f l e=none:=by
 cases q:fnd f l e with
 | none=>rfl
 | some x=>rw [A8,q] at h;cases h
theorem G0Y {s:Stt} {e:Pt} (h:A8 fS s.seats e=true):∃ c,P0 s e=some c:=by
 obtain ⟨x,hx⟩:=B6x h
 exact ⟨x.who,by simp [P0,hx]⟩
theorem G0Z {s:Stt} {e:Pt} (h0:A8 fS s.seats e=false) (h:A8 fI s.invites e=true):∃ c,P0 s e=some c:=by
 obtain ⟨x,hx⟩:=B6x h
 exact ⟨x.who,by simp [P0,A1v h0,hx]⟩
theorem G0a {s:Stt} {e:Pt} (h0:A8 fS s.seats e=false) (h1:A8 fI s.invites e=false) (h:A8 fA s.asks e=true):∃ c,P0 s e=some c:=by
 obtain ⟨x,hx⟩:=B6x h
 exact ⟨x.who,by simp [P0,A1v h0,A1v h1,hx]⟩
theorem F7d {s:Stt} {e:Pt} (h0:A8 fS s.seats e=false) (h1:A8 fI s.invites e=false) (h:A8 fA s.asks e=false):P0 s e=none:=by
 simp [P0,A1v h0,A1v h1,A1v h]
def A4X (s:Stt):Prop:=∀ x∈M4 s,∀ y∈M4 s,x.e=y.e→x=y
theorem F7e {s:Stt} {e:Pt} {c:Ci} (hu:A4X s) (h:P0 s e=some c):A0Q (M4 s) e=c:=by
 obtain ⟨m,p⟩:=D8Z h
 rcases lastF e (M4 s) ci0 with ⟨_,h2⟩|⟨h1,h2⟩
 ·exact absurd p (h2 c m)
 ·exact hu _ h1 _ m (h2.trans p.symm)
end Go.Vab

namespace Go.Vab
open Go Go.Proofs
noncomputable section
def F3e:Ctx:=⟨fun _ _ _ => none,TT,51,[10,11,12,13,14,15,16,18,19,20,21,22,23,24,25,26,27,28,30,31,32,33,35,36,37,38,39,40,41,42,43,45,46,47,48,49,50]⟩
def D5n:=B8 Tryz.f14
def B5w:=cR D5n
def D5o:=cL B5w
def B5x:=cR D5o
def D5p:=cL B5x
def F2H:=cR D5p
def F2I:=cR B5x
def B5y:=cR B5w
def D5q:=cL B5y
def B5z:=cR D5q
def D0B:=cL B5z
def E9b:=cR D0B
def E9c:=cR B5z
def B3U:=cR B5y
def D0C:=cL B3U
def B3V:=cR D0C
def D0D:=cL B3V
def E9d:=cR D0D
def E9e:=cR B3V
def D0E:=cR B3U
def B3W:=cR D0E
def D0F:=cL B3W
def B3X:=cR D0F
def D0G:=cL B3X
def E9f:=cR D0G
def E9g:=cR B3X
def D0H:=cR B3W
def D0I:=cR D0H
def E9h:=cR D0I
def q14:=zQ3 F3e 14 Tryz.f14 D5n fun s=>(bnd (D6 A6 (s.env.get 6) s.heap) fun v=>bnd (bnd (some (s.env.get 7)) fun v=>bnd (some []) fun vs=>some (v::vs)) fun vs=>some (v::vs))
def F3f:=B3 F3e [[F2H],[F2H,D5p],[F2I],[D5p,F2I,B5x],[B5x,D5o],[E9b],[E9b,D0B],[E9c],[D0B,E9c,B5z],[B5z,D5q],[E9d],[E9d,D0D],[E9e],[D0D,E9e,B3V],[B3V,D0C],[E9f],[E9f,D0G],[E9g],[D0G,E9g,B3X],[B3X,D0F],[E9h],[E9h,D0I],[D0I,D0H],[D0F,D0H,B3W],[B3W,D0E],[D0C,D0E,B3U],[D5q,B3U,B5y],[D5o,B5y,B5w],[B5w,D5n]]
end
end Go.Vab

namespace Go.Vab
open Go Go.Proofs
theorem A3F {G X:Prop} (f:Hd X→G:=by
 intro xX
 repeat' (first|refine stp (x:=?_)|(with_reducible refine SpecQ.step (c23 (ra.app _) hs) ?_;rintro _ rfl;try dsimp only)|(with_reducible refine SpecQ.step (c34 (rc.app _)) ?_;rintro _ rfl;try dsimp only)|(simp (decide:=true) only [F3f,snB,if_true,if_false]))
 exact xX.get) (x:X):G:=f ⟨x⟩
theorem A0a {G X:Prop} (f:Hd X→G:=by
 intro xX
 repeat' (first|refine stp (x:=?_)|(simp (decide:=true) only [F3f,snB,if_true,if_false]))
 exact xX.get) (x:X):G:=f ⟨x⟩
attribute [local irreducible] E9 Evs gW D9 E8 G5
theorem E9i {X Y:Type} (f:X→Y):∀ {l:List X},(l.map f).Nodup→∀ x∈l,∀ y∈l,f x=f y→x=y
 | [],_,x,hx,_,_,_ => absurd hx (by simp)
 | a::l,h,x,hx,y,hy,e=>by
  rw [List.map_cons,List.nodup_cons] at h
  by_cases h1:x=a
  ·by_cases h2:y=a
   ·rw [h1,h2]
   ·have hy':y∈l:=by rcases List.mem_cons.mp hy with q|q;exact absurd q h2;exact q
    exact absurd (List.mem_map.mpr ⟨y,hy',by rw [←e,h1]⟩) h.1
  ·have hx':x∈l:=by rcases List.mem_cons.mp hx with q|q;exact absurd q h1;exact q
   by_cases h2:y=a
   ·exact absurd (List.mem_map.mpr ⟨x,hx',by rw [e,h2]⟩) h.1
   ·have hy':y∈l:=by rcases List.mem_cons.mp hy with q|q;exact absurd q h2;exact q
    exact E9i f h.2 x hx' y hy' e
theorem F7f {s:Stt} (h:E4 s=true):A4X s:=by
 rw [←B7S] at h
 unfold U2 at h
 simp only [Bool.and_eq_true] at h
 obtain ⟨_,_,_,hn,_⟩:=h
 rw [D8r,←D7S] at hn
 exact E9i _ hn
def E9j:Prop:=∀ {h:A3} {s:Stt} {vt vp vs vi va vb:AV} {b:Pt} {a:Actn} {wt wp:AV},StR h s vt vp vs vi va vb→H6 s→ActR h a wt wp→A4X s→SpecQ Tryz.prog 35 [eSt s vt vp vs vi va vb,pt b,C5 a wt wp] h (M9 h [vt,vp,vs,vi,va,vb,wt,wp] (madeP s b a))
theorem F8g (hM : E9j) {h : A3} {s : Stt} {vt vp vs vi va vb : AV} {b : Pt} {a : Actn} {wt wp : AV} (ra : StR h s vt vp vs vi va vb) (hs : H6 s) (rc : ActR h a wt wp) :
  SpecQ Tryz.prog 14 [eSt s vt vp vs vi va vb,pt b,C5 a wt wp] h (M9 h [vt,vp,vs,vi,va,vb,wt,wp] (I4 s b a)):=by
 have ta:=ra.cells
 have tc:=rc.cells
 have l1:=ra.fs.len
 rw [List.length_map] at l1
 refine q14 fun env g0 g1 g2=>?_
 have ff:=aI6 g0 g1 g2 ta tc l1
 refine A3F (x:=?_)
 clear ff
 cases h1:E4 s
 ·have hm:I4 s b a=.error 2:=by simp [I4,h1]
  rw [hm]
  have ff:=aI7 g0 g1 g2 ta tc l1 h1
  refine A3F (x:=?_)
  clear ff
  exact ⟨_,rfl⟩
 have ff:=aI7 g0 g1 g2 ta tc l1 h1
 refine A3F (x:=?_)
 clear ff
 cases h2:S8 a
 ·have hm:I4 s b a=.error 2:=by simp [I4,h2]
  rw [hm]
  have ff:=aI8 g0 g1 g2 ta tc l1 h1 h2
  refine A3F (x:=?_)
  clear ff
  exact ⟨_,rfl⟩
 have ff:=aI8 g0 g1 g2 ta tc l1 h1 h2
 refine A3F (x:=?_)
 clear ff
 by_cases h3:a.version=0#32
 ·have hm:I4 s b a=.error 190:=by simp [I4,h1,h2,h3]
  rw [hm]
  have ff:=aI9 g0 g1 g2 ta tc l1 h1 h2 h3
  refine A0a (x:=?_)
  clear ff
  exact ⟨_,rfl⟩
 have ff:=aI9 g0 g1 g2 ta tc l1 h1 h2 h3
 refine A0a (x:=?_)
 clear ff
 by_cases h4:a.version - 1#32=s.version
 rotate_left
 ·have hm:I4 s b a=.error 190:=by simp [I4,h1,h2,h3,h4]
  rw [hm]
  have ff:=E3 g0 g1 g2 ta tc l1 h1 h2 h3 h4
  refine A0a (x:=?_)
  clear ff
  exact ⟨_,rfl⟩
 have ff:=E3 g0 g1 g2 ta tc l1 h1 h2 h3 h4
 refine A0a (x:=?_)
 clear ff
 by_cases h5:s.seats=[]
 ·have hm:I4 s b a=.error 197:=by simp [I4,h1,h2,h3,h4,h5]
  rw [hm]
  have ff:=D8 g0 g1 g2 ta tc l1 h1 h2 h3 h4 h5
  refine A0a (x:=?_)
  clear ff
  exact ⟨_,rfl⟩
 have ff:=D8 g0 g1 g2 ta tc l1 h1 h2 h3 h4 h5
 refine A0a (x:=?_)
 clear ff
 refine SpecQ.step (hM (ra.app _) hs (rc.app _) (F7f h1)) ?_
 rintro ⟨v,h9⟩ hr
 cases hm:madeP s b a with
 | error k =>
  have hst:I4 s b a=.error k:=by simp [I4,h1,h2,h3,h4,h5,hm]
  rw [hm] at hr
  rw [hst]
  obtain ⟨t,e⟩:=hr
  cases e
  have hk:=B6i hm
  simp only [List.append_assoc,List.cons_append,List.nil_append]
  have ff:=aI7 g0 g1 g2 ta tc l1 hk
  refine A0a (x:=?_)
  clear ff
  exact ⟨_,rfl⟩
 | ok z =>
  have hst:I4 s b a=.ok { z with version:=a.version }:=by simp [I4,h1,h2,h3,h4,h5,hm]
  rw [hm] at hr
  rw [hst]
  obtain ⟨x1,x2,x3,x4,x5,x6,t,e,rs,lo⟩:=hr
  cases e
  have tb:=rs.cells
  simp only [List.append_assoc,List.cons_append,List.nil_append] at rs ⊢
  have ff:=aI7 g0 g1 g2 ta tc l1 tb
  refine A0a (x:=?_)
  clear ff
  refine N5 (A:=[_,_,_]) (c:=⟨C1 0#32 ci0 D4 .nilslice .nilslice .nilslice .nilslice .nilslice .nilslice,0,.own⟩) (s:={ z with version:=a.version }) (N8 ra rc) (by have q:=fun l=>rs.app l;simp only [List.append_assoc,List.cons_append] at q;exact ⟨(q _).ft,(q _).fp,(q _).fs,(q _).fi,(q _).fa,(q _).fb⟩) fun y' hy b' hb=>?_
  rcases lo y' hy b' hb with h1|h1
  ·exact .inl h1
  ·exact .inr (by simp at h1 ⊢;omega)
end Go.Vab

namespace Go.Vab
open Go Go.Proofs
theorem A42 {G X:Prop} (f:Hd X→G:=by
 intro xX
 repeat' (first|refine stp (x:=?_)|(simp (decide:=true) only [E9k,snB,if_true,if_false])|(with_reducible refine A0Y _ _ _ ?_))
 exact xX.get) (x:X):G:=f ⟨x⟩
theorem F5p {G X:Prop} (f:Hd X→G:=by
 intro xX
 repeat' (first|refine stp (x:=?_)|(simp (decide:=true) only [E9k,snB,if_true,if_false]))
 exact xX.get) (x:X):G:=f ⟨x⟩
theorem A43 {G X:Prop} (f:Hd X→G:=by
 intro xX
 repeat' (first|refine stp (x:=?_)|(simp (decide:=true) only [F9S,snB,if_true,if_false]))
 exact xX.get) (x:X):G:=f ⟨x⟩
theorem A44 {G X:Prop} (f:Hd X→G:=by
 intro xX
 repeat' (first|refine stp (x:=?_)|(simp (decide:=true) only [B3Y,snB,if_true,if_false]))
 exact xX.get) (x:X):G:=f ⟨x⟩
theorem D8a {G X:Prop} (f:Hd X→G:=by
 intro xX
 repeat' (first|refine stp (x:=?_)|(with_reducible refine A5 (c86) ?_;try dsimp only)|(with_reducible refine SpecQ.step (c86) ?_;rintro _ rfl;try dsimp only)|(with_reducible refine B6 (c86) ?_)|(simp (decide:=true) only [B3Y,snB,if_true,if_false])|(with_reducible refine A0I _ _ _ ?_))
 exact xX.get) (x:X):G:=f ⟨x⟩
theorem F5q {G X:Prop} (f:Hd X→G:=by
 intro xX
 repeat' (first|refine stp (x:=?_)|(simp (decide:=true) only [B3Y,snB,if_true,if_false])|(with_reducible refine A0I _ _ _ ?_))
 exact xX.get) (x:X):G:=f ⟨x⟩
theorem F5r {G X:Prop} (f:Hd X→G:=by
 intro xX
 repeat' (first|refine stp (x:=?_)|(with_reducible refine A5 (c36 (ra.app _)) ?_;try dsimp only)|(with_reducible refine SpecQ.step (c36 (ra.app _)) ?_;rintro _ rfl;try dsimp only)|(with_reducible refine B6 (c36 (ra.app _)) ?_)|(simp (decide:=true) only [B3Y,snB,if_true,if_false])|(with_reducible refine A0Z _ _ _ ?_))
 exact xX.get) (x:X):G:=f ⟨x⟩
theorem D8b {G X:Prop} (f:Hd X→G:=by
 intro xX
 repeat' (first|refine stp (x:=?_)|(simp (decide:=true) only [F9T,snB,if_true,if_false]))
 exact xX.get) (x:X):G:=f ⟨x⟩
theorem F5s {G X:Prop} (f:Hd X→G:=by
 intro xX
 repeat' (first|refine stp (x:=?_)|(simp (decide:=true) only [snB,if_true,if_false]))
 exact xX.get) (x:X):G:=f ⟨x⟩
theorem D8c {G X:Prop} (f:Hd X→G:=by
 intro xX
 repeat' (first|refine stp (x:=?_)|(simp (decide:=true) only [F9U,snB,if_true,if_false]))
 exact xX.get) (x:X):G:=f ⟨x⟩
theorem R7 {G X:Prop} (f:Hd X→G:=by
 intro xX
 repeat' (first|refine stp (x:=?_)|(with_reducible refine A5 (c18 (ra.app _)) ?_;try dsimp only)|(with_reducible refine SpecQ.step (c18 (ra.app _)) ?_;rintro _ rfl;try dsimp only)|(with_reducible refine B6 (c18 (ra.app _)) ?_)|(with_reducible refine A5 (c36 (ra.app _)) ?_;try dsimp only)|(with_reducible refine SpecQ.step (c36 (ra.app _)) ?_;rintro _ rfl;try dsimp only)|(with_reducible refine B6 (c36 (ra.app _)) ?_)|(with_reducible refine A5 (c41 (ra.app _)) ?_;try dsimp only)|(with_reducible refine SpecQ.step (c41 (ra.app _)) ?_;rintro _ rfl;try dsimp only)|(with_reducible refine B6 (c41 (ra.app _)) ?_)|(with_reducible refine A5 (c42 (ra.app _)) ?_;try dsimp only)|(with_reducible refine SpecQ.step (c42 (ra.app _)) ?_;rintro _ rfl;try dsimp only)|(with_reducible refine B6 (c42 (ra.app _)) ?_)|(with_reducible refine A5 (c43 (ra.app _)) ?_;try dsimp only)|(with_reducible refine SpecQ.step (c43 (ra.app _)) ?_;rintro _ rfl;try dsimp only)|(with_reducible refine B6 (c43 (ra.app _)) ?_)|(simp (decide:=true) only [F9V,snB,if_true,if_false]))
 exact xX.get) (x:X):G:=f ⟨x⟩
attribute [local irreducible] E9 Evs gW D9 E8 G5
def F9V:=B3 O4 [[A6k],[A6k,A3d],[A6l],[A6l,A3f],[A6m],[A6m,A3h],[A6n],[A6n,A3j],[A6o],[A6o,A3l],[A6p],[A3l,A6p,A2K],[A2K,A3k],[A3j,A3k,A2J],[A2J,A3i],[A3h,A3i,A2I],[A2I,A3g],[A3f,A3g,A2H],[A2H,A3e],[A3d,A3e,A2G],[A2G,A3c],[A3c,A3b],[A3b,A2L,A2F],[A2F,A63,A2E],[A2E,A3a],[A3Z,A3a,A2D],[A2D,A3Y],[A6d,A3Y,A2C],[A2C,A3X],[B2t,A3X,A2c],[A2c,A38],[A37,A38,A2b],[A2b,A36],[A35,A36,A2a],[A2a,A34],[A4P,A34,A2q],[A2q,A4O],[A4O,A4N],[A4N,A4M],[A4M,A68,A2p],[A2p,A4L],[A4L,A4K],[A4K,B5j]]
def F9T:=B3 O4 [[A2N,A2R,A2M],[A2M,A3m],[A3m,A2L]]
def E9k:=B3 O4 [[A6q],[A6r],[A6q,A6r,A2P],[A2P,A3p],[A6t],[A6u],[A6t,A6u,A3r],[A6s,A3q],[A6v],[A3q,A6v,A2Q],[A3p,A2Q,A2O],[A2O,A3o],[A3o,A3n],[A3n,A2N]]
def F9S:=B3 O4 [[A1L,A3t],[A3t,A3s],[A3s,A2R]]
def B3Y:=B3 O4 [[A6x],[A6y],[A6x,A6y,A3w],[A6z],[A6z,A3x],[A6w,A3x,A2T],[A2T,A3v],[A3v,A3u],[A2U,A61],[A60,A3y],[A3u,A3y,A2S],[A2S,A1L]]
def F9U:=B3 O4 [[A62],[A62,A2U]]
def Kp (env env':Env):Prop:=env'.get 3=env.get 3∧env'.get 4=env.get 4∧env'.get 5=env.get 5∧env'.get 6=env.get 6∧env'.get 16=env.get 16
theorem F7g {F u : A3} {env : Env} {y : AV} {l : List Ci} {a : Actn} {wt wp : AV} {p5 : Nat} {Q : Ex × St → Prop} (ry : ∀ X : AV, Row C3 (F ++ ⟨X, 0, .own⟩ :: u) y (l.map eCi)) (c5 : F[p5]? = some ⟨C5 a wt wp, 0, .own⟩) (tc : A4 wt .cell = true ∧ A4 wp .cell = true)
  (e5:env.get 5=.ptr p5 0 [] D5) (e16:env.get 16=.ptr F.length 0 [] C3) (e17:env.get 17=y) (hQ:∀ env',Kp env env'→Q (.nrm,⟨env',F++⟨eCi (A0Q l a.e),0,.own⟩::u⟩)) :
  wC Tryz.prog O4 A2N Q ⟨env,F++⟨eCi ci0,0,.own⟩::u⟩:=by
 have b5:=fun v=>L6 (A9 c5) v
 have ly:=(ry (.nilptr)).len
 have by_ := (ry (.nilptr)).bound
 rw [List.length_map] at ly by_
 have ff:=aI3 e5 e16 e17
 refine A42 (x:=?_)
 clear ff
 refine G0 l.length (fun i st=>∃ env',st=⟨env',F++⟨eCi (A0Q (l.take i) a.e),0,.own⟩::u⟩∧Kp env env'∧env'.get 17=y∧env'.get 18=nat i) ?_ ?_ ⟨_,rfl,⟨by simp,by simp,by simp,by simp,by simp⟩,by simp [e17],by simp⟩
 ·rintro i st hi ⟨env',rfl,⟨k3,k4,k5,k6,k16⟩,e17',e18⟩
  have k5':=k5.trans e5
  have k16':=k16.trans e16
  obtain ⟨pb,pv,pp,bb,p1,p2,p3,p4⟩:=(ry (eCi (A0Q (l.take i) a.e))).idxE hi
  have p2':=p2 []
  simp only [List.append_nil] at p2'
  have hk:=F4Z hi a.e
  by_cases hq:l[i].e=a.e
  ·rw [if_pos hq] at hk
   have ff:=N9 ly by_ hi p1 p2' p3 p4 b5 k5' k16' e17' e18 tc hq
   refine A42 (x:=?_)
   clear ff
   exact .inl ⟨by simp,_,by rw [hk],⟨by simp [k3],by simp [k4],by simp [k5],by simp [k6],by simp [k16]⟩,by simp [e17'],by simp⟩
  ·rw [if_neg hq] at hk
   have ff:=N9 ly by_ hi p1 p2' p3 p4 b5 k5' k16' e17' e18 tc hq
   refine A42 (x:=?_)
   clear ff
   exact .inl ⟨by simp,_,by rw [hk],⟨by simp [k3],by simp [k4],by simp [k5],by simp [k6],by simp [k16]⟩,by simp [e17'],by simp⟩
 ·rintro st ⟨env',rfl,⟨k3,k4,k5,k6,k16⟩,e17',e18⟩
  rw [List.take_length]
  have ff:=aI4 ly by_ e17' e18
  refine A42 (x:=?_)
  clear ff
  refine ⟨by simp,?_⟩
  have ff:=k3
  refine F5p (x:=?_)
  clear ff
  exact hQ _ ⟨by simp [k3],by simp [k4],by simp [k5],by simp [k6],by simp [k16]⟩
abbrev A0y (s:Stt) (e:Pt):Stt:={ s with seats:=del fS s.seats e,invites:=del fI s.invites e,asks:=del fA s.asks e }
theorem StR.cellw {G B:A3} {c c':Blk} {z:Stt} {ut up us ui ua ub:AV} (rz:StR (G++c::B) z ut up us ui ua ub) (oz:∀ y∈[ut,up,us,ui,ua,ub],∀ b,rb y=some b→b≠G.length):StR (G++c'::B) z ut up us ui ua ub:=rz.other fun y hy b hb=>by
 have:=oz y hy b hb
 have e:∀ c0:Blk,G++c0::B=G++([]++c0::B):=fun c0=>by simp
 rw [e,e]
 exact A2A (A:=[]) (by simpa using this)
theorem F8h {G : A3} {env : Env} {s : Stt} {vt vp vs vi va vb : AV} {a : Actn} {wt wp : AV} {p3 p5 : Nat} {Q : Ex × St → Prop} (ra : StR G s vt vp vs vi va vb) (hs : H6 s) (c3 : G[p3]? = some ⟨eSt s vt vp vs vi va vb, 0, .own⟩) (c5 : G[p5]? = some ⟨C5 a wt wp, 0, .own⟩) (tc : A4 wt .cell = true ∧ A4 wp .cell = true)
  (e3:env.get 3=.ptr p3 0 [] A6) (e5:env.get 5=.ptr p5 0 [] D5)
  (hQ:∀ env' t1 t2 x1 x2 x3 x4,Kp env env'→env'.get 19=.ptr (G.length+t1.length) 0 [] A6→StR (G++(t1++⟨eSt s vt vp x1 x2 x3 x4,0,.own⟩::t2)) (A0y s a.e) vt vp x1 x2 x3 x4 →
   (∀ y∈[vt,vp,x1,x2,x3,x4],∀ b,rb y=some b→(∃ v∈[vt,vp,vs,vi,va,vb],rb v=some b)∨(G.length≤b∧b≠G.length+t1.length))→wC Tryz.prog O4 A1L Q ⟨env',G++(t1++⟨eSt s vt vp x1 x2 x3 x4,0,.own⟩::t2)⟩) :
  wC Tryz.prog O4 A2R Q ⟨env,G⟩:=by
 have ta:=ra.cells
 have b30:=A9 c3
 have b50:=A9 c5
 have b3:=fun v=>L6 (A9 c3) v
 have b5:=fun v=>L6 (A9 c5) v
 have lt:=ra.rb_lt
 have ff:=aI6 e3 e5 b30 b50 ta tc
 refine A43 (x:=?_)
 clear ff
 refine SpecQ.step (A1W (e:=a.e) ra hs) ?_
 rintro ⟨_,_⟩ ⟨x1,x2,x3,x4,t1,e,r1,o1,o2,o3,o4⟩
 cases e
 have t1c:=r1.cells
 have ff:=aI6 e3 e5 b3 b5 t1c tc
 refine A43 (x:=?_)
 clear ff
 have W1:∀ {v x:AV},v∈[vt,vp,vs,vi,va,vb]→Lo G.length v x→(∀ b,rb x=some b→b < (G++t1).length)→∀ b,rb x=some b→(∃ v∈[vt,vp,vs,vi,va,vb],rb v=some b)∨(G.length≤b∧b≠G.length+t1.length):=fun hv ho hl b hb=>by
  have:=hl b hb
  rw [List.length_append] at this
  rcases ho b hb with h|h
  ·exact .inl ⟨_,hv,h⟩
  ·exact .inr ⟨h,by omega⟩
 have W2:∀ {v x:AV} {n:Nat},(∀ b,rb v=some b→(∃ v∈[vt,vp,vs,vi,va,vb],rb v=some b)∨(G.length≤b∧b≠G.length+t1.length))→Lo n v x→G.length+t1.length < n→∀ b,rb x=some b→(∃ v∈[vt,vp,vs,vi,va,vb],rb v=some b)∨(G.length≤b∧b≠G.length+t1.length):=fun hv ho hn b hb=>by
  rcases ho b hb with h|h
  ·exact hv b h
  ·exact .inr ⟨by omega,by omega⟩
 have W3:∀ {l:List AV},(∀ y∈l,∀ b,rb y=some b→(∃ v∈[vt,vp,vs,vi,va,vb],rb v=some b)∨(G.length≤b∧b≠G.length+t1.length))→∀ y∈l,∀ b,rb y=some b→b≠(G++t1).length:=fun h y hy b hb=>by
  rw [List.length_append]
  rcases h y hy b hb with ⟨v,hv,h1⟩|⟨_,h1⟩
  ·have:=lt v hv b h1
   omega
  ·exact h1
 have l1:=r1.rb_lt
 have wt_ := W1 (v:=vt) (x:=vt) (by simp) (Lo.self _ _) (l1 vt (by simp))
 have wp_ := W1 (v:=vp) (x:=vp) (by simp) (Lo.self _ _) (l1 vp (by simp))
 have w1:=W1 (by simp) o1 (l1 x1 (by simp))
 have w2:=W1 (by simp) o2 (l1 x2 (by simp))
 have w3:=W1 (by simp) o3 (l1 x3 (by simp))
 have w4:=W1 (by simp) o4 (l1 x4 (by simp))
 have hs1:H6 { s with seats:=del fS s.seats a.e }:=⟨Nat.le_trans (t9 _ _ _) hs.1,hs.2⟩
 refine SpecQ.step (A4I (e:=a.e) (s:={ s with seats:=del fS s.seats a.e }) (by simpa using r1.app _) hs1) ?_
 rintro ⟨_,_⟩ ⟨y1,y2,y3,y4,t2,e,r2,q1,q2,q3,q4⟩
 cases e
 have t2c:=r2.cells
 have u1:=W2 w1 q1 (by simp)
 have u2:=W2 w2 q2 (by simp)
 have u3:=W2 w3 q3 (by simp)
 have u4:=W2 w4 q4 (by simp)
 have hw:∀ y∈[vt,vp,y1,y2,y3,y4],∀ b,rb y=some b→(∃ v∈[vt,vp,vs,vi,va,vb],rb v=some b)∨(G.length≤b∧b≠G.length+t1.length):=by
  intro y hy
  simp only [List.mem_cons,List.not_mem_nil,or_false] at hy
  rcases hy with rfl|rfl|rfl|rfl|rfl|rfl <;> assumption
 have r2':StR ((G++t1)++⟨eSt s vt vp y1 y2 y3 y4,0,.own⟩::t2) _ vt vp y1 y2 y3 y4:=StR.cellw (c:=⟨eSt s vt vp x1 x2 x3 x4,0,.own⟩) (by simpa using r2) (W3 hw)
 have b5':∀ v,blkAt (G++(t1++v)) p5 0=some ⟨C5 a wt wp,0,.own⟩:=fun v=>b5 _
 have ff:=aI6 e3 e5 b3 b5 t2c tc
 refine A43 (x:=?_)
 clear ff
 have hs2:H6 { s with seats:=del fS s.seats a.e,invites:=del fI s.invites a.e }:=⟨hs1.1,Nat.le_trans (t9 _ _ _) hs.2.1,hs.2.2⟩
 refine SpecQ.step (A4J (e:=a.e) (s:={ s with seats:=del fS s.seats a.e,invites:=del fI s.invites a.e }) (by simpa using r2') hs2) ?_
 rintro ⟨_,_⟩ ⟨z1,z2,z3,z4,t3,e,r3,f1,f2,f3,f4⟩
 cases e
 have t3c:=r3.cells
 have v1:=W2 u1 f1 (by simp)
 have v2:=W2 u2 f2 (by simp)
 have v3:=W2 u3 f3 (by simp)
 have v4:=W2 u4 f4 (by simp)
 have hz:∀ y∈[vt,vp,z1,z2,z3,z4],∀ b,rb y=some b→(∃ v∈[vt,vp,vs,vi,va,vb],rb v=some b)∨(G.length≤b∧b≠G.length+t1.length):=by
  intro y hy
  simp only [List.mem_cons,List.not_mem_nil,or_false] at hy
  rcases hy with rfl|rfl|rfl|rfl|rfl|rfl <;> assumption
 have r3':StR ((G++t1)++⟨eSt s vt vp z1 z2 z3 z4,0,.own⟩::(t2++t3)) (A0y s a.e) vt vp z1 z2 z3 z4:=StR.cellw (c:=⟨eSt s vt vp y1 y2 y3 y4,0,.own⟩) (by simpa using r3) (W3 hz)
 have ff:=aI6 e3 e5 b3 b5 t3c tc
 refine A43 (x:=?_)
 clear ff
 exact hQ _ t1 (t2++t3) z1 z2 z3 z4 ⟨by simp,by simp,by simp,by simp,by simp⟩ (by simp) (by simpa using r3') hz
theorem F8i {A B : A3} {env : Env} {s : Stt} {vt vp vs vi va vb x1 x2 x3 x4 : AV} {b : Pt} {a : Actn} {wt wp : AV} {cw : Ci} {p3 p4 p5 p16 : Nat} {Q : Ex × St → Prop} (ra : StR A s vt vp vs vi va vb) (hs : H6 s)
  (rz:StR (A++⟨eSt s vt vp x1 x2 x3 x4,0,.own⟩::B) (A0y s a.e) vt vp x1 x2 x3 x4) (c3:A[p3]?=some ⟨eSt s vt vp vs vi va vb,0,.own⟩) (c4:A[p4]?=some ⟨pt b,0,.own⟩) (c5:A[p5]?=some ⟨C5 a wt wp,0,.own⟩) (c16:A[p16]?=some ⟨eCi cw,0,.own⟩) (tc:A4 wt .cell=true∧A4 wp .cell=true)
  (e3:env.get 3=.ptr p3 0 [] A6) (e4:env.get 4=.ptr p4 0 [] (.arr 32 (.int .u8))) (e5:env.get 5=.ptr p5 0 [] D5) (e16:env.get 16=.ptr p16 0 [] C3) (e19:env.get 19=.ptr A.length 0 [] A6) (hb:A8 fS s.seats b=true) (hw:cw.e=a.e) (ox:∀ y∈[vt,vp,x1,x2,x3,x4],∀ b,rb y=some b→b≠A.length)
  (hQ:∀ env' z4 u,env'.get 6=env.get 6→env'.get 19=.ptr A.length 0 [] A6→StR (A++⟨eSt s vt vp x1 x2 x3 z4,0,.own⟩::(B++u)) { A0y s a.e with bans:=ins fB s.bans ⟨cw,I1 s b⟩ } vt vp x1 x2 x3 z4→(∀ b,rb z4=some b→A.length < b) →
   wC Tryz.prog O4 A2U Q ⟨env',A++⟨eSt s vt vp x1 x2 x3 z4,0,.own⟩::(B++u)⟩) :
  wC Tryz.prog O4 A1L Q ⟨env,A++⟨eSt s vt vp x1 x2 x3 x4,0,.own⟩::B⟩:=by
 have ta:=ra.cells
 have tz:=rz.cells
 have b3:=fun v=>L6 (A9 c3) v
 have b4:=fun v=>L6 (A9 c4) v
 have b5:=fun v=>L6 (A9 c5) v
 have b16:=fun v=>L6 (A9 c16) v
 have hrow:Row B4 (A++⟨eSt s vt vp x1 x2 x3 x4,0,.own⟩::B) x4 (s.bans.map B2):=rz.fb
 have lrow:=hrow.len
 have brow:=hrow.bound
 rw [List.length_map] at lrow brow
 have ff:=e19
 refine A44 (x:=?_)
 clear ff
 refine Y9 (fun r=>∃ env',r=(.exit 12,⟨env',A++⟨eSt s vt vp x1 x2 x3 x4,0,.own⟩::B⟩)∧Kp env env'∧env'.get 19=.ptr A.length 0 [] A6∧env'.get 20=nat (low fB s.bans a.e)) ?_ ?_
 ·refine G0 s.bans.length (fun i st => ∃ env', st = ⟨env', A ++ ⟨eSt s vt vp x1 x2 x3 x4, 0, .own⟩ :: B⟩ ∧ Kp env env' ∧ env'.get 19 = .ptr A.length 0 [] A6 ∧ env'.get 20 = nat i ∧ ∀ j (hj : j < s.bans.length), j < i → ltP (fB s.bans[j]) a.e = true) ?_ ?_
   ⟨_,rfl,⟨by simp,by simp,by simp,by simp,by simp⟩,by simp [e19],by simp,fun j _ hj=>absurd hj (by omega)⟩
  ·rintro i st hi ⟨env',rfl,⟨k3,k4,k5,k6,k16⟩,e19',e20,hlt⟩
   have k5':=k5.trans e5
   obtain ⟨pb,pv,pp,bb,p1,p2,p3',p4'⟩:=hrow.idxE hi
   have p2':=p2 []
   simp only [List.append_nil] at p2'
   cases hq:ltP s.bans[i].who.e a.e
   ·have hlow:low fB s.bans a.e=i:=X8 fB (by omega) hlt (fun _ => hq)
    have ff:=N9 tz tc lrow brow hi p1 p2' p3' p4' k5' e19' e20 b5 hq
    refine D8a (x:=?_)
    clear ff
    exact .inr ⟨by simp,_,rfl,⟨by simp [k3],by simp [k4],by simp [k5],by simp [k6],by simp [k16]⟩,by simp [e19'],by simp [e20,hlow]⟩
   ·have ff:=N9 tz tc lrow brow hi p1 p2' p3' p4' k5' e19' e20 b5 hq
    refine D8a (x:=?_)
    clear ff
    refine .inl ⟨by simp,_,rfl,⟨by simp [k3],by simp [k4],by simp [k5],by simp [k6],by simp [k16]⟩,by simp [e19'],by simp,fun j hj hji=>?_⟩
    by_cases hq':j=i
    ·subst hq';exact hq
    ·exact hlt j hj (by omega)
  ·rintro st ⟨env',rfl,⟨k3,k4,k5,k6,k16⟩,e19',e20,hlt⟩
   have k5':=k5.trans e5
   have hlow:low fB s.bans a.e=s.bans.length:=X8 fB (Nat.le_refl _) hlt (fun hi=>absurd hi (by omega))
   have ff:=aI8 tz tc lrow brow k5' e19' e20 b5
   refine F5q (x:=?_)
   clear ff
   exact ⟨by simp,_,rfl,⟨by simp [k3],by simp [k4],by simp [k5],by simp [k6],by simp [k16]⟩,by simp [e19'],by simp [e20,hlow]⟩
 rintro r ⟨env',rfl,⟨k3,k4,k5,k6,k16⟩,e19',e20⟩
 have k3':=k3.trans e3
 have k4':=k4.trans e4
 have k16':=k16.trans e16
 have hn:=A0o fB s.bans a.e
 generalize hN:low fB s.bans a.e=n at e20 hn
 obtain ⟨y1,f1,r1,_⟩:=hrow.pre (n:=n) (by simpa using hn)
 obtain ⟨y2,f2,r2,_⟩:=hrow.suf (n:=n) (by simpa using hn)
 rw [A40] at r1
 rw [A41] at r2
 obtain ⟨im,him,m1,m2,m3⟩:∃ im,∃ him:im < s.seats.length,U1 fS s.seats b=im∧fnd fS s.seats b=some s.seats[im]∧fS s.seats[im]=b:=by
  rcases idxI_spec fS s.seats b with q|⟨m1,m2⟩
  ·exact q
  ·rw [A8,m2] at hb;cases hb
 obtain ⟨qb,qv,qp,cc,q1,q2,q3,q4⟩:=ra.fs.idxE him
 have hme:I1 s b=s.seats[im].who:=by simp [I1,m2]
 have hl:s.bans.length≤1000:=hs.2.2.2
 have ff:=aI7 tz f1 k3' k4' k16' e19' e20
 refine A44 (x:=?_)
 clear ff
 have hF:∀ (c:Blk) (u w:A3),A++c::(B++(u++w))=(A++c::B)++(u++w):=fun c u w=>by simp
 have hl1:n+1≤1000000:=by omega
 refine (congrArg (fun g=>R4 B4 128 _ _ y1 g _) (show _ = (A++⟨eSt s vt vp x1 x2 x3 x4,0,.own⟩::B)++([⟨.node [],0,.own⟩]++[]) by simp)).mpr ?_
 refine A0e (n:=A.length+(B.length+1)) (es:=[]) (new:=(s.bans.take n).map B2) j0 (fun _ => rfl) (by simp) RnU.one (by have:=(r1.app [⟨.node [],0,.own⟩]).1;simpa using this) (by simp;omega) (by omega) fun z1 u1 g1 _ _ _ => ?_
 have cz1:=g1.cell
 simp only [List.nil_append,List.append_assoc,List.cons_append] at g1 ⊢
 have ff:=z9 tz ta f1 k3' k4' k16' e19' e20 b3 b4 b16 m1 @H5 q1 q2 q3 q4 cz1
 refine F5r (x:=?_)
 clear ff
 rw [hF]
 refine A0e (n:=A.length+(B.length+1)) (es:=(s.bans.take n).map B2) (new:=[B2 ⟨cw,s.seats[im].who⟩]) j0 (fun _ => rfl) (by simp) g1 (by rw [M6];simp) (by simp;omega) (by omega) fun z2 u2 g2 _ _ _ => ?_
 have cz2:=g2.cell
 simp only [List.nil_append,List.append_assoc,List.cons_append] at g2 ⊢
 have ff:=aI5 tz f2 e19' e20 cz2
 refine A44 (x:=?_)
 clear ff
 refine (congrArg (fun g=>R4 B4 128 _ _ y2 g _) (show _ = (A++⟨eSt s vt vp x1 x2 x3 x4,0,.own⟩::B)++(u2++[]) by simp)).mpr ?_
 refine A0e (n:=A.length+(B.length+1)) (es:=(s.bans.take n).map B2++[B2 ⟨cw,s.seats[im].who⟩]) (new:=(s.bans.drop n).map B2) j0 (fun _ => rfl) (by simp) g2 (by have:=(r2.app u2).1;simpa using this) (by simp;omega) (by omega) fun z3 u3 g3 _ _ _ => ?_
 have cz3:=g3.cell
 simp only [List.nil_append,List.append_assoc,List.cons_append] at g3 ⊢
 have ff:=aI4 tz e19' e20 cz3
 refine A44 (x:=?_)
 clear ff
 have hfin:Row B4 (A++⟨eSt s vt vp x1 x2 x3 z3,0,.own⟩::(B++u3)) z3 ((ins fB s.bans ⟨cw,I1 s b⟩).map B2):=by
  have:=g3.row (F:=A++⟨eSt s vt vp x1 x2 x3 z3,0,.own⟩::B) (l:=[]) j0 (by simp)
  have hk:fB ⟨cw,s.seats[im].who⟩=a.e:=hw
  rw [hme]
  simpa [ins,hk,hN] using this
 have rz':=(StR.cellw (c':=⟨eSt s vt vp x1 x2 x3 z3,0,.own⟩) rz ox).app u3
 simp only [List.append_assoc,List.cons_append] at rz'
 exact hQ _ z3 u3 (by simp [k6]) (by simp [e19']) ⟨rz'.ft,rz'.fp,rz'.fs,rz'.fi,rz'.fa,hfin⟩ fun b hb=>by have:=(g3.rb_ge b hb).1;omega
theorem D5r {h : A3} {env : Env} {s : Stt} {vt vp vs vi va vb : AV} {b : Pt} {a : Actn} {wt wp : AV} {Z1 Z2 : AV} {c : Ci} (ra : StR h s vt vp vs vi va vb) (hs : H6 s) (rc : ActR h a wt wp) (hu : A4X s) (hw : P0 s a.e = some c) (hb : A8 fS s.seats b = true)
  (e3:env.get 3=.ptr h.length 0 [] A6) (e4:env.get 4=.ptr (h.length+1) 0 [] (.arr 32 (.int .u8))) (e5:env.get 5=.ptr (h.length+2) 0 [] D5) (e6:env.get 6=.ptr (h.length+3) 0 [] A6) {Q:Ex × St→Prop}
  (hQ:∀ st,K4 (fun s=>(bnd (D6 A6 (s.env.get 6) s.heap) fun v=>bnd (bnd (some (s.env.get 7)) fun v=>bnd (some []) fun vs=>some (v::vs)) fun vs=>some (v::vs))) (M9 h [vt,vp,vs,vi,va,vb,wt,wp] (.ok { A0y s a.e with bans:=ins fB s.bans ⟨c,I1 s b⟩ })) (.ret,st)→Q (.ret,st)) :
  wC Tryz.prog O4 A2L Q ⟨env,h++[⟨eSt s vt vp vs vi va vb,0,.own⟩,⟨pt b,0,.own⟩,⟨C5 a wt wp,0,.own⟩,⟨Z1,0,.own⟩,⟨Z2,0,.own⟩]⟩:=by
 have ta:=ra.cells
 have tc:=rc.cells
 have ff:=aI e3 ta
 refine D8b (x:=?_)
 clear ff
 refine SpecQ.step (c25 (ra.app _) hs) ?_
 rintro ⟨y,_⟩ ⟨_,u,e,ru⟩
 cases e
 have ff:=e3
 refine D8b (x:=?_)
 clear ff
 obtain ⟨F,hF⟩:∃ F,F=h++[⟨eSt s vt vp vs vi va vb,0,.own⟩,⟨pt b,0,.own⟩,⟨C5 a wt wp,0,.own⟩,⟨Z1,0,.own⟩,⟨Z2,0,.own⟩]:=⟨_,rfl⟩
 have hFl:F.length=h.length+5:=by rw [hF];simp
 have c3:F[h.length]?=some ⟨eSt s vt vp vs vi va vb,0,.own⟩:=by rw [hF];simp
 have c4:F[h.length+1]?=some ⟨pt b,0,.own⟩:=by rw [hF];simp
 have c5:F[h.length+2]?=some ⟨C5 a wt wp,0,.own⟩:=by rw [hF];simp
 have rF:StR F s vt vp vs vi va vb:=by rw [hF];exact ra.app _
 have ry:∀ X:AV,Row C3 (F++⟨X,0,.own⟩::(⟨eSt s vt vp vs vi va vb,0,.own⟩::u)) y ((M4 s).map eCi):=fun X=>by
  have:=ru.row (F:=F++[⟨X,0,.own⟩,⟨eSt s vt vp vs vi va vb,0,.own⟩]) (l:=[]) A1q (by simp [hFl])
  simpa using this
 have hG:∀ X:AV,h++[⟨eSt s vt vp vs vi va vb,0,.own⟩,⟨pt b,0,.own⟩,⟨C5 a wt wp,0,.own⟩,⟨Z1,0,.own⟩,⟨Z2,0,.own⟩,⟨X,0,.own⟩]++⟨eSt s vt vp vs vi va vb,0,.own⟩::u=F++⟨X,0,.own⟩::(⟨eSt s vt vp vs vi va vb,0,.own⟩::u):=fun X=>by simp [hF]
 rw [hG]
 refine F7g ry c5 tc (by simp [e5]) (by simp [hFl]) (by simp) fun env1 ⟨k3,k4,k5,k6,k16⟩=>?_
 have k3':env1.get 3=.ptr h.length 0 [] A6:=by rw [k3];simp [e3]
 have k4':env1.get 4=.ptr (h.length+1) 0 [] (.arr 32 (.int .u8)):=by rw [k4];simp [e4]
 have k5':env1.get 5=.ptr (h.length+2) 0 [] D5:=by rw [k5];simp [e5]
 have k6':env1.get 6=.ptr (h.length+3) 0 [] A6:=by rw [k6];simp [e6]
 have k16':env1.get 16=.ptr F.length 0 [] C3:=by rw [k16];simp [hFl]
 rw [F7e hu hw]
 have ff:=k3
 refine F5s (x:=?_)
 clear ff
 obtain ⟨G,hGd⟩:∃ G,G=F++⟨eCi c,0,.own⟩::(⟨eSt s vt vp vs vi va vb,0,.own⟩::u):=⟨_,rfl⟩
 have g3:G[h.length]?=some ⟨eSt s vt vp vs vi va vb,0,.own⟩:=by rw [hGd];exact U9 c3 _
 have g4:G[h.length+1]?=some ⟨pt b,0,.own⟩:=by rw [hGd];exact U9 c4 _
 have g5:G[h.length+2]?=some ⟨C5 a wt wp,0,.own⟩:=by rw [hGd];exact U9 c5 _
 have g16:G[F.length]?=some ⟨eCi c,0,.own⟩:=by rw [hGd];simp
 have rG:StR G s vt vp vs vi va vb:=by rw [hGd];exact rF.app _
 rw [←hGd]
 refine F8h rG hs g3 g5 tc k3' k5' fun env2 t1 t2 x1 x2 x3 x4 ⟨j3,j4,j5,j6,j16⟩ e19 r2 ow=>?_
 have lt:=ra.rb_lt
 have hGl:h.length+5 < G.length:=by rw [hGd];simp [hFl]
 have hGA:∀ (X:AV) (l:A3),G++(t1++⟨X,0,.own⟩::l)=(G++t1)++⟨X,0,.own⟩::l:=fun X l=>by simp
 rw [hGA] at r2 ⊢
 refine F8i (cw:=c) (b:=b) (rG.app t1) hs r2 (U9 g3 _) (U9 g4 _) (U9 g5 _) (U9 g16 _) tc (j3.trans k3') (j4.trans k4') (j5.trans k5') (j16.trans k16') (by rw [e19];simp) hb (D8Z hw).2 (fun y hy b hb=>?_) fun env3 z4 u' j6' e19' r3 hz=>?_
 ·rw [List.length_append]
  rcases ow y hy b hb with ⟨v,hv,h1⟩|⟨_,h1⟩
  ·have:=lt v hv b h1
   omega
  ·exact h1
 have e6':=(j6'.trans j6).trans k6'
 have t3:=r3.cells
 obtain ⟨n,hn⟩:∃ n,n=(G++t1).length:=⟨_,rfl⟩
 rw [←hn] at e19'
 have b19:blkAt ((G++t1)++⟨eSt s vt vp x1 x2 x3 z4,0,.own⟩::(t2++u')) n 0=some ⟨eSt s vt vp x1 x2 x3 z4,0,.own⟩:=by
  rw [hn]
  exact A9 (by simp)
 have hz':∀ b,rb z4=some b→h.length+3 < b:=fun b hb=>by
  have:=hz b hb
  rw [List.length_append] at this
  omega
 have ow':∀ y∈[vt,vp,x1,x2,x3,x4],∀ b,rb y=some b→(∃ v∈[vt,vp,vs,vi,va,vb],rb v=some b)∨h.length+3 < b:=fun y hy b hb=>by
  rcases ow y hy b hb with h1|⟨h1,_⟩
  ·exact .inl h1
  ·exact .inr (by omega)
 clear hn
 subst hGd
 subst hF
 simp only [List.append_assoc,List.cons_append,List.nil_append] at r3 b19 ⊢
 have ff:=aI4 e6' e19' t3 b19
 refine D8c (x:=?_)
 clear ff
 apply hQ
 have ff:=aI4 e6' e19' t3 b19
 refine D8c (x:=?_)
 clear ff
 refine N5 (A:=[_,_,_]) (N8 ra rc) r3 fun y' hy b' hb=>?_
 have sub:∀ v∈[vt,vp,vs,vi,va,vb],v∈[vt,vp,vs,vi,va,vb,wt,wp]:=fun v hv=>by
  simp only [List.mem_cons,List.not_mem_nil,or_false] at hv ⊢
  rcases hv with h|h|h|h|h|h <;> simp [h]
 have key:y'∈[vt,vp,x1,x2,x3,x4]→(∃ v∈[vt,vp,vs,vi,va,vb,wt,wp],rb v=some b')∨h.length+3 < b':=fun hy=>by
  rcases ow' y' hy b' hb with ⟨v,hv,h1⟩|h1
  ·exact .inl ⟨v,sub v hv,h1⟩
  ·exact .inr h1
 simp only [List.mem_cons,List.not_mem_nil,or_false] at hy
 rcases hy with rfl|rfl|rfl|rfl|rfl|rfl
 ·exact key (by simp)
 ·exact key (by simp)
 ·exact key (by simp)
 ·exact key (by simp)
 ·exact key (by simp)
 ·exact .inr (hz' _ hb)
theorem F8j {h : A3} {s : Stt} {vt vp vs vi va vb : AV} {b : Pt} {a : Actn} {wt wp : AV} (ra : StR h s vt vp vs vi va vb) (hs : H6 s) (rc : ActR h a wt wp) (w : a.kind = 14#8) (hu : A4X s) :
  SpecQ Tryz.prog 35 [eSt s vt vp vs vi va vb,pt b,C5 a wt wp] h (M9 h [vt,vp,vs,vi,va,vb,wt,wp] (madeP s b a)):=by
 have ta:=ra.cells
 have tc:=rc.cells
 have l4:=ra.fb.len
 rw [List.length_map] at l4
 refine q35 fun env g0 g1 g2=>?_
 have bs:=aI7 g0 g1 g2 ta tc l4 w
 have ff:=bs
 refine R7 (x:=?_)
 clear ff
 by_cases h1:D0 s b=2#8
 rotate_left
 ·have hm:madeP s b a=.error 191:=by simp [madeP,w,h1]
  rw [hm]
  have ff:=aI bs h1
  refine R7 (x:=?_)
  clear ff
  exact ⟨_,rfl⟩
 have ff:=aI bs h1
 refine R7 (x:=?_)
 clear ff
 by_cases h2:a.e=b
 ·have hm:madeP s b a=.error 195:=by simp [madeP,w,h1,h2]
  rw [hm]
  have ff:=aI3 bs h1 h2
  refine R7 (x:=?_)
  clear ff
  exact ⟨_,rfl⟩
 have ff:=aI3 bs h1 h2
 refine R7 (x:=?_)
 clear ff
 cases h3:A8 fB s.bans a.e
 rotate_left
 ·have hm:madeP s b a=.error 8:=by simp [madeP,w,h1,h2,h3]
  rw [hm]
  have ff:=aI4 bs h1 h2 h3
  refine R7 (x:=?_)
  clear ff
  exact ⟨_,rfl⟩
 have ff:=aI4 bs h1 h2 h3
 refine R7 (x:=?_)
 clear ff
 have hb:A8 fS s.seats b=true:=by
  cases q:fnd fS s.seats b with
  | none=>rw [show D0 s b=0#8 by simp [D0,q]] at h1;exact absurd h1 (by decide)
  | some x=>simp [A8,q]
 cases hS:A8 fS s.seats a.e
 rotate_left
 ·skip
  obtain ⟨c,hw⟩:=G0Y hS
  have ff:=aI5 bs h1 h2 h3 hS
  refine R7 (x:=?_)
  clear ff
  by_cases h4:40≤s.bans.length
  ·have hm:madeP s b a=.error 9:=by simp [madeP,w,h1,h2,h3,hw,h4]
   rw [hm]
   have ff:=aI6 bs h1 h2 h3 hS h4
   refine R7 (x:=?_)
   clear ff
   exact ⟨_,rfl⟩
  have ff:=aI6 bs h1 h2 h3 hS h4
  refine R7 (x:=?_)
  clear ff
  have hm:madeP s b a=.ok { A0y s a.e with bans:=ins fB s.bans ⟨c,I1 s b⟩ }:=by simp [madeP,w,h1,h2,h3,hw,h4]
  rw [hm]
  exact D5r ra hs rc hu hw hb (by simp) (by simp) (by simp) (by simp) fun st hr=>by rw [I2,I3];exact hr
 cases hI:A8 fI s.invites a.e
 rotate_left
 ·skip
  obtain ⟨c,hw⟩:=G0Z hS hI
  have ff:=aI6 bs h1 h2 h3 hS hI
  refine R7 (x:=?_)
  clear ff
  by_cases h4:40≤s.bans.length
  ·have hm:madeP s b a=.error 9:=by simp [madeP,w,h1,h2,h3,hw,h4]
   rw [hm]
   have ff:=aI7 bs h1 h2 h3 hS hI h4
   refine R7 (x:=?_)
   clear ff
   exact ⟨_,rfl⟩
  have ff:=aI7 bs h1 h2 h3 hS hI h4
  refine R7 (x:=?_)
  clear ff
  have hm:madeP s b a=.ok { A0y s a.e with bans:=ins fB s.bans ⟨c,I1 s b⟩ }:=by simp [madeP,w,h1,h2,h3,hw,h4]
  rw [hm]
  exact D5r ra hs rc hu hw hb (by simp) (by simp) (by simp) (by simp) fun st hr=>by rw [I2,I3];exact hr
 cases hA:A8 fA s.asks a.e
 ·have hm:madeP s b a=.error 7:=by simp [madeP,w,h1,h2,h3,F7d hS hI hA]
  rw [hm]
  have ff:=aI7 bs h1 h2 h3 hS hI hA
  refine R7 (x:=?_)
  clear ff
  exact ⟨_,rfl⟩
 obtain ⟨c,hw⟩:=G0a hS hI hA
 have ff:=aI7 bs h1 h2 h3 hS hI hA
 refine R7 (x:=?_)
 clear ff
 by_cases h4:40≤s.bans.length
 ·have hm:madeP s b a=.error 9:=by simp [madeP,w,h1,h2,h3,hw,h4]
  rw [hm]
  have ff:=aI8 bs h1 h2 h3 hS hI hA h4
  refine R7 (x:=?_)
  clear ff
  exact ⟨_,rfl⟩
 have ff:=aI8 bs h1 h2 h3 hS hI hA h4
 refine R7 (x:=?_)
 clear ff
 have hm:madeP s b a=.ok { A0y s a.e with bans:=ins fB s.bans ⟨c,I1 s b⟩ }:=by simp [madeP,w,h1,h2,h3,hw,h4]
 rw [hm]
 exact D5r ra hs rc hu hw hb (by simp) (by simp) (by simp) (by simp) fun st hr=>by rw [I2,I3];exact hr
end Go.Vab

namespace Go.Vab
open Go Go.Proofs
attribute [local irreducible] E9 Evs gW D9 E8 G5
theorem c35:E9j:=fun {h s vt vp vs vi va vb b a wt wp} ra hs rc hu=>by
 by_cases k1:a.kind=1#8
 ·exact F9J ra hs rc k1
 by_cases k2:a.kind=2#8
 ·exact F9K ra hs rc k2
 by_cases k3:a.kind=3#8
 ·exact F9L ra hs rc k3
 by_cases k5:a.kind=5#8
 ·exact F9M ra hs rc k5
 by_cases k12:a.kind=12#8
 ·exact F8e ra hs rc k12
 by_cases k13:a.kind=13#8
 ·exact F8c ra hs rc k13
 by_cases k14:a.kind=14#8
 ·exact F8j ra hs rc k14 hu
 by_cases k15:a.kind=15#8
 ·exact F8d ra hs rc k15
 exact F7a ra hs rc ⟨k1,k2,k3,k5,k12,k13,k14,k15⟩
theorem c14 {h : A3} {s : Stt} {vt vp vs vi va vb : AV} {b : Pt} {a : Actn} {wt wp : AV} (ra : StR h s vt vp vs vi va vb) (hs : H6 s) (rc : ActR h a wt wp) :
  SpecQ Tryz.prog 14 [eSt s vt vp vs vi va vb,pt b,C5 a wt wp] h (M9 h [vt,vp,vs,vi,va,vb,wt,wp] (I4 s b a)):=F8g c35 ra hs rc
end Go.Vab

namespace Go.Vab
open Go Go.Proofs
noncomputable section
def F3g:Ctx:=⟨fun _ _ _ => none,TT,36,[4,5,6,7,8,9,10,11,12,13,14,15,16,17,18,19,20,21,22,23,24,25,26,27,28,29,30,31,32,33,34,35]⟩
def D5s:=B8 Tryz.f11
def D5t:=cR D5s
def D5u:=cR D5t
def D5v:=cR D5u
def D5w:=cR D5v
def D5x:=cR D5w
def D5y:=cR D5x
def D5z:=cR D5y
def D50:=cR D5z
def F2J:=cR D50
def q11:=zQ1 F3g 11 Tryz.f11 D5s fun s=>(bnd (D6 A6 (s.env.get 2) s.heap) fun v=>bnd (some []) fun vs=>some (v::vs))
def A1d:=B3 F3g [[F2J],[F2J,D50],[D50,D5z],[D5z,D5y],[D5y,D5x],[D5x,D5w],[D5w,D5v],[D5v,D5u],[D5u,D5t],[D5t,D5s]]
end
end Go.Vab

namespace Go.Vab
open Go Go.Proofs
noncomputable section
def F3h:Ctx:=⟨fun _ _ _ => none,TT,16,[4,5,6,7,8,9,10,11,12,13,14,15]⟩
def D51:=B8 Tryz.f12
def D52:=cR D51
def D53:=cR D52
def D54:=cR D53
def D55:=cR D54
def F2K:=cR D55
def q12:=zQ1 F3h 12 Tryz.f12 D51 fun s=>(bnd (D6 D5 (s.env.get 2) s.heap) fun v=>bnd (some []) fun vs=>some (v::vs))
def D6t:=B3 F3h [[F2K],[F2K,D55],[D55,D54],[D54,D53],[D53,D52],[D52,D51]]
end
end Go.Vab

namespace Go.Vab
open Go Go.Proofs
theorem BytFrom.up {n m:Nat} {A u e U:A3} {y:AV} {b:Bs} (hr:BytFrom m u y b) (hk:m=n+A.length) (hU:A++(u++e)=U):BytFrom n U y b:=fun F l hF=>by
 have h1:F++(U++l)=(F++A)++(u++(e++l)):=by rw [←hU];simp only [List.append_assoc]
 rw [h1]
 exact hr _ _ (by simp [hF,hk])
theorem RowFrom.up {n m:Nat} {A u e U:A3} {t:Ty} {y:AV} {b:List AV} (hr:RowFrom m u t y b) (hk:m=n+A.length) (hU:A++(u++e)=U):RowFrom n U t y b:=fun F l hF=>by
 have h1:F++(U++l)=(F++A)++(u++(e++l)):=by rw [←hU];simp only [List.append_assoc]
 rw [h1]
 exact hr _ _ (by simp [hF,hk])
structure StF (m:Nat) (u:A3) (s:Stt) (vt vp vs vi va vb:AV):Prop where
 ft:BytFrom m u vt s.title
 fp:BytFrom m u vp s.pass
 fs:RowFrom m u A7 vs (s.seats.map B0)
 fi:RowFrom m u B1 vi (s.invites.map B7)
 fa:RowFrom m u B5 va (s.asks.map B9)
 fb:RowFrom m u B4 vb (s.bans.map B2)
structure ActF (m:Nat) (u:A3) (a:Actn) (vt vp:AV):Prop where
 t:BytFrom m u vt a.title
 p:BytFrom m u vp a.pass
theorem StF.at_ {F u:A3} {m:Nat} {s:Stt} {vt vp vs vi va vb:AV} (k:StF m u s vt vp vs vi va vb) (hF:F.length=m):StR (F++u) s vt vp vs vi va vb:=⟨k.ft.at_ hF,k.fp.at_ hF,k.fs.at_ hF,k.fi.at_ hF,k.fa.at_ hF,k.fb.at_ hF⟩
theorem ActF.at_ {F u:A3} {m:Nat} {a:Actn} {vt vp:AV} (k:ActF m u a vt vp) (hF:F.length=m):ActR (F++u) a vt vp:=⟨k.t.at_ hF,k.p.at_ hF⟩
def F2L (s:Stt):Prop:=s.title.length≤100000∧s.pass.length≤100000∧s.seats.length≤100000∧s.invites.length≤100000∧s.asks.length≤100000∧s.bans.length≤100000
theorem G28 {h : A3} {a : Stt} {vt vp vs vi va vb : AV} (ra : StR h a vt vp vs vi va vb) (hs : F2L a) :
  SpecQ Tryz.prog 11 [eSt a vt vp vs vi va vb] h fun r=>∃ vt' vp' vs' vi' va' vb' t,r=(eSt a vt' vp' vs' vi' va' vb',h++t)∧StF h.length t a vt' vp' vs' vi' va' vb':=by
 obtain ⟨b1,b2,b3,b4,b5,b6⟩:=hs
 have ta:=ra.cells
 refine q11 fun env g0=>?_
 repeat' (first|((with_reducible refine I6 (a:=?_) ?_ ?_);rotate_left;(focus ((conv=>lhs;simp (disch:=omega) [g0,ta]);done));try dsimp only)|((with_reducible refine Z7 (s':=?_) (x':=?_) ?_ ?_ ?_);rotate_left;rotate_left;(focus ((conv=>lhs;simp (disch:=omega) [g0,ta]);done));(focus ((conv=>lhs;simp (disch:=omega) [g0,ta]);done)))|(simp (decide:=true) only [A1d,J7,J4,I3,J3,I2,J2,J1,if_true,if_false,J5,J6]))
 refine A7W (by simp [a7]) (ra.ft.app _) (by simp) fun y1 e1 f1=>?_
 have c1:=f1.cell
 repeat' (first|((with_reducible refine I6 (a:=?_) ?_ ?_);rotate_left;(focus ((conv=>lhs;simp (disch:=omega) [g0,ta,c1]);done));try dsimp only)|((with_reducible refine Z7 (s':=?_) (x':=?_) ?_ ?_ ?_);rotate_left;rotate_left;(focus ((conv=>lhs;simp (disch:=omega) [g0,ta,c1]);done));(focus ((conv=>lhs;simp (disch:=omega) [g0,ta,c1]);done)))|(simp (decide:=true) only [A1d,J7,J4,I3,J3,I2,J2,J1,if_true,if_false,J5,J6]))
 refine A7W (by simp [a7]) (ra.fp.app _) (by simp) fun y2 e2 f2=>?_
 have c2:=f2.cell
 repeat' (first|((with_reducible refine I6 (a:=?_) ?_ ?_);rotate_left;(focus ((conv=>lhs;simp (disch:=omega) [g0,ta,c1,c2]);done));try dsimp only)|((with_reducible refine Z7 (s':=?_) (x':=?_) ?_ ?_ ?_);rotate_left;rotate_left;(focus ((conv=>lhs;simp (disch:=omega) [g0,ta,c1,c2]);done));(focus ((conv=>lhs;simp (disch:=omega) [g0,ta,c1,c2]);done)))|(simp (decide:=true) only [A1d,J7,J4,I3,J3,I2,J2,J1,if_true,if_false,J5,J6]))
 refine A7V (fun _ => rfl) (by simp [M6]) (ra.fs.app _) (by simp [E0];omega) (by omega) (by simp) fun y3 e3 f3=>?_
 have c3:=f3.cell
 repeat' (first|((with_reducible refine I6 (a:=?_) ?_ ?_);rotate_left;(focus ((conv=>lhs;simp (disch:=omega) [g0,ta,c1,c2,c3]);done));try dsimp only)|((with_reducible refine Z7 (s':=?_) (x':=?_) ?_ ?_ ?_);rotate_left;rotate_left;(focus ((conv=>lhs;simp (disch:=omega) [g0,ta,c1,c2,c3]);done));(focus ((conv=>lhs;simp (disch:=omega) [g0,ta,c1,c2,c3]);done)))|(simp (decide:=true) only [A1d,J7,J4,I3,J3,I2,J2,J1,if_true,if_false,J5,J6]))
 refine A7V (fun _ => rfl) (by simp [M6]) (ra.fi.app _) (by simp [E0];omega) (by omega) (by simp) fun y4 e4 f4=>?_
 have c4:=f4.cell
 repeat' (first|((with_reducible refine I6 (a:=?_) ?_ ?_);rotate_left;(focus ((conv=>lhs;simp (disch:=omega) [g0,ta,c1,c2,c3,c4]);done));try dsimp only)|((with_reducible refine Z7 (s':=?_) (x':=?_) ?_ ?_ ?_);rotate_left;rotate_left;(focus ((conv=>lhs;simp (disch:=omega) [g0,ta,c1,c2,c3,c4]);done));(focus ((conv=>lhs;simp (disch:=omega) [g0,ta,c1,c2,c3,c4]);done)))|(simp (decide:=true) only [A1d,J7,J4,I3,J3,I2,J2,J1,if_true,if_false,J5,J6]))
 refine A7V (fun _ => rfl) (by simp [M6]) (ra.fa.app _) (by simp [E0];omega) (by omega) (by simp) fun y5 e5 f5=>?_
 have c5:=f5.cell
 repeat' (first|((with_reducible refine I6 (a:=?_) ?_ ?_);rotate_left;(focus ((conv=>lhs;simp (disch:=omega) [g0,ta,c1,c2,c3,c4,c5]);done));try dsimp only)|((with_reducible refine Z7 (s':=?_) (x':=?_) ?_ ?_ ?_);rotate_left;rotate_left;(focus ((conv=>lhs;simp (disch:=omega) [g0,ta,c1,c2,c3,c4,c5]);done));(focus ((conv=>lhs;simp (disch:=omega) [g0,ta,c1,c2,c3,c4,c5]);done)))|(simp (decide:=true) only [A1d,J7,J4,I3,J3,I2,J2,J1,if_true,if_false,J5,J6]))
 refine A7V (fun _ => rfl) (by simp [M6]) (ra.fb.app _) (by simp [E0];omega) (by omega) (by simp) fun y6 e6 f6=>?_
 have c6:=f6.cell
 repeat' (first|((with_reducible refine I6 (a:=?_) ?_ ?_);rotate_left;(focus ((conv=>lhs;simp (disch:=omega) [g0,ta,c1,c2,c3,c4,c5,c6]);done));try dsimp only)|((with_reducible refine Z7 (s':=?_) (x':=?_) ?_ ?_ ?_);rotate_left;rotate_left;(focus ((conv=>lhs;simp (disch:=omega) [g0,ta,c1,c2,c3,c4,c5,c6]);done));(focus ((conv=>lhs;simp (disch:=omega) [g0,ta,c1,c2,c3,c4,c5,c6]);done)))|(simp (decide:=true) only [A1d,J7,J4,I3,J3,I2,J2,J1,if_true,if_false,J5,J6]))
 exact ⟨y1,y2,y3,y4,y5,y6,_,rfl,⟨f1.up (A:=[_,_,_]) (by simp) (by simp only [List.append_assoc,List.cons_append,List.nil_append];rfl),f2.up (A:=[_,_,_]) (by simp) (by simp only [List.append_assoc,List.cons_append,List.nil_append];rfl),f3.up (A:=[_,_,_]) (by simp) (by simp only [List.append_assoc,List.cons_append,List.nil_append];rfl),f4.up (A:=[_,_,_]) (by simp) (by simp only [List.append_assoc,List.cons_append,List.nil_append];rfl),f5.up (A:=[_,_,_]) (by simp) (by simp only [List.append_assoc,List.cons_append,List.nil_append];rfl),f6.up (A:=[_,_,_]) (e:=[]) (by simp) (by simp only [List.append_assoc,List.cons_append,List.nil_append,List.append_nil];rfl)⟩⟩
theorem c11 {h : A3} {a : Stt} {vt vp vs vi va vb : AV} (ra : StR h a vt vp vs vi va vb) (hs : F2L a) :
  SpecQ Tryz.prog 11 [eSt a vt vp vs vi va vb] h fun r=>∃ vt' vp' vs' vi' va' vb' t,r=(eSt a vt' vp' vs' vi' va' vb',h++t)∧StR (h++t) a vt' vp' vs' vi' va' vb' :=
 (G28 ra hs).mono fun _ ⟨vt',vp',vs',vi',va',vb',t,e,k⟩=>⟨vt',vp',vs',vi',va',vb',t,e,k.at_ rfl⟩
def F9W (a:Actn):Prop:=a.title.length≤100000∧a.pass.length≤100000
theorem G29 {h : A3} {a : Actn} {vt vp : AV} (ra : ActR h a vt vp) (hs : F9W a) :
  SpecQ Tryz.prog 12 [C5 a vt vp] h fun r=>∃ vt' vp' t,r=(C5 a vt' vp',h++t)∧ActF h.length t a vt' vp':=by
 obtain ⟨b1,b2⟩:=hs
 have ta:=ra.cells
 refine q12 fun env g0=>?_
 repeat' (first|((with_reducible refine I6 (a:=?_) ?_ ?_);rotate_left;(focus ((conv=>lhs;simp (disch:=omega) [g0,ta]);done));try dsimp only)|((with_reducible refine Z7 (s':=?_) (x':=?_) ?_ ?_ ?_);rotate_left;rotate_left;(focus ((conv=>lhs;simp (disch:=omega) [g0,ta]);done));(focus ((conv=>lhs;simp (disch:=omega) [g0,ta]);done)))|(simp (decide:=true) only [D6t,J7,J4,I3,J3,I2,J2,J1,if_true,if_false,J5,J6]))
 refine A7W (by simp [a7]) (ra.t.app _) (by simp) fun y1 e1 f1=>?_
 have c1:=f1.cell
 repeat' (first|((with_reducible refine I6 (a:=?_) ?_ ?_);rotate_left;(focus ((conv=>lhs;simp (disch:=omega) [g0,ta,c1]);done));try dsimp only)|((with_reducible refine Z7 (s':=?_) (x':=?_) ?_ ?_ ?_);rotate_left;rotate_left;(focus ((conv=>lhs;simp (disch:=omega) [g0,ta,c1]);done));(focus ((conv=>lhs;simp (disch:=omega) [g0,ta,c1]);done)))|(simp (decide:=true) only [D6t,J7,J4,I3,J3,I2,J2,J1,if_true,if_false,J5,J6]))
 refine A7W (by simp [a7]) (ra.p.app _) (by simp) fun y2 e2 f2=>?_
 have c2:=f2.cell
 repeat' (first|((with_reducible refine I6 (a:=?_) ?_ ?_);rotate_left;(focus ((conv=>lhs;simp (disch:=omega) [g0,ta,c1,c2]);done));try dsimp only)|((with_reducible refine Z7 (s':=?_) (x':=?_) ?_ ?_ ?_);rotate_left;rotate_left;(focus ((conv=>lhs;simp (disch:=omega) [g0,ta,c1,c2]);done));(focus ((conv=>lhs;simp (disch:=omega) [g0,ta,c1,c2]);done)))|(simp (decide:=true) only [D6t,J7,J4,I3,J3,I2,J2,J1,if_true,if_false,J5,J6]))
 exact ⟨y1,y2,_,rfl,⟨f1.up (A:=[_,_,_]) (by simp) (by simp only [List.append_assoc,List.cons_append,List.nil_append];rfl),f2.up (A:=[_,_,_]) (e:=[]) (by simp) (by simp only [List.append_assoc,List.cons_append,List.nil_append,List.append_nil];rfl)⟩⟩
end Go.Vab

namespace Go.Vab
open Go Go.Proofs
noncomputable section
def cx3:Ctx:=⟨fun _ _ _ => none,TT,78,[13,14,16,17,18,19,20,21,22,23,24,25,26,27,28,29,30,31,32,33,34,35,36,37,38,39,40,41,42,43,44,45,46,47,48,49,50,51,52,53,54,55,56,57,58,59,60,61,62,63,65,66,67,68,69,70,71,72,73,74,75,76,77]⟩
def D6u:=B8 Tryz.f3
def B6J:=cR D6u
def D6v:=cL B6J
def B6K:=cR D6v
def D6w:=cL B6K
def F3i:=cR D6w
def F3j:=cR B6K
def D6x:=cR B6J
def D6y:=cR D6x
def D6z:=cR D6y
def D56:=cR D6z
def B50:=cR D56
def D57:=cL B50
def B51:=cR D57
def D58:=cL B51
def F2M:=cR D58
def F2N:=cR B51
def D59:=cR B50
def D6A:=cR D59
def F2O:=cR D6A
theorem fn3:Tryz.prog.funcs[3]?=some Tryz.f3:=by kernel_rfl
def q3:=zQ3 cx3 3 Tryz.f3 D6u fun s=>(bnd (some (s.env.get 6)) fun v=>bnd (some []) fun vs=>some (v::vs))
def A2V:=zDr cx3 [B51,D57] [] [0,0,3,7,15,15,63,127,255,511,1023,1023,4095,8191,16383,32767,65535,65535,262143,524287,1048575,2097151,4194303,4194303,16777215,4194303,4194303,134217727,268435455,536870911] [0,1,2,3,4,5,6,7,8,9,10,11,12,13,14,15,16,17,18,19,20,21,22,23,24,25,26,27,28,29] .f
def sn3:=B3 cx3 [[F3i],[F3i,D6w],[F3j],[D6w,F3j,B6K],[B6K,D6v],[F2M],[F2M,D58],[F2N],[D58,F2N,B51],[F2O],[F2O,D6A],[D6A,D59],[D57,D59,B50],[B50,D56],[D56,D6z],[D6z,D6y],[D6y,D6x],[D6v,D6x,B6J],[B6J,D6u]]
end
end Go.Vab

namespace Go.Vab
open Go Go.Proofs
theorem F5t {G X:Prop} (f:Hd X→G:=by
 intro xX
 repeat' (first|refine stp (x:=?_)|(with_reducible refine A5 (c9 (ra.app _) (rc.app _)) ?_;try dsimp only)|(with_reducible refine SpecQ.step (c9 (ra.app _) (rc.app _)) ?_;rintro _ rfl;try dsimp only)|(with_reducible refine A5 (c10) ?_;try dsimp only)|(with_reducible refine SpecQ.step (c10) ?_;rintro _ rfl;try dsimp only)|(simp (decide:=true) only [sn3,snB,if_true,if_false])|(with_reducible refine A2V _ _ _ ?_))
 exact xX.get) (x:X):G:=f ⟨x⟩
theorem F5u {G X:Prop} (f:Hd X→G:=by
 intro xX
 repeat' (first|refine stp (x:=?_)|(with_reducible refine A5 (c9 (ra.app _) (rc.app _)) ?_;try dsimp only)|(with_reducible refine SpecQ.step (c9 (ra.app _) (rc.app _)) ?_;rintro _ rfl;try dsimp only)|(simp (decide:=true) only [sn3,snB,if_true,if_false])|(with_reducible refine A2V _ _ _ ?_))
 exact xX.get) (x:X):G:=f ⟨x⟩
theorem A45 {G X:Prop} (f:Hd X→G:=by
 intro xX
 repeat' (first|refine stp (x:=?_)|(simp (decide:=true) only [sn3,snB,if_true,if_false])|(with_reducible refine A2V _ _ _ ?_))
 exact xX.get) (x:X):G:=f ⟨x⟩
theorem F5v {G X:Prop} (f:Hd X→G:=by
 intro xX
 repeat' (first|refine stp (x:=?_)|(with_reducible refine A5 (E2H) ?_;try dsimp only)|(with_reducible refine SpecQ.step (E2H) ?_;rintro _ rfl;try dsimp only)|(with_reducible refine A5 (c15 (rI.app _) (rG.app _)) ?_;try dsimp only)|(with_reducible refine SpecQ.step (c15 (rI.app _) (rG.app _)) ?_;rintro _ rfl;try dsimp only)|(with_reducible refine A5 (c16 (rA.app _) (rcG.app _)) ?_;try dsimp only)|(with_reducible refine SpecQ.step (c16 (rA.app _) (rcG.app _)) ?_;rintro _ rfl;try dsimp only)|(with_reducible refine A5 (c17 (rI.app _)) ?_;try dsimp only)|(with_reducible refine SpecQ.step (c17 (rI.app _)) ?_;rintro _ rfl;try dsimp only)|(with_reducible refine A5 (c18 (rG.app _)) ?_;try dsimp only)|(with_reducible refine SpecQ.step (c18 (rG.app _)) ?_;rintro _ rfl;try dsimp only)|(simp (decide:=true) only [sn3,snB,if_true,if_false])|(with_reducible refine A2V _ _ _ ?_))
 exact xX.get) (x:X):G:=f ⟨x⟩
theorem D8d {G X:Prop} (f:Hd X→G:=by
 intro xX
 repeat' (first|refine stp (x:=?_)|(with_reducible refine A5 (c15 (sI _) (sG _)) ?_;try dsimp only)|(with_reducible refine SpecQ.step (c15 (sI _) (sG _)) ?_;rintro _ rfl;try dsimp only)|(with_reducible refine A5 (c16 (sA _) (sC _)) ?_;try dsimp only)|(with_reducible refine SpecQ.step (c16 (sA _) (sC _)) ?_;rintro _ rfl;try dsimp only)|(with_reducible refine A5 (c10) ?_;try dsimp only)|(with_reducible refine SpecQ.step (c10) ?_;rintro _ rfl;try dsimp only)|(simp (decide:=true) only [sn3,snB,if_true,if_false])|(with_reducible refine A2V _ _ _ ?_))
 exact xX.get) (x:X):G:=f ⟨x⟩
theorem F5w {G X:Prop} (f:Hd X→G:=by
 intro xX
 repeat' (first|refine stp (x:=?_)|(with_reducible refine A5 (c15 (hz1 _) (hz2 _)) ?_;try dsimp only)|(with_reducible refine SpecQ.step (c15 (hz1 _) (hz2 _)) ?_;rintro _ rfl;try dsimp only)|(with_reducible refine A5 (c15 (rI.app _) (rG.app _)) ?_;try dsimp only)|(with_reducible refine SpecQ.step (c15 (rI.app _) (rG.app _)) ?_;rintro _ rfl;try dsimp only)|(with_reducible refine A5 (c16 (rA.app _) (rcG.app _)) ?_;try dsimp only)|(with_reducible refine SpecQ.step (c16 (rA.app _) (rcG.app _)) ?_;rintro _ rfl;try dsimp only)|(with_reducible refine A5 (c17 (rI.app _)) ?_;try dsimp only)|(with_reducible refine SpecQ.step (c17 (rI.app _)) ?_;rintro _ rfl;try dsimp only)|(with_reducible refine A5 (c18 (rG.app _)) ?_;try dsimp only)|(with_reducible refine SpecQ.step (c18 (rG.app _)) ?_;rintro _ rfl;try dsimp only)|(simp (decide:=true) only [sn3,snB,if_true,if_false])|(with_reducible refine A2V _ _ _ ?_))
 exact xX.get) (x:X):G:=f ⟨x⟩
attribute [local irreducible] E9 Evs gW D9 E8 G5
theorem Wp.app {κ:Nat→Nat} {H:A3} {s:Stt} {vt vp vs vi va vb:AV} (w:Wp κ H s vt vp vs vi va vb) (l:A3):Wp κ (H++l) s vt vp vs vi va vb:=by
 have hg:∀ i,i < H.length→κ i=κ i∧(H++l)[i]?=H[i]?:=fun i hi=>⟨rfl,List.getElem?_append_left hi⟩
 exact ⟨fun i hi=>w.top i (by simp at hi;omega),w.ft.app l,w.fp.app l,w.kt,w.kp,w.fs.other fun i hi _ => hg i hi,w.fi.other fun i hi _ => hg i hi,w.fa.other fun i hi _ => hg i hi,w.fb.other fun i hi _ => hg i hi⟩
theorem B6L {X:Type} {κ:Nat→Nat} {k:Nat} {T:Ty} {ts:List Ty} {E:X→AV} (hT:T=.struct ts) (H:A3):KRow κ k T E H .nilslice []:=⟨by simp,.inl ⟨rfl,A0t hT H,rfl,fun b hb=>absurd hb (Y5 b)⟩⟩
theorem Wp.nil (H:A3):Wp (fun _ => 0) H st0 .nilslice .nilslice .nilslice .nilslice .nilslice .nilslice :=
 ⟨fun _ _ => rfl,⟨BytL.nil _,fun b hb=>absurd hb (Y5 b)⟩,⟨BytL.nil _,fun b hb=>absurd hb (Y5 b)⟩,fun b hb=>absurd hb (Y5 b),fun b hb=>absurd hb (Y5 b),B6L s8 H,B6L a9 H,B6L i9 H,B6L j0 H⟩
theorem E2H {h:A3}:SpecQ Tryz.prog 15 [R6,zSt] h fun r=>r=(.bool true,h):=by
 have:=c15 (h:=h) (a:=st0) (b:=st0) A6a A6a
 rw [decide_eq_true (rfl:st0=st0)] at this
 exact this
theorem c3 {h:A3} {s:Stt} {vt vp vs vi va vb:AV} {b:Pt} {a:Actn} {wt wp:AV} (ra:StR h s vt vp vs vi va vb) (rc:ActR h a wt wp):SpecQ Tryz.prog 3 [eSt s vt vp vs vi va vb,pt b,C5 a wt wp] h fun r=>r.1=.bool true:=by
 have ta:=ra.cells
 have tc:=rc.cells
 refine q3 fun env g0 g1 g2=>?_
 cases hL:A2Z s a
 rotate_left
 ·have ff:=aI6 g0 g1 g2 ta tc hL
  refine F5t (x:=?_)
  clear ff
  rfl
 have ff:=aI6 g0 g1 g2 ta tc hL
 refine F5u (x:=?_)
 clear ff
 unfold A2Z at hL
 simp only [Bool.or_eq_false_iff,decide_eq_false_iff_not] at hL
 have hs:H6 s:=⟨by omega,by omega,by omega,by omega⟩
 refine SpecQ.step (c11 (ra.app _) ⟨by omega,by omega,by omega,by omega,by omega,by omega⟩) ?_
 rintro _ ⟨xt,xp,xs,xi,xa,xb,t1,rfl,r1⟩
 have t1c:=r1.cells
 have ff:=aI3 ta tc t1c
 refine A45 (x:=?_)
 clear ff
 refine SpecQ.step (G29 (rc.app _) ⟨by omega,by omega⟩) ?_
 rintro _ ⟨yt,yp,t2,rfl,r2⟩
 have r2':=r2.at_ rfl
 have t2c:=r2'.cells
 have ff:=aI4 ta tc t1c t2c
 refine A45 (x:=?_)
 clear ff
 obtain ⟨p7,hp7⟩:∃ p,p=h.length+(t1.length+1+1+1):=⟨_,rfl⟩
 obtain ⟨p8,hp8⟩:∃ p,p=h.length+(t1.length+(t2.length+1)+1+1+1):=⟨_,rfl⟩
 obtain ⟨G,hG⟩:∃ G,G=h++⟨eSt s vt vp vs vi va vb,0,.own⟩::⟨pt b,0,.own⟩::⟨C5 a wt wp,0,.own⟩::(t1++⟨eSt s xt xp xs xi xa xb,0,.own⟩::(t2++[⟨C5 a yt yp,0,.own⟩])):=⟨_,rfl⟩
 rw [←hp7,←hp8,←hG]
 have c3:G[h.length]?=some ⟨eSt s vt vp vs vi va vb,0,.own⟩:=by rw [hG];simp
 have c4:G[h.length+1]?=some ⟨pt b,0,.own⟩:=by rw [hG];simp
 have c5:G[h.length+2]?=some ⟨C5 a wt wp,0,.own⟩:=by rw [hG];simp
 have c7:G[p7]?=some ⟨eSt s xt xp xs xi xa xb,0,.own⟩:=by
  rw [hG,hp7,show h++⟨eSt s vt vp vs vi va vb,0,.own⟩::⟨pt b,0,.own⟩::⟨C5 a wt wp,0,.own⟩::(t1++⟨eSt s xt xp xs xi xa xb,0,.own⟩::(t2++[⟨C5 a yt yp,0,.own⟩]))=(h++⟨eSt s vt vp vs vi va vb,0,.own⟩::⟨pt b,0,.own⟩::⟨C5 a wt wp,0,.own⟩::t1)++⟨eSt s xt xp xs xi xa xb,0,.own⟩::(t2++[⟨C5 a yt yp,0,.own⟩]) by simp,List.getElem?_append_right (by simp)]
  simp
 have c8:G[p8]?=some ⟨C5 a yt yp,0,.own⟩:=by
  rw [hG,hp8,show h++⟨eSt s vt vp vs vi va vb,0,.own⟩::⟨pt b,0,.own⟩::⟨C5 a wt wp,0,.own⟩::(t1++⟨eSt s xt xp xs xi xa xb,0,.own⟩::(t2++[⟨C5 a yt yp,0,.own⟩]))=(h++⟨eSt s vt vp vs vi va vb,0,.own⟩::⟨pt b,0,.own⟩::⟨C5 a wt wp,0,.own⟩::(t1++⟨eSt s xt xp xs xi xa xb,0,.own⟩::t2))++[⟨C5 a yt yp,0,.own⟩] by simp,List.getElem?_append_right (by simp)]
  rw [show h.length+(t1.length+(t2.length+1)+1+1+1) - (h++⟨eSt s vt vp vs vi va vb,0,.own⟩::⟨pt b,0,.own⟩::⟨C5 a wt wp,0,.own⟩::(t1++⟨eSt s xt xp xs xi xa xb,0,.own⟩::t2)).length=0 by simp]
  rfl
 have rG:StR G s vt vp vs vi va vb:=hG ▸ ra.app _
 have rcG:ActR G a wt wp:=hG ▸ ⟨rc.t.app _,rc.p.app _⟩
 have rI:StR G s xt xp xs xi xa xb:=by
  have:=r1.app (⟨eSt s xt xp xs xi xa xb,0,.own⟩::(t2++[⟨C5 a yt yp,0,.own⟩]))
  rw [hG]
  simpa using this
 have rA:ActR G a yt yp:=by
  have:=r2'.app [⟨C5 a yt yp,0,.own⟩]
  rw [hG]
  simpa using this
 have b3:=fun l=>L6 (A9 c3) l
 have b4:=fun l=>L6 (A9 c4) l
 have b5:=fun l=>L6 (A9 c5) l
 have b7:=fun l=>L6 (A9 c7) l
 have b8:=fun l=>L6 (A9 c8) l
 clear hG hp7 hp8
 refine SpecQ.step (c13 rI rA) ?_
 rintro _ hr
 cases hm:I4 s b a with
 | error n =>
  rw [hm] at hr
  obtain ⟨u1,rfl⟩:=hr
  have hn:=D8X hm
  have ff:=aI9 ta tc t1c t2c b3 b4 b5 b7 b8
  refine A45 (x:=?_)
  clear ff
  refine SpecQ.step (c14 (rG.app _) hs (rcG.app _)) ?_
  rintro _ hr2
  rw [hm] at hr2
  obtain ⟨u2,rfl⟩:=hr2
  have ff:=aI9 ta tc t1c t2c b3 b4 b5 b7 b8
  refine F5v (x:=?_)
  clear ff
  refine SpecQ.step (c19 (z:=st0) (Wp.nil _)) ?_
  rintro _ ⟨H',u3,rfl,sp⟩
  have k:∀ i,i < G.length→H'[i]?=G[i]?:=fun i hi=>(sp.keep i rfl).trans (List.getElem?_append_left hi)
  have kk:∀ {p:Nat} {v:AV},G[p]?=some ⟨v,0,.own⟩→∀ l,blkAt (H'++l) p 0=some ⟨v,0,.own⟩:=fun hp l=>L6 (A9 ((k _ (List.getElem?_eq_some_iff.1 hp).1).trans hp)) l
  have n3:=kk c3
  have n5:=kk c5
  have n7:=kk c7
  have n8:=kk c8
  have sI:=fun l=>(rI.other fun y hy b hb=>k b (rI.rb_lt y hy b hb)).app l
  have sG:=fun l=>(rG.other fun y hy b hb=>k b (rG.rb_lt y hy b hb)).app l
  have sA:∀ l,ActR (H'++l) a yt yp:=fun l=>⟨(rA.t.other fun b hb=>k b (rA.t.rb_lt' b hb)).app l,(rA.p.other fun b hb=>k b (rA.p.rb_lt' b hb)).app l⟩
  have sC:∀ l,ActR (H'++l) a wt wp:=fun l=>⟨(rcG.t.other fun b hb=>k b (rcG.t.rb_lt' b hb)).app l,(rcG.p.other fun b hb=>k b (rcG.p.rb_lt' b hb)).app l⟩
  have ff:=aI8 ta tc t1c t2c n3 n5 n7 n8
  refine D8d (x:=?_)
  clear ff
  rfl
 | ok z =>
  rw [hm] at hr
  obtain ⟨κ,u1,ut,up,us,ui,ua,ub,rfl,w,h0⟩:=hr
  have tu:=w.str.cells
  have ff:=E3 ta tc t1c t2c tu b3 b4 b5 b7 b8
  refine A45 (x:=?_)
  clear ff
  refine SpecQ.step (c14 (rG.app _) hs (rcG.app _)) ?_
  rintro _ hr2
  rw [hm] at hr2
  obtain ⟨z1,z2,z3,z4,z5,z6,u2,rfl,r3,-⟩:=hr2
  have tw:=r3.cells
  have hz1:∀ l,StR (G++(u1++l)) z ut up us ui ua ub:=fun l=>by simpa using w.str.app l
  have hz2:∀ l,StR (G++(u1++⟨eSt z ut up us ui ua ub,0,.own⟩::(u2++l))) z z1 z2 z3 z4 z5 z6:=fun l=>by simpa using r3.app l
  have ff:=D8 ta tc t1c t2c tu tw b3 b4 b5 b7 b8
  refine F5w (x:=?_)
  clear ff
  refine SpecQ.step (c19 (by simpa using w.app _)) ?_
  rintro _ ⟨H',u3,rfl,sp⟩
  have k:∀ i,i < G.length→H'[i]?=G[i]?:=fun i hi=>(sp.keep i (h0 i hi)).trans (List.getElem?_append_left hi)
  have kk:∀ {p:Nat} {v:AV},G[p]?=some ⟨v,0,.own⟩→∀ l,blkAt (H'++l) p 0=some ⟨v,0,.own⟩:=fun hp l=>L6 (A9 ((k _ (List.getElem?_eq_some_iff.1 hp).1).trans hp)) l
  have n3:=kk c3
  have n5:=kk c5
  have n7:=kk c7
  have n8:=kk c8
  have sI:=fun l=>(rI.other fun y hy b hb=>k b (rI.rb_lt y hy b hb)).app l
  have sG:=fun l=>(rG.other fun y hy b hb=>k b (rG.rb_lt y hy b hb)).app l
  have sA:∀ l,ActR (H'++l) a yt yp:=fun l=>⟨(rA.t.other fun b hb=>k b (rA.t.rb_lt' b hb)).app l,(rA.p.other fun b hb=>k b (rA.p.rb_lt' b hb)).app l⟩
  have sC:∀ l,ActR (H'++l) a wt wp:=fun l=>⟨(rcG.t.other fun b hb=>k b (rcG.t.rb_lt' b hb)).app l,(rcG.p.other fun b hb=>k b (rcG.p.rb_lt' b hb)).app l⟩
  have ff:=aI8 ta tc t1c t2c n3 n5 n7 n8
  refine D8d (x:=?_)
  clear ff
  rfl
end Go.Vab
