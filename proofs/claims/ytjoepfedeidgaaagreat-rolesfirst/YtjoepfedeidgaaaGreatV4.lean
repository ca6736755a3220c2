/- How the code of a function is read. Printed by wip/tools/gen2.py and gen3.py (own work). -/
import Derived.Test.YtjoepfedeidgaaaGreatV3
import Derived.Test.YtjoepfedeidgaaaGreatV2
set_option linter.all false
set_option linter.unusedSectionVars false
namespace Go.Vab
open Go Go.Proofs
noncomputable section
def cx142 : Ctx := ⟨fun _ _ _ => none,TT,28,[4,5,6,7,8,10,11,12,13,14,15,16,17,18,19,20,21,22,23,24,25,26,27]⟩
def n142_0 := bodyOf Tryz.f142
def n142_1 := cR n142_0
def n142_2 := cB n142_1
def n142_3 := cB n142_2
def n142_4 := cL n142_3
def n142_5 := cR n142_4
def n142_6 := cL n142_5
def n142_7 := cR n142_5
def n142_8 := cR n142_3
def n142_9 := cL n142_8
def n142_10 := cB n142_9
def n142_11 := cR n142_8
def q142 := zQ1 cx142 142 Tryz.f142 n142_0 fun s => (some [])
set_option maxRecDepth 20000
set_option maxHeartbeats 4000000
def n142_10_w := zDr cx142 [n142_10] [13,15] [0,0,0,0,0,0,48,112,0,0,768,1792,4083,8179,16383,32767] [0,1,2,3,4,5,6,7,8,9,10,11,12] (.o 13 [14] [] (.o 15 [] [] .f))
def sn142 := zAll cx142 [[n142_6],[n142_7],[n142_6,n142_7,n142_5],[n142_5,n142_4],[n142_10,n142_9],[n142_11],[n142_9,n142_11,n142_8],[n142_4,n142_8,n142_3],[n142_3,n142_2],[n142_2,n142_1],[n142_1,n142_0]]
end
end Go.Vab

/- How the code of a function is read. Printed by wip/tools/gen2.py and gen3.py (own work). -/
namespace Go.Vab
open Go Go.Proofs
noncomputable section
def cx139 : Ctx := ⟨fun _ _ _ => none,TT,28,[4,5,6,7,8,10,11,12,13,14,15,16,17,18,19,20,21,22,23,24,25,26,27]⟩
def n139_0 := bodyOf Tryz.f139
def n139_1 := cR n139_0
def n139_2 := cB n139_1
def n139_3 := cB n139_2
def n139_4 := cL n139_3
def n139_5 := cR n139_4
def n139_6 := cL n139_5
def n139_7 := cR n139_5
def n139_8 := cR n139_3
def n139_9 := cL n139_8
def n139_10 := cB n139_9
def n139_11 := cR n139_8
def q139 := zQ1 cx139 139 Tryz.f139 n139_0 fun s => (some [])
set_option maxRecDepth 20000
set_option maxHeartbeats 4000000
def n139_10_w := zDr cx139 [n139_10] [13,15] [0,0,0,0,0,0,48,112,0,0,768,1792,4083,8179,16383,32767] [0,1,2,3,4,5,6,7,8,9,10,11,12] (.o 13 [14] [] (.o 15 [] [] .f))
def sn139 := zAll cx139 [[n139_6],[n139_7],[n139_6,n139_7,n139_5],[n139_5,n139_4],[n139_10,n139_9],[n139_11],[n139_9,n139_11,n139_8],[n139_4,n139_8,n139_3],[n139_3,n139_2],[n139_2,n139_1],[n139_1,n139_0]]
end
end Go.Vab

/- How the code of a function is read. Printed by wip/tools/gen2.py and gen3.py (own work). -/
namespace Go.Vab
open Go Go.Proofs
noncomputable section
def cx140 : Ctx := ⟨fun _ _ _ => none,TT,28,[4,5,6,7,8,10,11,12,13,14,15,16,17,18,19,20,21,22,23,24,25,26,27]⟩
def n140_0 := bodyOf Tryz.f140
def n140_1 := cR n140_0
def n140_2 := cB n140_1
def n140_3 := cB n140_2
def n140_4 := cL n140_3
def n140_5 := cR n140_4
def n140_6 := cL n140_5
def n140_7 := cR n140_5
def n140_8 := cR n140_3
def n140_9 := cL n140_8
def n140_10 := cB n140_9
def n140_11 := cR n140_8
def q140 := zQ1 cx140 140 Tryz.f140 n140_0 fun s => (some [])
set_option maxRecDepth 20000
set_option maxHeartbeats 4000000
def n140_10_w := zDr cx140 [n140_10] [13,15] [0,0,0,0,0,0,48,112,0,0,768,1792,4083,8179,16383,32767] [0,1,2,3,4,5,6,7,8,9,10,11,12] (.o 13 [14] [] (.o 15 [] [] .f))
def sn140 := zAll cx140 [[n140_6],[n140_7],[n140_6,n140_7,n140_5],[n140_5,n140_4],[n140_10,n140_9],[n140_11],[n140_9,n140_11,n140_8],[n140_4,n140_8,n140_3],[n140_3,n140_2],[n140_2,n140_1],[n140_1,n140_0]]
end
end Go.Vab

/- How the code of a function is read. Printed by wip/tools/gen2.py and gen3.py (own work). -/
namespace Go.Vab
open Go Go.Proofs
noncomputable section
def cx143 : Ctx := ⟨fun _ _ _ => none,TT,28,[4,5,6,7,8,10,11,12,13,14,15,16,17,18,19,20,21,22,23,24,25,26,27]⟩
def n143_0 := bodyOf Tryz.f143
def n143_1 := cR n143_0
def n143_2 := cB n143_1
def n143_3 := cB n143_2
def n143_4 := cL n143_3
def n143_5 := cR n143_4
def n143_6 := cL n143_5
def n143_7 := cR n143_5
def n143_8 := cR n143_3
def n143_9 := cL n143_8
def n143_10 := cB n143_9
def n143_11 := cR n143_8
def q143 := zQ1 cx143 143 Tryz.f143 n143_0 fun s => (some [])
set_option maxRecDepth 20000
set_option maxHeartbeats 4000000
def n143_10_w := zDr cx143 [n143_10] [13,15] [0,0,0,0,0,0,48,112,0,0,768,1792,4083,8179,16383,32767] [0,1,2,3,4,5,6,7,8,9,10,11,12] (.o 13 [14] [] (.o 15 [] [] .f))
def sn143 := zAll cx143 [[n143_6],[n143_7],[n143_6,n143_7,n143_5],[n143_5,n143_4],[n143_10,n143_9],[n143_11],[n143_9,n143_11,n143_8],[n143_4,n143_8,n143_3],[n143_3,n143_2],[n143_2,n143_1],[n143_1,n143_0]]
end
end Go.Vab

/- How the code of a function is read. Printed by wip/tools/gen2.py and gen3.py (own work). -/
namespace Go.Vab
open Go Go.Proofs
noncomputable section
def cx138 : Ctx := ⟨fun _ _ _ => none,TT,14,[4,5,6,7,8,9,10,11,12,13]⟩
def n138_0 := bodyOf Tryz.f138
def n138_1 := cR n138_0
def n138_2 := cR n138_1
def q138 := zQ2 cx138 138 Tryz.f138 n138_0 fun s => (some [])
set_option maxRecDepth 20000
set_option maxHeartbeats 4000000
def sn138 := zAll cx138 [[n138_2],[n138_2,n138_1],[n138_1,n138_0]]
end
end Go.Vab

/- How the code of a function is read. Printed by wip/tools/gen2.py and gen3.py (own work). -/
namespace Go.Vab
open Go Go.Proofs
noncomputable section
def cx134 : Ctx := ⟨fun _ _ _ => none,TT,14,[4,5,6,7,8,9,10,11,12,13]⟩
def n134_0 := bodyOf Tryz.f134
def n134_1 := cR n134_0
def n134_2 := cR n134_1
def q134 := zQ2 cx134 134 Tryz.f134 n134_0 fun s => (some [])
set_option maxRecDepth 20000
set_option maxHeartbeats 4000000
def sn134 := zAll cx134 [[n134_2],[n134_2,n134_1],[n134_1,n134_0]]
end
end Go.Vab

/- How the code of a function is read. Printed by wip/tools/gen2.py and gen3.py (own work). -/
namespace Go.Vab
open Go Go.Proofs
noncomputable section
def cx135 : Ctx := ⟨fun _ _ _ => none,TT,14,[4,5,6,7,8,9,10,11,12,13]⟩
def n135_0 := bodyOf Tryz.f135
def n135_1 := cR n135_0
def n135_2 := cR n135_1
def q135 := zQ2 cx135 135 Tryz.f135 n135_0 fun s => (some [])
set_option maxRecDepth 20000
set_option maxHeartbeats 4000000
def sn135 := zAll cx135 [[n135_2],[n135_2,n135_1],[n135_1,n135_0]]
end
end Go.Vab

/- How the code of a function is read. Printed by wip/tools/gen2.py and gen3.py (own work). -/
namespace Go.Vab
open Go Go.Proofs
noncomputable section
def cx141 : Ctx := ⟨fun _ _ _ => none,TT,14,[4,5,6,7,8,9,10,11,12,13]⟩
def n141_0 := bodyOf Tryz.f141
def n141_1 := cR n141_0
def n141_2 := cR n141_1
def q141 := zQ2 cx141 141 Tryz.f141 n141_0 fun s => (some [])
set_option maxRecDepth 20000
set_option maxHeartbeats 4000000
def sn141 := zAll cx141 [[n141_2],[n141_2,n141_1],[n141_1,n141_0]]
end
end Go.Vab

/- How the code of a function is read. Printed by wip/tools/gen2.py and gen3.py (own work). -/
namespace Go.Vab
open Go Go.Proofs
noncomputable section
def cx133 : Ctx := ⟨fun _ _ _ => none,TT,10,[4,5,6,7,8,9]⟩
def n133_0 := bodyOf Tryz.f133
def q133 := zQ2 cx133 133 Tryz.f133 n133_0 fun s => (some [])
set_option maxRecDepth 20000
set_option maxHeartbeats 4000000
def sn133 := zAll cx133 [[n133_0]]
end
end Go.Vab

/- How the code of a function is read. Printed by wip/tools/gen2.py and gen3.py (own work). -/
namespace Go.Vab
open Go Go.Proofs
noncomputable section
def cx125 : Ctx := ⟨fun _ _ _ => none,TT,10,[4,5,6,7,8,9]⟩
def n125_0 := bodyOf Tryz.f125
def q125 := zQ2 cx125 125 Tryz.f125 n125_0 fun s => (some [])
set_option maxRecDepth 20000
set_option maxHeartbeats 4000000
def sn125 := zAll cx125 [[n125_0]]
end
end Go.Vab

/- How the code of a function is read. Printed by wip/tools/gen2.py and gen3.py (own work). -/
namespace Go.Vab
open Go Go.Proofs
noncomputable section
def cx127 : Ctx := ⟨fun _ _ _ => none,TT,10,[4,5,6,7,8,9]⟩
def n127_0 := bodyOf Tryz.f127
def q127 := zQ2 cx127 127 Tryz.f127 n127_0 fun s => (some [])
set_option maxRecDepth 20000
set_option maxHeartbeats 4000000
def sn127 := zAll cx127 [[n127_0]]
end
end Go.Vab

/- How the code of a function is read. Printed by wip/tools/gen2.py and gen3.py (own work). -/
namespace Go.Vab
open Go Go.Proofs
noncomputable section
def cx137 : Ctx := ⟨fun _ _ _ => none,TT,10,[4,5,6,7,8,9]⟩
def n137_0 := bodyOf Tryz.f137
def q137 := zQ2 cx137 137 Tryz.f137 n137_0 fun s => (some [])
set_option maxRecDepth 20000
set_option maxHeartbeats 4000000
def sn137 := zAll cx137 [[n137_0]]
end
end Go.Vab

/-
  slices.Reverse, rotateLeft, rotateRight, overlaps, walked.
-/
namespace Go.Vab
open Go Go.Proofs
theorem runRp6_0 {G X : Prop} (f : Hd X → G := by
 intro xX
 repeat' (first | refine stp (x := ?_) | (simp (decide := true) only [sn142, snB, if_true, if_false]) | (with_reducible refine n142_10_w _ _ _ ?_))
 exact xX.get) (x : X) : G := f ⟨x⟩
theorem runRp6_1 {G X : Prop} (f : Hd X → G := by
 intro xX
 repeat' (first | refine stp (x := ?_) | (simp (decide := true) only [sn138, snB, if_true, if_false]))
 exact xX.get) (x : X) : G := f ⟨x⟩
theorem runRp6_2 {G X : Prop} (f : Hd X → G := by
 intro xX
 repeat' (first | refine stp (x := ?_) | (simp (decide := true) only [sn133, snB, if_true, if_false]))
 exact xX.get) (x : X) : G := f ⟨x⟩
theorem runRp6_3 {G X : Prop} (f : Hd X → G := by
 intro xX
 repeat' (first | refine stp (x := ?_) | (simp (decide := true) only [sn139, snB, if_true, if_false]) | (with_reducible refine n139_10_w _ _ _ ?_))
 exact xX.get) (x : X) : G := f ⟨x⟩
theorem runRp6_4 {G X : Prop} (f : Hd X → G := by
 intro xX
 repeat' (first | refine stp (x := ?_) | (simp (decide := true) only [sn134, snB, if_true, if_false]))
 exact xX.get) (x : X) : G := f ⟨x⟩
theorem runRp6_5 {G X : Prop} (f : Hd X → G := by
 intro xX
 repeat' (first | refine stp (x := ?_) | (simp (decide := true) only [sn125, snB, if_true, if_false]))
 exact xX.get) (x : X) : G := f ⟨x⟩
theorem runRp6_6 {G X : Prop} (f : Hd X → G := by
 intro xX
 repeat' (first | refine stp (x := ?_) | (simp (decide := true) only [sn140, snB, if_true, if_false]) | (with_reducible refine n140_10_w _ _ _ ?_))
 exact xX.get) (x : X) : G := f ⟨x⟩
theorem runRp6_7 {G X : Prop} (f : Hd X → G := by
 intro xX
 repeat' (first | refine stp (x := ?_) | (simp (decide := true) only [sn135, snB, if_true, if_false]))
 exact xX.get) (x : X) : G := f ⟨x⟩
theorem runRp6_8 {G X : Prop} (f : Hd X → G := by
 intro xX
 repeat' (first | refine stp (x := ?_) | (simp (decide := true) only [sn127, snB, if_true, if_false]))
 exact xX.get) (x : X) : G := f ⟨x⟩
theorem runRp6_9 {G X : Prop} (f : Hd X → G := by
 intro xX
 repeat' (first | refine stp (x := ?_) | (simp (decide := true) only [sn143, snB, if_true, if_false]) | (with_reducible refine n143_10_w _ _ _ ?_))
 exact xX.get) (x : X) : G := f ⟨x⟩
theorem runRp6_10 {G X : Prop} (f : Hd X → G := by
 intro xX
 repeat' (first | refine stp (x := ?_) | (simp (decide := true) only [sn141, snB, if_true, if_false]))
 exact xX.get) (x : X) : G := f ⟨x⟩
theorem runRp6_11 {G X : Prop} (f : Hd X → G := by
 intro xX
 repeat' (first | refine stp (x := ?_) | (simp (decide := true) only [sn137, snB, if_true, if_false]))
 exact xX.get) (x : X) : G := f ⟨x⟩
theorem c132 {H : Heap} {b1 b2 o1 n1 c1 o2 n2 c2 : Nat} {v1 v2 r1 r2 y : AV} (hb1 : H[b1]? = some ⟨v1, 0, .own⟩) (hb2 : H[b2]? = some ⟨v2, 0, .own⟩) (hne : b1 ≠ b2) (hy : y = .slice b2 0 [] tSeat o2 n2 (some c2))
  (e1 : mElems tSeat (.slice b1 0 [] tSeat o1 n1 (some c1)) H = some r1) (e2 : mElems tSeat (.slice b2 0 [] tSeat o2 n2 (some c2)) H = some r2) (h1 : n1 ≠ 0) (h2 : n2 ≠ 0) : SpecQ Tryz.prog 132 [.slice b1 0 [] tSeat o1 n1 (some c1), y] H fun r => ∃ v, r = (.bool v, H) := by
 subst hy
 exact ovl_spec TT_ok (fn := Tryz.f132) (by kernel_rfl) (by kernel_rfl) (by kernel_rfl) (by rfl) (tS := 32) (tR := 4) (e := 73) (by kernel_rfl) (i := ⟨.cell, 24, .nilslice, some 73, none, false, none, false⟩) rfl rfl rfl hb1 hb2 hne e1 e2 h1 h2 (by simp)
theorem c142 {H : Heap} {b off n c : Nat} {A M B : List Seat} (hb : H[b]? = some ⟨.node ((A ++ M ++ B).map eSeat), 0, .own⟩) (ho : off = A.length) (hM : n = M.length) (h0 : 0 < n) (hl : off + n ≤ 2000) : SpecQ Tryz.prog 142 [.slice b 0 [] tSeat off n (some c)] H fun r => ∃ v, r = (v, H.set b ⟨.node ((A ++ M.reverse ++ B).map eSeat), 0, .own⟩) := by
 have e1 : A ++ M.reverse ++ B = revAt off n (A ++ M ++ B) := by rw [ho, hM, revAt_mid]
 rw [e1]
 have hon : off + n ≤ (A ++ M ++ B).length := by simp; omega
 generalize A ++ M ++ B = xs at hb hon
 refine q142 fun env g0 => ?_
 have lx : mLenS (.slice b 0 [] tSeat off n (some c)) = some (nat n) := rfl
 have sb : mBin .sub (nat n) (nat 1) = some (nat (n - 1)) := nat_sub (by omega) (by omega)
 have ff := aI g0 (aI lx sb)
 refine runRp6_0 (x := ?_)
 clear ff
 have hlt := (List.getElem?_eq_some_iff.1 hb).1
 refine loop_up (n / 2) (fun i st => ∃ env' G ys, st = ⟨env', G⟩ ∧ G = H.set b ⟨.node (ys.map eSeat), 0, .own⟩ ∧ RevI off n i xs ys ∧ env'.get 0 = .slice b 0 [] tSeat off n (some c) ∧ env'.get 2 = nat i ∧ env'.get 3 = nat (n - 1 - i)) ?_ ?_ ⟨_, _, xs, rfl, (set_self hb).symm, RevI.zero _ _ _, by simp [g0], by simp, by simp⟩
 ·rintro i st hi ⟨env', G, ys, rfl, hG, hR, e0, e2, e3⟩
  have hly := hR.1
  obtain ⟨pi, a1, a2, a3⟩ := idx_k (t := tSeat) (E := eSeat) (b := b) (c := some c) (off := off) (n := n) (i := i) (m := xs.length) (by omega) hon
  obtain ⟨pj, b1, b2, b3⟩ := idx_k (t := tSeat) (E := eSeat) (b := b) (c := some c) (off := off) (n := n) (i := n - 1 - i) (m := xs.length) (by omega) hon
  obtain ⟨za, hza⟩ : ∃ z, ys[off + i]? = some z := ⟨_, List.getElem?_eq_getElem (by omega)⟩
  obtain ⟨zb, hzb⟩ : ∃ z, ys[off + (n - 1 - i)]? = some z := ⟨_, List.getElem?_eq_getElem (by omega)⟩
  have hGb : G[b]? = some ⟨.node (ys.map eSeat), 0, .own⟩ := by rw [hG, List.getElem?_set_self hlt]
  have l1 := a2 G ys hGb hly za hza
  have l2 := b2 G ys hGb hly zb hzb
  have s1 := a3 G ys zb hGb hly (by simp)
  obtain ⟨G1, h1⟩ : ∃ G1, G1 = G.set b ⟨.node ((ys.set (off + i) zb).map eSeat), 0, .own⟩ := ⟨_, rfl⟩
  rw [← h1] at s1
  have hGb1 : G1[b]? = some ⟨.node ((ys.set (off + i) zb).map eSeat), 0, .own⟩ := by rw [h1, List.getElem?_set_self (by rw [hG, List.length_set]; exact hlt)]
  have s2 := b3 G1 (ys.set (off + i) zb) za hGb1 (by simpa using hly) (by simp)
  obtain ⟨G2, h2⟩ : ∃ G2, G2 = G1.set b ⟨.node (((ys.set (off + i) zb).set (off + (n - 1 - i)) za).map eSeat), 0, .own⟩ := ⟨_, rfl⟩
  rw [← h2] at s2
  have hij : i < n - 1 - i := by omega
  have sb2 : mBin .sub (nat (n - 1 - i)) (nat 1) = some (nat (n - 1 - i - 1)) := nat_sub (by omega) (by omega)
  have ff := aI e0 (aI e2 (aI e3 (aI hij (aI a1 (aI b1 (aI l1 (aI l2 (aI s1 (aI s2 sb2)))))))))
  refine runRp6_0 (x := ?_)
  clear ff
  exact .inl ⟨by simp, _, G2, (ys.set (off + i) zb).set (off + (n - 1 - i)) za, rfl, by rw [h2, h1, hG, List.set_set, List.set_set], hR.step (by omega) hon hza hzb, by simp [e0], by simp, by rw [show n - 1 - (i + 1) = n - 1 - i - 1 by omega]; simp⟩
 ·rintro st ⟨env', G, ys, rfl, hG, hR, e0, e2, e3⟩
  have hij : ¬ n / 2 < n - 1 - n / 2 := by omega
  have ff := aI e0 (aI e2 (aI e3 hij))
  refine runRp6_0 (x := ?_)
  clear ff
  refine ⟨by simp, ?_⟩
  have ff := aI e0 (aI e2 (aI e3 hij))
  refine runRp6_0 (x := ?_)
  clear ff
  exact ⟨_, by rw [hG, hR.last hon]⟩
theorem c138 {H : Heap} {b off n c r : Nat} {A M1 M2 B : List Seat} (hb : H[b]? = some ⟨.node ((A ++ (M1 ++ M2) ++ B).map eSeat), 0, .own⟩) (ho : off = A.length) (hr : r = M1.length) (hn : n = M1.length + M2.length) (h1 : 0 < M1.length) (h2 : 0 < M2.length) (hl : off + n ≤ 2000) (hc : n ≤ c) : SpecQ Tryz.prog 138 [.slice b 0 [] tSeat off n (some c), nat r] H fun r => ∃ v, r = (v, H.set b ⟨.node ((A ++ (M2 ++ M1) ++ B).map eSeat), 0, .own⟩) := by
 have hlt := (List.getElem?_eq_some_iff.1 hb).1
 refine q138 fun env g0 g1 => ?_
 obtain ⟨y1, f1, k1⟩ : ∃ y, mSliceS tSeat (.slice b 0 [] tSeat off n (some c)) none (some (nat r)) none = some y ∧ y = .slice b 0 [] tSeat off r (some c) := ⟨_, sl_to (by omega), rfl⟩
 obtain ⟨y2, f2, k2⟩ : ∃ y, mSliceS tSeat (.slice b 0 [] tSeat off n (some c)) (some (nat r)) none none = some y ∧ y = .slice b 0 [] tSeat (off + r) (n - r) (some (c - r)) := ⟨_, sl_from (by omega), rfl⟩
 have ff := aI g0 (aI g1 f1)
 refine runRp6_1 (x := ?_)
 clear ff
 rw [k1]
 refine SpecQ.step (c142 (A := A) (M := M1) (B := M2 ++ B) (by simpa using hb) ho hr (by omega) (by omega)) ?_
 rintro _ ⟨v, rfl⟩
 obtain ⟨G1, q1⟩ : ∃ G1, G1 = H.set b ⟨.node ((A ++ M1.reverse ++ (M2 ++ B)).map eSeat), 0, .own⟩ := ⟨_, rfl⟩
 rw [← q1]
 have ff := aI g0 (aI g1 f2)
 refine runRp6_1 (x := ?_)
 clear ff
 rw [k2]
 refine SpecQ.step (c142 (A := A ++ M1.reverse) (M := M2) (B := B) (by rw [q1, List.getElem?_set_self hlt]; simp) (by simp; omega) (by omega) (by omega) (by omega)) ?_
 rintro _ ⟨v, rfl⟩
 obtain ⟨G2, q2⟩ : ∃ G2, G2 = G1.set b ⟨.node ((A ++ M1.reverse ++ M2.reverse ++ B).map eSeat), 0, .own⟩ := ⟨_, rfl⟩
 rw [← q2]
 have ff := aI g0 g1
 refine runRp6_1 (x := ?_)
 clear ff
 refine SpecQ.step (c142 (A := A) (M := M1.reverse ++ M2.reverse) (B := B) (by rw [q2, List.getElem?_set_self (by rw [q1, List.length_set]; exact hlt)]; simp) ho (by simp; omega) (by omega) (by omega)) ?_
 rintro _ ⟨v, rfl⟩
 obtain ⟨G3, q3⟩ : ∃ G3, G3 = G2.set b ⟨.node ((A ++ (M1.reverse ++ M2.reverse).reverse ++ B).map eSeat), 0, .own⟩ := ⟨_, rfl⟩
 rw [← q3]
 have ff := aI g0 g1
 refine runRp6_1 (x := ?_)
 clear ff
 refine ⟨_, Prod.ext rfl ?_⟩
 show G3 = _
 rw [q3, q2, q1, List.set_set, List.set_set]
 simp
theorem c133 {H : Heap} {b off n c : Nat} {A M B : List Seat} {e : Seat} (hb : H[b]? = some ⟨.node ((A ++ (M ++ [e]) ++ B).map eSeat), 0, .own⟩) (ho : off = A.length) (hn : n = M.length + 1) (h1 : 0 < M.length) (hl : off + n ≤ 2000) (hc : n ≤ c) : SpecQ Tryz.prog 133 [.slice b 0 [] tSeat off n (some c), nat 1] H fun r => ∃ v, r = (v, H.set b ⟨.node ((A ++ (e :: M) ++ B).map eSeat), 0, .own⟩) := by
 refine q133 fun env g0 g1 => ?_
 have lx : mLenS (.slice b 0 [] tSeat off n (some c)) = some (nat n) := rfl
 have sb : mBin .sub (nat n) (nat 1) = some (nat (n - 1)) := nat_sub (by omega) (by omega)
 have ff := aI g0 (aI g1 (aI lx sb))
 refine runRp6_2 (x := ?_)
 clear ff
 refine SpecQ.step (c138 (A := A) (M1 := M) (M2 := [e]) (B := B) hb ho (by omega) (by simp; omega) h1 (by simp) hl hc) ?_
 rintro _ ⟨v, rfl⟩
 obtain ⟨G3, q3⟩ : ∃ G3, G3 = H.set b ⟨.node ((A ++ ([e] ++ M) ++ B).map eSeat), 0, .own⟩ := ⟨_, rfl⟩
 rw [← q3]
 have ff := aI g0 g1
 refine runRp6_2 (x := ?_)
 clear ff
 refine ⟨_, Prod.ext rfl ?_⟩
 show G3 = _
 rw [q3]; rfl
theorem c124 {H : Heap} {b1 b2 o1 n1 c1 o2 n2 c2 : Nat} {v1 v2 r1 r2 y : AV} (hb1 : H[b1]? = some ⟨v1, 0, .own⟩) (hb2 : H[b2]? = some ⟨v2, 0, .own⟩) (hne : b1 ≠ b2) (hy : y = .slice b2 0 [] tInvite o2 n2 (some c2))
  (e1 : mElems tInvite (.slice b1 0 [] tInvite o1 n1 (some c1)) H = some r1) (e2 : mElems tInvite (.slice b2 0 [] tInvite o2 n2 (some c2)) H = some r2) (h1 : n1 ≠ 0) (h2 : n2 ≠ 0) : SpecQ Tryz.prog 124 [.slice b1 0 [] tInvite o1 n1 (some c1), y] H fun r => ∃ v, r = (.bool v, H) := by
 subst hy
 exact ovl_spec TT_ok (fn := Tryz.f124) (by kernel_rfl) (by kernel_rfl) (by kernel_rfl) (by rfl) (tS := 33) (tR := 4) (e := 82) (by kernel_rfl) (i := ⟨.cell, 24, .nilslice, some 82, none, false, none, false⟩) rfl rfl rfl hb1 hb2 hne e1 e2 h1 h2 (by simp)
theorem c139 {H : Heap} {b off n c : Nat} {A M B : List Inv} (hb : H[b]? = some ⟨.node ((A ++ M ++ B).map eInv), 0, .own⟩) (ho : off = A.length) (hM : n = M.length) (h0 : 0 < n) (hl : off + n ≤ 2000) : SpecQ Tryz.prog 139 [.slice b 0 [] tInvite off n (some c)] H fun r => ∃ v, r = (v, H.set b ⟨.node ((A ++ M.reverse ++ B).map eInv), 0, .own⟩) := by
 have e1 : A ++ M.reverse ++ B = revAt off n (A ++ M ++ B) := by rw [ho, hM, revAt_mid]
 rw [e1]
 have hon : off + n ≤ (A ++ M ++ B).length := by simp; omega
 generalize A ++ M ++ B = xs at hb hon
 refine q139 fun env g0 => ?_
 have lx : mLenS (.slice b 0 [] tInvite off n (some c)) = some (nat n) := rfl
 have sb : mBin .sub (nat n) (nat 1) = some (nat (n - 1)) := nat_sub (by omega) (by omega)
 have ff := aI g0 (aI lx sb)
 refine runRp6_3 (x := ?_)
 clear ff
 have hlt := (List.getElem?_eq_some_iff.1 hb).1
 refine loop_up (n / 2) (fun i st => ∃ env' G ys, st = ⟨env', G⟩ ∧ G = H.set b ⟨.node (ys.map eInv), 0, .own⟩ ∧ RevI off n i xs ys ∧ env'.get 0 = .slice b 0 [] tInvite off n (some c) ∧ env'.get 2 = nat i ∧ env'.get 3 = nat (n - 1 - i)) ?_ ?_ ⟨_, _, xs, rfl, (set_self hb).symm, RevI.zero _ _ _, by simp [g0], by simp, by simp⟩
 ·rintro i st hi ⟨env', G, ys, rfl, hG, hR, e0, e2, e3⟩
  have hly := hR.1
  obtain ⟨pi, a1, a2, a3⟩ := idx_k (t := tInvite) (E := eInv) (b := b) (c := some c) (off := off) (n := n) (i := i) (m := xs.length) (by omega) hon
  obtain ⟨pj, b1, b2, b3⟩ := idx_k (t := tInvite) (E := eInv) (b := b) (c := some c) (off := off) (n := n) (i := n - 1 - i) (m := xs.length) (by omega) hon
  obtain ⟨za, hza⟩ : ∃ z, ys[off + i]? = some z := ⟨_, List.getElem?_eq_getElem (by omega)⟩
  obtain ⟨zb, hzb⟩ : ∃ z, ys[off + (n - 1 - i)]? = some z := ⟨_, List.getElem?_eq_getElem (by omega)⟩
  have hGb : G[b]? = some ⟨.node (ys.map eInv), 0, .own⟩ := by rw [hG, List.getElem?_set_self hlt]
  have l1 := a2 G ys hGb hly za hza
  have l2 := b2 G ys hGb hly zb hzb
  have s1 := a3 G ys zb hGb hly (by simp)
  obtain ⟨G1, h1⟩ : ∃ G1, G1 = G.set b ⟨.node ((ys.set (off + i) zb).map eInv), 0, .own⟩ := ⟨_, rfl⟩
  rw [← h1] at s1
  have hGb1 : G1[b]? = some ⟨.node ((ys.set (off + i) zb).map eInv), 0, .own⟩ := by rw [h1, List.getElem?_set_self (by rw [hG, List.length_set]; exact hlt)]
  have s2 := b3 G1 (ys.set (off + i) zb) za hGb1 (by simpa using hly) (by simp)
  obtain ⟨G2, h2⟩ : ∃ G2, G2 = G1.set b ⟨.node (((ys.set (off + i) zb).set (off + (n - 1 - i)) za).map eInv), 0, .own⟩ := ⟨_, rfl⟩
  rw [← h2] at s2
  have hij : i < n - 1 - i := by omega
  have sb2 : mBin .sub (nat (n - 1 - i)) (nat 1) = some (nat (n - 1 - i - 1)) := nat_sub (by omega) (by omega)
  have ff := aI e0 (aI e2 (aI e3 (aI hij (aI a1 (aI b1 (aI l1 (aI l2 (aI s1 (aI s2 sb2)))))))))
  refine runRp6_3 (x := ?_)
  clear ff
  exact .inl ⟨by simp, _, G2, (ys.set (off + i) zb).set (off + (n - 1 - i)) za, rfl, by rw [h2, h1, hG, List.set_set, List.set_set], hR.step (by omega) hon hza hzb, by simp [e0], by simp, by rw [show n - 1 - (i + 1) = n - 1 - i - 1 by omega]; simp⟩
 ·rintro st ⟨env', G, ys, rfl, hG, hR, e0, e2, e3⟩
  have hij : ¬ n / 2 < n - 1 - n / 2 := by omega
  have ff := aI e0 (aI e2 (aI e3 hij))
  refine runRp6_3 (x := ?_)
  clear ff
  refine ⟨by simp, ?_⟩
  have ff := aI e0 (aI e2 (aI e3 hij))
  refine runRp6_3 (x := ?_)
  clear ff
  exact ⟨_, by rw [hG, hR.last hon]⟩
theorem c134 {H : Heap} {b off n c r : Nat} {A M1 M2 B : List Inv} (hb : H[b]? = some ⟨.node ((A ++ (M1 ++ M2) ++ B).map eInv), 0, .own⟩) (ho : off = A.length) (hr : r = M1.length) (hn : n = M1.length + M2.length) (h1 : 0 < M1.length) (h2 : 0 < M2.length) (hl : off + n ≤ 2000) (hc : n ≤ c) : SpecQ Tryz.prog 134 [.slice b 0 [] tInvite off n (some c), nat r] H fun r => ∃ v, r = (v, H.set b ⟨.node ((A ++ (M2 ++ M1) ++ B).map eInv), 0, .own⟩) := by
 have hlt := (List.getElem?_eq_some_iff.1 hb).1
 refine q134 fun env g0 g1 => ?_
 obtain ⟨y1, f1, k1⟩ : ∃ y, mSliceS tInvite (.slice b 0 [] tInvite off n (some c)) none (some (nat r)) none = some y ∧ y = .slice b 0 [] tInvite off r (some c) := ⟨_, sl_to (by omega), rfl⟩
 obtain ⟨y2, f2, k2⟩ : ∃ y, mSliceS tInvite (.slice b 0 [] tInvite off n (some c)) (some (nat r)) none none = some y ∧ y = .slice b 0 [] tInvite (off + r) (n - r) (some (c - r)) := ⟨_, sl_from (by omega), rfl⟩
 have ff := aI g0 (aI g1 f1)
 refine runRp6_4 (x := ?_)
 clear ff
 rw [k1]
 refine SpecQ.step (c139 (A := A) (M := M1) (B := M2 ++ B) (by simpa using hb) ho hr (by omega) (by omega)) ?_
 rintro _ ⟨v, rfl⟩
 obtain ⟨G1, q1⟩ : ∃ G1, G1 = H.set b ⟨.node ((A ++ M1.reverse ++ (M2 ++ B)).map eInv), 0, .own⟩ := ⟨_, rfl⟩
 rw [← q1]
 have ff := aI g0 (aI g1 f2)
 refine runRp6_4 (x := ?_)
 clear ff
 rw [k2]
 refine SpecQ.step (c139 (A := A ++ M1.reverse) (M := M2) (B := B) (by rw [q1, List.getElem?_set_self hlt]; simp) (by simp; omega) (by omega) (by omega) (by omega)) ?_
 rintro _ ⟨v, rfl⟩
 obtain ⟨G2, q2⟩ : ∃ G2, G2 = G1.set b ⟨.node ((A ++ M1.reverse ++ M2.reverse ++ B).map eInv), 0, .own⟩ := ⟨_, rfl⟩
 rw [← q2]
 have ff := aI g0 g1
 refine runRp6_4 (x := ?_)
 clear ff
 refine SpecQ.step (c139 (A := A) (M := M1.reverse ++ M2.reverse) (B := B) (by rw [q2, List.getElem?_set_self (by rw [q1, List.length_set]; exact hlt)]; simp) ho (by simp; omega) (by omega) (by omega)) ?_
 rintro _ ⟨v, rfl⟩
 obtain ⟨G3, q3⟩ : ∃ G3, G3 = G2.set b ⟨.node ((A ++ (M1.reverse ++ M2.reverse).reverse ++ B).map eInv), 0, .own⟩ := ⟨_, rfl⟩
 rw [← q3]
 have ff := aI g0 g1
 refine runRp6_4 (x := ?_)
 clear ff
 refine ⟨_, Prod.ext rfl ?_⟩
 show G3 = _
 rw [q3, q2, q1, List.set_set, List.set_set]
 simp
theorem c125 {H : Heap} {b off n c : Nat} {A M B : List Inv} {e : Inv} (hb : H[b]? = some ⟨.node ((A ++ (M ++ [e]) ++ B).map eInv), 0, .own⟩) (ho : off = A.length) (hn : n = M.length + 1) (h1 : 0 < M.length) (hl : off + n ≤ 2000) (hc : n ≤ c) : SpecQ Tryz.prog 125 [.slice b 0 [] tInvite off n (some c), nat 1] H fun r => ∃ v, r = (v, H.set b ⟨.node ((A ++ (e :: M) ++ B).map eInv), 0, .own⟩) := by
 refine q125 fun env g0 g1 => ?_
 have lx : mLenS (.slice b 0 [] tInvite off n (some c)) = some (nat n) := rfl
 have sb : mBin .sub (nat n) (nat 1) = some (nat (n - 1)) := nat_sub (by omega) (by omega)
 have ff := aI g0 (aI g1 (aI lx sb))
 refine runRp6_5 (x := ?_)
 clear ff
 refine SpecQ.step (c134 (A := A) (M1 := M) (M2 := [e]) (B := B) hb ho (by omega) (by simp; omega) h1 (by simp) hl hc) ?_
 rintro _ ⟨v, rfl⟩
 obtain ⟨G3, q3⟩ : ∃ G3, G3 = H.set b ⟨.node ((A ++ ([e] ++ M) ++ B).map eInv), 0, .own⟩ := ⟨_, rfl⟩
 rw [← q3]
 have ff := aI g0 g1
 refine runRp6_5 (x := ?_)
 clear ff
 refine ⟨_, Prod.ext rfl ?_⟩
 show G3 = _
 rw [q3]; rfl
theorem c126 {H : Heap} {b1 b2 o1 n1 c1 o2 n2 c2 : Nat} {v1 v2 r1 r2 y : AV} (hb1 : H[b1]? = some ⟨v1, 0, .own⟩) (hb2 : H[b2]? = some ⟨v2, 0, .own⟩) (hne : b1 ≠ b2) (hy : y = .slice b2 0 [] tAsk o2 n2 (some c2))
  (e1 : mElems tAsk (.slice b1 0 [] tAsk o1 n1 (some c1)) H = some r1) (e2 : mElems tAsk (.slice b2 0 [] tAsk o2 n2 (some c2)) H = some r2) (h1 : n1 ≠ 0) (h2 : n2 ≠ 0) : SpecQ Tryz.prog 126 [.slice b1 0 [] tAsk o1 n1 (some c1), y] H fun r => ∃ v, r = (.bool v, H) := by
 subst hy
 exact ovl_spec TT_ok (fn := Tryz.f126) (by kernel_rfl) (by kernel_rfl) (by kernel_rfl) (by rfl) (tS := 34) (tR := 4) (e := 84) (by kernel_rfl) (i := ⟨.cell, 24, .nilslice, some 84, none, false, none, false⟩) rfl rfl rfl hb1 hb2 hne e1 e2 h1 h2 (by simp)
theorem c140 {H : Heap} {b off n c : Nat} {A M B : List Ask} (hb : H[b]? = some ⟨.node ((A ++ M ++ B).map eAsk), 0, .own⟩) (ho : off = A.length) (hM : n = M.length) (h0 : 0 < n) (hl : off + n ≤ 2000) : SpecQ Tryz.prog 140 [.slice b 0 [] tAsk off n (some c)] H fun r => ∃ v, r = (v, H.set b ⟨.node ((A ++ M.reverse ++ B).map eAsk), 0, .own⟩) := by
 have e1 : A ++ M.reverse ++ B = revAt off n (A ++ M ++ B) := by rw [ho, hM, revAt_mid]
 rw [e1]
 have hon : off + n ≤ (A ++ M ++ B).length := by simp; omega
 generalize A ++ M ++ B = xs at hb hon
 refine q140 fun env g0 => ?_
 have lx : mLenS (.slice b 0 [] tAsk off n (some c)) = some (nat n) := rfl
 have sb : mBin .sub (nat n) (nat 1) = some (nat (n - 1)) := nat_sub (by omega) (by omega)
 have ff := aI g0 (aI lx sb)
 refine runRp6_6 (x := ?_)
 clear ff
 have hlt := (List.getElem?_eq_some_iff.1 hb).1
 refine loop_up (n / 2) (fun i st => ∃ env' G ys, st = ⟨env', G⟩ ∧ G = H.set b ⟨.node (ys.map eAsk), 0, .own⟩ ∧ RevI off n i xs ys ∧ env'.get 0 = .slice b 0 [] tAsk off n (some c) ∧ env'.get 2 = nat i ∧ env'.get 3 = nat (n - 1 - i)) ?_ ?_ ⟨_, _, xs, rfl, (set_self hb).symm, RevI.zero _ _ _, by simp [g0], by simp, by simp⟩
 ·rintro i st hi ⟨env', G, ys, rfl, hG, hR, e0, e2, e3⟩
  have hly := hR.1
  obtain ⟨pi, a1, a2, a3⟩ := idx_k (t := tAsk) (E := eAsk) (b := b) (c := some c) (off := off) (n := n) (i := i) (m := xs.length) (by omega) hon
  obtain ⟨pj, b1, b2, b3⟩ := idx_k (t := tAsk) (E := eAsk) (b := b) (c := some c) (off := off) (n := n) (i := n - 1 - i) (m := xs.length) (by omega) hon
  obtain ⟨za, hza⟩ : ∃ z, ys[off + i]? = some z := ⟨_, List.getElem?_eq_getElem (by omega)⟩
  obtain ⟨zb, hzb⟩ : ∃ z, ys[off + (n - 1 - i)]? = some z := ⟨_, List.getElem?_eq_getElem (by omega)⟩
  have hGb : G[b]? = some ⟨.node (ys.map eAsk), 0, .own⟩ := by rw [hG, List.getElem?_set_self hlt]
  have l1 := a2 G ys hGb hly za hza
  have l2 := b2 G ys hGb hly zb hzb
  have s1 := a3 G ys zb hGb hly (by simp)
  obtain ⟨G1, h1⟩ : ∃ G1, G1 = G.set b ⟨.node ((ys.set (off + i) zb).map eAsk), 0, .own⟩ := ⟨_, rfl⟩
  rw [← h1] at s1
  have hGb1 : G1[b]? = some ⟨.node ((ys.set (off + i) zb).map eAsk), 0, .own⟩ := by rw [h1, List.getElem?_set_self (by rw [hG, List.length_set]; exact hlt)]
  have s2 := b3 G1 (ys.set (off + i) zb) za hGb1 (by simpa using hly) (by simp)
  obtain ⟨G2, h2⟩ : ∃ G2, G2 = G1.set b ⟨.node (((ys.set (off + i) zb).set (off + (n - 1 - i)) za).map eAsk), 0, .own⟩ := ⟨_, rfl⟩
  rw [← h2] at s2
  have hij : i < n - 1 - i := by omega
  have sb2 : mBin .sub (nat (n - 1 - i)) (nat 1) = some (nat (n - 1 - i - 1)) := nat_sub (by omega) (by omega)
  have ff := aI e0 (aI e2 (aI e3 (aI hij (aI a1 (aI b1 (aI l1 (aI l2 (aI s1 (aI s2 sb2)))))))))
  refine runRp6_6 (x := ?_)
  clear ff
  exact .inl ⟨by simp, _, G2, (ys.set (off + i) zb).set (off + (n - 1 - i)) za, rfl, by rw [h2, h1, hG, List.set_set, List.set_set], hR.step (by omega) hon hza hzb, by simp [e0], by simp, by rw [show n - 1 - (i + 1) = n - 1 - i - 1 by omega]; simp⟩
 ·rintro st ⟨env', G, ys, rfl, hG, hR, e0, e2, e3⟩
  have hij : ¬ n / 2 < n - 1 - n / 2 := by omega
  have ff := aI e0 (aI e2 (aI e3 hij))
  refine runRp6_6 (x := ?_)
  clear ff
  refine ⟨by simp, ?_⟩
  have ff := aI e0 (aI e2 (aI e3 hij))
  refine runRp6_6 (x := ?_)
  clear ff
  exact ⟨_, by rw [hG, hR.last hon]⟩
theorem c135 {H : Heap} {b off n c r : Nat} {A M1 M2 B : List Ask} (hb : H[b]? = some ⟨.node ((A ++ (M1 ++ M2) ++ B).map eAsk), 0, .own⟩) (ho : off = A.length) (hr : r = M1.length) (hn : n = M1.length + M2.length) (h1 : 0 < M1.length) (h2 : 0 < M2.length) (hl : off + n ≤ 2000) (hc : n ≤ c) : SpecQ Tryz.prog 135 [.slice b 0 [] tAsk off n (some c), nat r] H fun r => ∃ v, r = (v, H.set b ⟨.node ((A ++ (M2 ++ M1) ++ B).map eAsk), 0, .own⟩) := by
 have hlt := (List.getElem?_eq_some_iff.1 hb).1
 refine q135 fun env g0 g1 => ?_
 obtain ⟨y1, f1, k1⟩ : ∃ y, mSliceS tAsk (.slice b 0 [] tAsk off n (some c)) none (some (nat r)) none = some y ∧ y = .slice b 0 [] tAsk off r (some c) := ⟨_, sl_to (by omega), rfl⟩
 obtain ⟨y2, f2, k2⟩ : ∃ y, mSliceS tAsk (.slice b 0 [] tAsk off n (some c)) (some (nat r)) none none = some y ∧ y = .slice b 0 [] tAsk (off + r) (n - r) (some (c - r)) := ⟨_, sl_from (by omega), rfl⟩
 have ff := aI g0 (aI g1 f1)
 refine runRp6_7 (x := ?_)
 clear ff
 rw [k1]
 refine SpecQ.step (c140 (A := A) (M := M1) (B := M2 ++ B) (by simpa using hb) ho hr (by omega) (by omega)) ?_
 rintro _ ⟨v, rfl⟩
 obtain ⟨G1, q1⟩ : ∃ G1, G1 = H.set b ⟨.node ((A ++ M1.reverse ++ (M2 ++ B)).map eAsk), 0, .own⟩ := ⟨_, rfl⟩
 rw [← q1]
 have ff := aI g0 (aI g1 f2)
 refine runRp6_7 (x := ?_)
 clear ff
 rw [k2]
 refine SpecQ.step (c140 (A := A ++ M1.reverse) (M := M2) (B := B) (by rw [q1, List.getElem?_set_self hlt]; simp) (by simp; omega) (by omega) (by omega) (by omega)) ?_
 rintro _ ⟨v, rfl⟩
 obtain ⟨G2, q2⟩ : ∃ G2, G2 = G1.set b ⟨.node ((A ++ M1.reverse ++ M2.reverse ++ B).map eAsk), 0, .own⟩ := ⟨_, rfl⟩
 rw [← q2]
 have ff := aI g0 g1
 refine runRp6_7 (x := ?_)
 clear ff
 refine SpecQ.step (c140 (A := A) (M := M1.reverse ++ M2.reverse) (B := B) (by rw [q2, List.getElem?_set_self (by rw [q1, List.length_set]; exact hlt)]; simp) ho (by simp; omega) (by omega) (by omega)) ?_
 rintro _ ⟨v, rfl⟩
 obtain ⟨G3, q3⟩ : ∃ G3, G3 = G2.set b ⟨.node ((A ++ (M1.reverse ++ M2.reverse).reverse ++ B).map eAsk), 0, .own⟩ := ⟨_, rfl⟩
 rw [← q3]
 have ff := aI g0 g1
 refine runRp6_7 (x := ?_)
 clear ff
 refine ⟨_, Prod.ext rfl ?_⟩
 show G3 = _
 rw [q3, q2, q1, List.set_set, List.set_set]
 simp
theorem c127 {H : Heap} {b off n c : Nat} {A M B : List Ask} {e : Ask} (hb : H[b]? = some ⟨.node ((A ++ (M ++ [e]) ++ B).map eAsk), 0, .own⟩) (ho : off = A.length) (hn : n = M.length + 1) (h1 : 0 < M.length) (hl : off + n ≤ 2000) (hc : n ≤ c) : SpecQ Tryz.prog 127 [.slice b 0 [] tAsk off n (some c), nat 1] H fun r => ∃ v, r = (v, H.set b ⟨.node ((A ++ (e :: M) ++ B).map eAsk), 0, .own⟩) := by
 refine q127 fun env g0 g1 => ?_
 have lx : mLenS (.slice b 0 [] tAsk off n (some c)) = some (nat n) := rfl
 have sb : mBin .sub (nat n) (nat 1) = some (nat (n - 1)) := nat_sub (by omega) (by omega)
 have ff := aI g0 (aI g1 (aI lx sb))
 refine runRp6_8 (x := ?_)
 clear ff
 refine SpecQ.step (c135 (A := A) (M1 := M) (M2 := [e]) (B := B) hb ho (by omega) (by simp; omega) h1 (by simp) hl hc) ?_
 rintro _ ⟨v, rfl⟩
 obtain ⟨G3, q3⟩ : ∃ G3, G3 = H.set b ⟨.node ((A ++ ([e] ++ M) ++ B).map eAsk), 0, .own⟩ := ⟨_, rfl⟩
 rw [← q3]
 have ff := aI g0 g1
 refine runRp6_8 (x := ?_)
 clear ff
 refine ⟨_, Prod.ext rfl ?_⟩
 show G3 = _
 rw [q3]; rfl
theorem c136 {H : Heap} {b1 b2 o1 n1 c1 o2 n2 c2 : Nat} {v1 v2 r1 r2 y : AV} (hb1 : H[b1]? = some ⟨v1, 0, .own⟩) (hb2 : H[b2]? = some ⟨v2, 0, .own⟩) (hne : b1 ≠ b2) (hy : y = .slice b2 0 [] tBan o2 n2 (some c2))
  (e1 : mElems tBan (.slice b1 0 [] tBan o1 n1 (some c1)) H = some r1) (e2 : mElems tBan (.slice b2 0 [] tBan o2 n2 (some c2)) H = some r2) (h1 : n1 ≠ 0) (h2 : n2 ≠ 0) : SpecQ Tryz.prog 136 [.slice b1 0 [] tBan o1 n1 (some c1), y] H fun r => ∃ v, r = (.bool v, H) := by
 subst hy
 exact ovl_spec TT_ok (fn := Tryz.f136) (by kernel_rfl) (by kernel_rfl) (by kernel_rfl) (by rfl) (tS := 35) (tR := 4) (e := 86) (by kernel_rfl) (i := ⟨.cell, 24, .nilslice, some 86, none, false, none, false⟩) rfl rfl rfl hb1 hb2 hne e1 e2 h1 h2 (by simp)
theorem c143 {H : Heap} {b off n c : Nat} {A M B : List Ban} (hb : H[b]? = some ⟨.node ((A ++ M ++ B).map eBan), 0, .own⟩) (ho : off = A.length) (hM : n = M.length) (h0 : 0 < n) (hl : off + n ≤ 2000) : SpecQ Tryz.prog 143 [.slice b 0 [] tBan off n (some c)] H fun r => ∃ v, r = (v, H.set b ⟨.node ((A ++ M.reverse ++ B).map eBan), 0, .own⟩) := by
 have e1 : A ++ M.reverse ++ B = revAt off n (A ++ M ++ B) := by rw [ho, hM, revAt_mid]
 rw [e1]
 have hon : off + n ≤ (A ++ M ++ B).length := by simp; omega
 generalize A ++ M ++ B = xs at hb hon
 refine q143 fun env g0 => ?_
 have lx : mLenS (.slice b 0 [] tBan off n (some c)) = some (nat n) := rfl
 have sb : mBin .sub (nat n) (nat 1) = some (nat (n - 1)) := nat_sub (by omega) (by omega)
 have ff := aI g0 (aI lx sb)
 refine runRp6_9 (x := ?_)
 clear ff
 have hlt := (List.getElem?_eq_some_iff.1 hb).1
 refine loop_up (n / 2) (fun i st => ∃ env' G ys, st = ⟨env', G⟩ ∧ G = H.set b ⟨.node (ys.map eBan), 0, .own⟩ ∧ RevI off n i xs ys ∧ env'.get 0 = .slice b 0 [] tBan off n (some c) ∧ env'.get 2 = nat i ∧ env'.get 3 = nat (n - 1 - i)) ?_ ?_ ⟨_, _, xs, rfl, (set_self hb).symm, RevI.zero _ _ _, by simp [g0], by simp, by simp⟩
 ·rintro i st hi ⟨env', G, ys, rfl, hG, hR, e0, e2, e3⟩
  have hly := hR.1
  obtain ⟨pi, a1, a2, a3⟩ := idx_k (t := tBan) (E := eBan) (b := b) (c := some c) (off := off) (n := n) (i := i) (m := xs.length) (by omega) hon
  obtain ⟨pj, b1, b2, b3⟩ := idx_k (t := tBan) (E := eBan) (b := b) (c := some c) (off := off) (n := n) (i := n - 1 - i) (m := xs.length) (by omega) hon
  obtain ⟨za, hza⟩ : ∃ z, ys[off + i]? = some z := ⟨_, List.getElem?_eq_getElem (by omega)⟩
  obtain ⟨zb, hzb⟩ : ∃ z, ys[off + (n - 1 - i)]? = some z := ⟨_, List.getElem?_eq_getElem (by omega)⟩
  have hGb : G[b]? = some ⟨.node (ys.map eBan), 0, .own⟩ := by rw [hG, List.getElem?_set_self hlt]
  have l1 := a2 G ys hGb hly za hza
  have l2 := b2 G ys hGb hly zb hzb
  have s1 := a3 G ys zb hGb hly (by simp)
  obtain ⟨G1, h1⟩ : ∃ G1, G1 = G.set b ⟨.node ((ys.set (off + i) zb).map eBan), 0, .own⟩ := ⟨_, rfl⟩
  rw [← h1] at s1
  have hGb1 : G1[b]? = some ⟨.node ((ys.set (off + i) zb).map eBan), 0, .own⟩ := by rw [h1, List.getElem?_set_self (by rw [hG, List.length_set]; exact hlt)]
  have s2 := b3 G1 (ys.set (off + i) zb) za hGb1 (by simpa using hly) (by simp)
  obtain ⟨G2, h2⟩ : ∃ G2, G2 = G1.set b ⟨.node (((ys.set (off + i) zb).set (off + (n - 1 - i)) za).map eBan), 0, .own⟩ := ⟨_, rfl⟩
  rw [← h2] at s2
  have hij : i < n - 1 - i := by omega
  have sb2 : mBin .sub (nat (n - 1 - i)) (nat 1) = some (nat (n - 1 - i - 1)) := nat_sub (by omega) (by omega)
  have ff := aI e0 (aI e2 (aI e3 (aI hij (aI a1 (aI b1 (aI l1 (aI l2 (aI s1 (aI s2 sb2)))))))))
  refine runRp6_9 (x := ?_)
  clear ff
  exact .inl ⟨by simp, _, G2, (ys.set (off + i) zb).set (off + (n - 1 - i)) za, rfl, by rw [h2, h1, hG, List.set_set, List.set_set], hR.step (by omega) hon hza hzb, by simp [e0], by simp, by rw [show n - 1 - (i + 1) = n - 1 - i - 1 by omega]; simp⟩
 ·rintro st ⟨env', G, ys, rfl, hG, hR, e0, e2, e3⟩
  have hij : ¬ n / 2 < n - 1 - n / 2 := by omega
  have ff := aI e0 (aI e2 (aI e3 hij))
  refine runRp6_9 (x := ?_)
  clear ff
  refine ⟨by simp, ?_⟩
  have ff := aI e0 (aI e2 (aI e3 hij))
  refine runRp6_9 (x := ?_)
  clear ff
  exact ⟨_, by rw [hG, hR.last hon]⟩
theorem c141 {H : Heap} {b off n c r : Nat} {A M1 M2 B : List Ban} (hb : H[b]? = some ⟨.node ((A ++ (M1 ++ M2) ++ B).map eBan), 0, .own⟩) (ho : off = A.length) (hr : r = M1.length) (hn : n = M1.length + M2.length) (h1 : 0 < M1.length) (h2 : 0 < M2.length) (hl : off + n ≤ 2000) (hc : n ≤ c) : SpecQ Tryz.prog 141 [.slice b 0 [] tBan off n (some c), nat r] H fun r => ∃ v, r = (v, H.set b ⟨.node ((A ++ (M2 ++ M1) ++ B).map eBan), 0, .own⟩) := by
 have hlt := (List.getElem?_eq_some_iff.1 hb).1
 refine q141 fun env g0 g1 => ?_
 obtain ⟨y1, f1, k1⟩ : ∃ y, mSliceS tBan (.slice b 0 [] tBan off n (some c)) none (some (nat r)) none = some y ∧ y = .slice b 0 [] tBan off r (some c) := ⟨_, sl_to (by omega), rfl⟩
 obtain ⟨y2, f2, k2⟩ : ∃ y, mSliceS tBan (.slice b 0 [] tBan off n (some c)) (some (nat r)) none none = some y ∧ y = .slice b 0 [] tBan (off + r) (n - r) (some (c - r)) := ⟨_, sl_from (by omega), rfl⟩
 have ff := aI g0 (aI g1 f1)
 refine runRp6_10 (x := ?_)
 clear ff
 rw [k1]
 refine SpecQ.step (c143 (A := A) (M := M1) (B := M2 ++ B) (by simpa using hb) ho hr (by omega) (by omega)) ?_
 rintro _ ⟨v, rfl⟩
 obtain ⟨G1, q1⟩ : ∃ G1, G1 = H.set b ⟨.node ((A ++ M1.reverse ++ (M2 ++ B)).map eBan), 0, .own⟩ := ⟨_, rfl⟩
 rw [← q1]
 have ff := aI g0 (aI g1 f2)
 refine runRp6_10 (x := ?_)
 clear ff
 rw [k2]
 refine SpecQ.step (c143 (A := A ++ M1.reverse) (M := M2) (B := B) (by rw [q1, List.getElem?_set_self hlt]; simp) (by simp; omega) (by omega) (by omega) (by omega)) ?_
 rintro _ ⟨v, rfl⟩
 obtain ⟨G2, q2⟩ : ∃ G2, G2 = G1.set b ⟨.node ((A ++ M1.reverse ++ M2.reverse ++ B).map eBan), 0, .own⟩ := ⟨_, rfl⟩
 rw [← q2]
 have ff := aI g0 g1
 refine runRp6_10 (x := ?_)
 clear ff
 refine SpecQ.step (c143 (A := A) (M := M1.reverse ++ M2.reverse) (B := B) (by rw [q2, List.getElem?_set_self (by rw [q1, List.length_set]; exact hlt)]; simp) ho (by simp; omega) (by omega) (by omega)) ?_
 rintro _ ⟨v, rfl⟩
 obtain ⟨G3, q3⟩ : ∃ G3, G3 = G2.set b ⟨.node ((A ++ (M1.reverse ++ M2.reverse).reverse ++ B).map eBan), 0, .own⟩ := ⟨_, rfl⟩
 rw [← q3]
 have ff := aI g0 g1
 refine runRp6_10 (x := ?_)
 clear ff
 refine ⟨_, Prod.ext rfl ?_⟩
 show G3 = _
 rw [q3, q2, q1, List.set_set, List.set_set]
 simp
theorem c137 {H : Heap} {b off n c : Nat} {A M B : List Ban} {e : Ban} (hb : H[b]? = some ⟨.node ((A ++ (M ++ [e]) ++ B).map eBan), 0, .own⟩) (ho : off = A.length) (hn : n = M.length + 1) (h1 : 0 < M.length) (hl : off + n ≤ 2000) (hc : n ≤ c) : SpecQ Tryz.prog 137 [.slice b 0 [] tBan off n (some c), nat 1] H fun r => ∃ v, r = (v, H.set b ⟨.node ((A ++ (e :: M) ++ B).map eBan), 0, .own⟩) := by
 refine q137 fun env g0 g1 => ?_
 have lx : mLenS (.slice b 0 [] tBan off n (some c)) = some (nat n) := rfl
 have sb : mBin .sub (nat n) (nat 1) = some (nat (n - 1)) := nat_sub (by omega) (by omega)
 have ff := aI g0 (aI g1 (aI lx sb))
 refine runRp6_11 (x := ?_)
 clear ff
 refine SpecQ.step (c141 (A := A) (M1 := M) (M2 := [e]) (B := B) hb ho (by omega) (by simp; omega) h1 (by simp) hl hc) ?_
 rintro _ ⟨v, rfl⟩
 obtain ⟨G3, q3⟩ : ∃ G3, G3 = H.set b ⟨.node ((A ++ ([e] ++ M) ++ B).map eBan), 0, .own⟩ := ⟨_, rfl⟩
 rw [← q3]
 have ff := aI g0 g1
 refine runRp6_11 (x := ?_)
 clear ff
 refine ⟨_, Prod.ext rfl ?_⟩
 show G3 = _
 rw [q3]; rfl
end Go.Vab

/- How the code of a function is read. Printed by wip/tools/gen2.py and gen3.py (own work). -/
namespace Go.Vab
open Go Go.Proofs
noncomputable section
def cx106 : Ctx := ⟨fun _ _ _ => none,TT,33,[8,9,10,11,12,13,14,15,17,18,19,20,21,22,23,24,25,26,27,28,29,30,31,32]⟩
def n106_0 := bodyOf Tryz.f106
def n106_1 := cR n106_0
def n106_2 := cR n106_1
def n106_3 := cL n106_2
def n106_4 := cR n106_3
def n106_5 := cL n106_4
def n106_6 := cR n106_5
def n106_7 := cR n106_4
def n106_8 := cR n106_2
def n106_9 := cR n106_8
def n106_10 := cR n106_9
def n106_11 := cR n106_10
def n106_12 := cR n106_11
def q106 := zQ3 cx106 106 Tryz.f106 n106_0 fun s => (bnd (some (s.env.get 6)) fun v => bnd (some []) fun vs => some (v :: vs))
set_option maxRecDepth 20000
set_option maxHeartbeats 4000000
def n106_9_w := zDr cx106 [n106_10,n106_9] [6,7] [0,0,3,0,0,24,63,127] [0,1,2,3,4,5] (.o 6 [] [] (.o 7 [] [] .f))
def sn106 := zAll cx106 [[n106_6],[n106_6,n106_5],[n106_7],[n106_5,n106_7,n106_4],[n106_4,n106_3],[n106_12],[n106_12,n106_11],[n106_11,n106_10],[n106_9,n106_8],[n106_3,n106_8,n106_2],[n106_2,n106_1],[n106_1,n106_0]]
end
end Go.Vab

/- How the code of a function is read. Printed by wip/tools/gen2.py and gen3.py (own work). -/
namespace Go.Vab
open Go Go.Proofs
noncomputable section
def cx100 : Ctx := ⟨fun _ _ _ => none,TT,33,[8,9,10,11,12,13,14,15,17,18,19,20,21,22,23,24,25,26,27,28,29,30,31,32]⟩
def n100_0 := bodyOf Tryz.f100
def n100_1 := cR n100_0
def n100_2 := cR n100_1
def n100_3 := cL n100_2
def n100_4 := cR n100_3
def n100_5 := cL n100_4
def n100_6 := cR n100_5
def n100_7 := cR n100_4
def n100_8 := cR n100_2
def n100_9 := cR n100_8
def n100_10 := cR n100_9
def n100_11 := cR n100_10
def n100_12 := cR n100_11
def q100 := zQ3 cx100 100 Tryz.f100 n100_0 fun s => (bnd (some (s.env.get 6)) fun v => bnd (some []) fun vs => some (v :: vs))
set_option maxRecDepth 20000
set_option maxHeartbeats 4000000
def n100_9_w := zDr cx100 [n100_10,n100_9] [6,7] [0,0,3,0,0,24,63,127] [0,1,2,3,4,5] (.o 6 [] [] (.o 7 [] [] .f))
def sn100 := zAll cx100 [[n100_6],[n100_6,n100_5],[n100_7],[n100_5,n100_7,n100_4],[n100_4,n100_3],[n100_12],[n100_12,n100_11],[n100_11,n100_10],[n100_9,n100_8],[n100_3,n100_8,n100_2],[n100_2,n100_1],[n100_1,n100_0]]
end
end Go.Vab

/- How the code of a function is read. Printed by wip/tools/gen2.py and gen3.py (own work). -/
namespace Go.Vab
open Go Go.Proofs
noncomputable section
def cx102 : Ctx := ⟨fun _ _ _ => none,TT,33,[8,9,10,11,12,13,14,15,17,18,19,20,21,22,23,24,25,26,27,28,29,30,31,32]⟩
def n102_0 := bodyOf Tryz.f102
def n102_1 := cR n102_0
def n102_2 := cR n102_1
def n102_3 := cL n102_2
def n102_4 := cR n102_3
def n102_5 := cL n102_4
def n102_6 := cR n102_5
def n102_7 := cR n102_4
def n102_8 := cR n102_2
def n102_9 := cR n102_8
def n102_10 := cR n102_9
def n102_11 := cR n102_10
def n102_12 := cR n102_11
def q102 := zQ3 cx102 102 Tryz.f102 n102_0 fun s => (bnd (some (s.env.get 6)) fun v => bnd (some []) fun vs => some (v :: vs))
set_option maxRecDepth 20000
set_option maxHeartbeats 4000000
def n102_9_w := zDr cx102 [n102_10,n102_9] [6,7] [0,0,3,0,0,24,63,127] [0,1,2,3,4,5] (.o 6 [] [] (.o 7 [] [] .f))
def sn102 := zAll cx102 [[n102_6],[n102_6,n102_5],[n102_7],[n102_5,n102_7,n102_4],[n102_4,n102_3],[n102_12],[n102_12,n102_11],[n102_11,n102_10],[n102_9,n102_8],[n102_3,n102_8,n102_2],[n102_2,n102_1],[n102_1,n102_0]]
end
end Go.Vab

/- How the code of a function is read. Printed by wip/tools/gen2.py and gen3.py (own work). -/
namespace Go.Vab
open Go Go.Proofs
noncomputable section
def cx128 : Ctx := ⟨fun _ _ _ => none,TT,33,[8,9,10,11,12,13,14,15,17,18,19,20,21,22,23,24,25,26,27,28,29,30,31,32]⟩
def n128_0 := bodyOf Tryz.f128
def n128_1 := cR n128_0
def n128_2 := cR n128_1
def n128_3 := cL n128_2
def n128_4 := cR n128_3
def n128_5 := cL n128_4
def n128_6 := cR n128_5
def n128_7 := cR n128_4
def n128_8 := cR n128_2
def n128_9 := cR n128_8
def n128_10 := cR n128_9
def n128_11 := cR n128_10
def n128_12 := cR n128_11
def q128 := zQ3 cx128 128 Tryz.f128 n128_0 fun s => (bnd (some (s.env.get 6)) fun v => bnd (some []) fun vs => some (v :: vs))
set_option maxRecDepth 20000
set_option maxHeartbeats 4000000
def n128_9_w := zDr cx128 [n128_10,n128_9] [6,7] [0,0,3,0,0,24,63,127] [0,1,2,3,4,5] (.o 6 [] [] (.o 7 [] [] .f))
def sn128 := zAll cx128 [[n128_6],[n128_6,n128_5],[n128_7],[n128_5,n128_7,n128_4],[n128_4,n128_3],[n128_12],[n128_12,n128_11],[n128_11,n128_10],[n128_9,n128_8],[n128_3,n128_8,n128_2],[n128_2,n128_1],[n128_1,n128_0]]
end
end Go.Vab

/- How the code of a function is read. Printed by wip/tools/gen2.py and gen3.py (own work). -/
namespace Go.Vab
open Go Go.Proofs
noncomputable section
def cx123 : Ctx := ⟨fun _ _ _ => none,TT,95,[10,11,12,13,14,15,17,18,19,20,21,23,24,25,26,27,28,29,30,32,33,34,35,36,37,38,39,40,41,42,43,44,45,46,47,48,49,50,51,52,53,54,55,56,57,58,59,60,61,62,63,64,65,66,67,69,70,71,72,73,74,75,76,77,78,79,80,81,82,83,84,85,86,87,88,89,90,91,92,93,94]⟩
def n123_0 := bodyOf Tryz.f123
def n123_1 := cR n123_0
def n123_2 := cR n123_1
def n123_3 := cR n123_2
def n123_4 := cL n123_3
def n123_5 := cR n123_4
def n123_6 := cL n123_5
def n123_7 := cR n123_6
def n123_8 := cR n123_5
def n123_9 := cR n123_3
def n123_10 := cR n123_9
def n123_11 := cL n123_10
def n123_12 := cR n123_11
def n123_13 := cL n123_12
def n123_14 := cR n123_13
def n123_15 := cR n123_12
def n123_16 := cR n123_10
def n123_17 := cL n123_16
def n123_18 := cR n123_17
def n123_19 := cL n123_18
def n123_20 := cR n123_19
def n123_21 := cR n123_20
def n123_22 := cR n123_21
def n123_23 := cR n123_22
def n123_24 := cR n123_18
def n123_25 := cR n123_16
def n123_26 := cR n123_25
def n123_27 := cL n123_26
def n123_28 := cR n123_27
def n123_29 := cL n123_28
def n123_30 := cR n123_29
def n123_31 := cR n123_30
def n123_32 := cR n123_31
def n123_33 := cR n123_28
def n123_34 := cR n123_26
def n123_35 := cR n123_34
def n123_36 := cR n123_35
def n123_37 := cR n123_36
def q123 := zQ3 cx123 123 Tryz.f123 n123_0 fun s => (bnd (some (s.env.get 6)) fun v => bnd (some []) fun vs => some (v :: vs))
set_option maxRecDepth 20000
set_option maxHeartbeats 4000000
def n123_21_w := zDr cx123 [n123_22,n123_21] [8] [0,0,0,6,15,0,0,96,255] [0,1,2,3,4,5,6,7] (.o 8 [] [] .f)
def n123_29_w := zDr cx123 [n123_30,n123_29] [8] [0,0,0,6,15,0,0,96,255] [0,1,2,3,4,5,6,7] (.o 8 [] [] .f)
def sn123 := zAll cx123 [[n123_7],[n123_7,n123_6],[n123_8],[n123_6,n123_8,n123_5],[n123_5,n123_4],[n123_14],[n123_14,n123_13],[n123_15],[n123_13,n123_15,n123_12],[n123_12,n123_11],[n123_23],[n123_23,n123_22],[n123_21,n123_20],[n123_20,n123_19],[n123_24],[n123_19,n123_24,n123_18],[n123_18,n123_17],[n123_32],[n123_32,n123_31],[n123_31,n123_30],[n123_33],[n123_29,n123_33,n123_28],[n123_28,n123_27],[n123_37],[n123_37,n123_36],[n123_36,n123_35],[n123_35,n123_34],[n123_27,n123_34,n123_26],[n123_26,n123_25],[n123_17,n123_25,n123_16],[n123_11,n123_16,n123_10],[n123_10,n123_9],[n123_4,n123_9,n123_3],[n123_3,n123_2],[n123_2,n123_1],[n123_1,n123_0]]
end
end Go.Vab

/- How the code of a function is read. Printed by wip/tools/gen2.py and gen3.py (own work). -/
namespace Go.Vab
open Go Go.Proofs
noncomputable section
def cx104 : Ctx := ⟨fun _ _ _ => none,TT,95,[10,11,12,13,14,15,17,18,19,20,21,23,24,25,26,27,28,29,30,32,33,34,35,36,37,38,39,40,41,42,43,44,45,46,47,48,49,50,51,52,53,54,55,56,57,58,59,60,61,62,63,64,65,66,67,69,70,71,72,73,74,75,76,77,78,79,80,81,82,83,84,85,86,87,88,89,90,91,92,93,94]⟩
def n104_0 := bodyOf Tryz.f104
def n104_1 := cR n104_0
def n104_2 := cR n104_1
def n104_3 := cR n104_2
def n104_4 := cL n104_3
def n104_5 := cR n104_4
def n104_6 := cL n104_5
def n104_7 := cR n104_6
def n104_8 := cR n104_5
def n104_9 := cR n104_3
def n104_10 := cR n104_9
def n104_11 := cL n104_10
def n104_12 := cR n104_11
def n104_13 := cL n104_12
def n104_14 := cR n104_13
def n104_15 := cR n104_12
def n104_16 := cR n104_10
def n104_17 := cL n104_16
def n104_18 := cR n104_17
def n104_19 := cL n104_18
def n104_20 := cR n104_19
def n104_21 := cR n104_20
def n104_22 := cR n104_21
def n104_23 := cR n104_22
def n104_24 := cR n104_18
def n104_25 := cR n104_16
def n104_26 := cR n104_25
def n104_27 := cL n104_26
def n104_28 := cR n104_27
def n104_29 := cL n104_28
def n104_30 := cR n104_29
def n104_31 := cR n104_30
def n104_32 := cR n104_31
def n104_33 := cR n104_28
def n104_34 := cR n104_26
def n104_35 := cR n104_34
def n104_36 := cR n104_35
def n104_37 := cR n104_36
def q104 := zQ3 cx104 104 Tryz.f104 n104_0 fun s => (bnd (some (s.env.get 6)) fun v => bnd (some []) fun vs => some (v :: vs))
set_option maxRecDepth 20000
set_option maxHeartbeats 4000000
def n104_21_w := zDr cx104 [n104_22,n104_21] [8] [0,0,0,6,15,0,0,96,255] [0,1,2,3,4,5,6,7] (.o 8 [] [] .f)
def n104_29_w := zDr cx104 [n104_30,n104_29] [8] [0,0,0,6,15,0,0,96,255] [0,1,2,3,4,5,6,7] (.o 8 [] [] .f)
def sn104 := zAll cx104 [[n104_7],[n104_7,n104_6],[n104_8],[n104_6,n104_8,n104_5],[n104_5,n104_4],[n104_14],[n104_14,n104_13],[n104_15],[n104_13,n104_15,n104_12],[n104_12,n104_11],[n104_23],[n104_23,n104_22],[n104_21,n104_20],[n104_20,n104_19],[n104_24],[n104_19,n104_24,n104_18],[n104_18,n104_17],[n104_32],[n104_32,n104_31],[n104_31,n104_30],[n104_33],[n104_29,n104_33,n104_28],[n104_28,n104_27],[n104_37],[n104_37,n104_36],[n104_36,n104_35],[n104_35,n104_34],[n104_27,n104_34,n104_26],[n104_26,n104_25],[n104_17,n104_25,n104_16],[n104_11,n104_16,n104_10],[n104_10,n104_9],[n104_4,n104_9,n104_3],[n104_3,n104_2],[n104_2,n104_1],[n104_1,n104_0]]
end
end Go.Vab

/- How the code of a function is read. Printed by wip/tools/gen2.py and gen3.py (own work). -/
namespace Go.Vab
open Go Go.Proofs
noncomputable section
def cx105 : Ctx := ⟨fun _ _ _ => none,TT,95,[10,11,12,13,14,15,17,18,19,20,21,23,24,25,26,27,28,29,30,32,33,34,35,36,37,38,39,40,41,42,43,44,45,46,47,48,49,50,51,52,53,54,55,56,57,58,59,60,61,62,63,64,65,66,67,69,70,71,72,73,74,75,76,77,78,79,80,81,82,83,84,85,86,87,88,89,90,91,92,93,94]⟩
def n105_0 := bodyOf Tryz.f105
def n105_1 := cR n105_0
def n105_2 := cR n105_1
def n105_3 := cR n105_2
def n105_4 := cL n105_3
def n105_5 := cR n105_4
def n105_6 := cL n105_5
def n105_7 := cR n105_6
def n105_8 := cR n105_5
def n105_9 := cR n105_3
def n105_10 := cR n105_9
def n105_11 := cL n105_10
def n105_12 := cR n105_11
def n105_13 := cL n105_12
def n105_14 := cR n105_13
def n105_15 := cR n105_12
def n105_16 := cR n105_10
def n105_17 := cL n105_16
def n105_18 := cR n105_17
def n105_19 := cL n105_18
def n105_20 := cR n105_19
def n105_21 := cR n105_20
def n105_22 := cR n105_21
def n105_23 := cR n105_22
def n105_24 := cR n105_18
def n105_25 := cR n105_16
def n105_26 := cR n105_25
def n105_27 := cL n105_26
def n105_28 := cR n105_27
def n105_29 := cL n105_28
def n105_30 := cR n105_29
def n105_31 := cR n105_30
def n105_32 := cR n105_31
def n105_33 := cR n105_28
def n105_34 := cR n105_26
def n105_35 := cR n105_34
def n105_36 := cR n105_35
def n105_37 := cR n105_36
def q105 := zQ3 cx105 105 Tryz.f105 n105_0 fun s => (bnd (some (s.env.get 6)) fun v => bnd (some []) fun vs => some (v :: vs))
set_option maxRecDepth 20000
set_option maxHeartbeats 4000000
def n105_21_w := zDr cx105 [n105_22,n105_21] [8] [0,0,0,6,15,0,0,96,255] [0,1,2,3,4,5,6,7] (.o 8 [] [] .f)
def n105_29_w := zDr cx105 [n105_30,n105_29] [8] [0,0,0,6,15,0,0,96,255] [0,1,2,3,4,5,6,7] (.o 8 [] [] .f)
def sn105 := zAll cx105 [[n105_7],[n105_7,n105_6],[n105_8],[n105_6,n105_8,n105_5],[n105_5,n105_4],[n105_14],[n105_14,n105_13],[n105_15],[n105_13,n105_15,n105_12],[n105_12,n105_11],[n105_23],[n105_23,n105_22],[n105_21,n105_20],[n105_20,n105_19],[n105_24],[n105_19,n105_24,n105_18],[n105_18,n105_17],[n105_32],[n105_32,n105_31],[n105_31,n105_30],[n105_33],[n105_29,n105_33,n105_28],[n105_28,n105_27],[n105_37],[n105_37,n105_36],[n105_36,n105_35],[n105_35,n105_34],[n105_27,n105_34,n105_26],[n105_26,n105_25],[n105_17,n105_25,n105_16],[n105_11,n105_16,n105_10],[n105_10,n105_9],[n105_4,n105_9,n105_3],[n105_3,n105_2],[n105_2,n105_1],[n105_1,n105_0]]
end
end Go.Vab

/- How the code of a function is read. Printed by wip/tools/gen2.py and gen3.py (own work). -/
namespace Go.Vab
open Go Go.Proofs
noncomputable section
def cx129 : Ctx := ⟨fun _ _ _ => none,TT,95,[10,11,12,13,14,15,17,18,19,20,21,23,24,25,26,27,28,29,30,32,33,34,35,36,37,38,39,40,41,42,43,44,45,46,47,48,49,50,51,52,53,54,55,56,57,58,59,60,61,62,63,64,65,66,67,69,70,71,72,73,74,75,76,77,78,79,80,81,82,83,84,85,86,87,88,89,90,91,92,93,94]⟩
def n129_0 := bodyOf Tryz.f129
def n129_1 := cR n129_0
def n129_2 := cR n129_1
def n129_3 := cR n129_2
def n129_4 := cL n129_3
def n129_5 := cR n129_4
def n129_6 := cL n129_5
def n129_7 := cR n129_6
def n129_8 := cR n129_5
def n129_9 := cR n129_3
def n129_10 := cR n129_9
def n129_11 := cL n129_10
def n129_12 := cR n129_11
def n129_13 := cL n129_12
def n129_14 := cR n129_13
def n129_15 := cR n129_12
def n129_16 := cR n129_10
def n129_17 := cL n129_16
def n129_18 := cR n129_17
def n129_19 := cL n129_18
def n129_20 := cR n129_19
def n129_21 := cR n129_20
def n129_22 := cR n129_21
def n129_23 := cR n129_22
def n129_24 := cR n129_18
def n129_25 := cR n129_16
def n129_26 := cR n129_25
def n129_27 := cL n129_26
def n129_28 := cR n129_27
def n129_29 := cL n129_28
def n129_30 := cR n129_29
def n129_31 := cR n129_30
def n129_32 := cR n129_31
def n129_33 := cR n129_28
def n129_34 := cR n129_26
def n129_35 := cR n129_34
def n129_36 := cR n129_35
def n129_37 := cR n129_36
def q129 := zQ3 cx129 129 Tryz.f129 n129_0 fun s => (bnd (some (s.env.get 6)) fun v => bnd (some []) fun vs => some (v :: vs))
set_option maxRecDepth 20000
set_option maxHeartbeats 4000000
def n129_21_w := zDr cx129 [n129_22,n129_21] [8] [0,0,0,6,15,0,0,96,255] [0,1,2,3,4,5,6,7] (.o 8 [] [] .f)
def n129_29_w := zDr cx129 [n129_30,n129_29] [8] [0,0,0,6,15,0,0,96,255] [0,1,2,3,4,5,6,7] (.o 8 [] [] .f)
def sn129 := zAll cx129 [[n129_7],[n129_7,n129_6],[n129_8],[n129_6,n129_8,n129_5],[n129_5,n129_4],[n129_14],[n129_14,n129_13],[n129_15],[n129_13,n129_15,n129_12],[n129_12,n129_11],[n129_23],[n129_23,n129_22],[n129_21,n129_20],[n129_20,n129_19],[n129_24],[n129_19,n129_24,n129_18],[n129_18,n129_17],[n129_32],[n129_32,n129_31],[n129_31,n129_30],[n129_33],[n129_29,n129_33,n129_28],[n129_28,n129_27],[n129_37],[n129_37,n129_36],[n129_36,n129_35],[n129_35,n129_34],[n129_27,n129_34,n129_26],[n129_26,n129_25],[n129_17,n129_25,n129_16],[n129_11,n129_16,n129_10],[n129_10,n129_9],[n129_4,n129_9,n129_3],[n129_3,n129_2],[n129_2,n129_1],[n129_1,n129_0]]
end
end Go.Vab

/-
  slices.Delete and slices.Insert of one element, walked.
-/
namespace Go.Vab
open Go Go.Proofs
theorem runRp7_0 {G X : Prop} (f : Hd X → G := by
 intro xX
 repeat' (first | refine stp (x := ?_) | (simp (decide := true) only [sn106, snB, if_true, if_false]) | (with_reducible refine n106_9_w _ _ _ ?_))
 exact xX.get) (x : X) : G := f ⟨x⟩
theorem runRp7_1 {G X : Prop} (f : Hd X → G := by
 intro xX
 repeat' (first | refine stp (x := ?_) | (simp (decide := true) only [sn123, snB, if_true, if_false]) | (with_reducible refine n123_21_w _ _ _ ?_) | (with_reducible refine n123_29_w _ _ _ ?_))
 exact xX.get) (x : X) : G := f ⟨x⟩
theorem runRp7_2 {G X : Prop} (f : Hd X → G := by
 intro xX
 repeat' (first | refine stp (x := ?_) | (simp (decide := true) only [sn100, snB, if_true, if_false]) | (with_reducible refine n100_9_w _ _ _ ?_))
 exact xX.get) (x : X) : G := f ⟨x⟩
theorem runRp7_3 {G X : Prop} (f : Hd X → G := by
 intro xX
 repeat' (first | refine stp (x := ?_) | (simp (decide := true) only [sn104, snB, if_true, if_false]) | (with_reducible refine n104_21_w _ _ _ ?_) | (with_reducible refine n104_29_w _ _ _ ?_))
 exact xX.get) (x : X) : G := f ⟨x⟩
theorem runRp7_4 {G X : Prop} (f : Hd X → G := by
 intro xX
 repeat' (first | refine stp (x := ?_) | (simp (decide := true) only [sn102, snB, if_true, if_false]) | (with_reducible refine n102_9_w _ _ _ ?_))
 exact xX.get) (x : X) : G := f ⟨x⟩
theorem runRp7_5 {G X : Prop} (f : Hd X → G := by
 intro xX
 repeat' (first | refine stp (x := ?_) | (simp (decide := true) only [sn105, snB, if_true, if_false]) | (with_reducible refine n105_21_w _ _ _ ?_) | (with_reducible refine n105_29_w _ _ _ ?_))
 exact xX.get) (x : X) : G := f ⟨x⟩
theorem runRp7_6 {G X : Prop} (f : Hd X → G := by
 intro xX
 repeat' (first | refine stp (x := ?_) | (simp (decide := true) only [sn128, snB, if_true, if_false]) | (with_reducible refine n128_9_w _ _ _ ?_))
 exact xX.get) (x : X) : G := f ⟨x⟩
theorem runRp7_7 {G X : Prop} (f : Hd X → G := by
 intro xX
 repeat' (first | refine stp (x := ?_) | (simp (decide := true) only [sn129, snB, if_true, if_false]) | (with_reducible refine n129_21_w _ _ _ ?_) | (with_reducible refine n129_29_w _ _ _ ?_))
 exact xX.get) (x : X) : G := f ⟨x⟩
theorem ins_at {X : Type} {l xs B : List X} {i c : Nat} (hi : i ≤ l.length) (ht : xs.take l.length = l) (e : X) : (l.take i ++ e :: l.drop i).length = l.length + 1 ∧ ((l.take i ++ e :: l.drop i) ++ B).take (l.length + 1) = l.take i ++ e :: l.drop i := by
 have h : (l.take i ++ e :: l.drop i).length = l.length + 1 := by simp; omega
 exact ⟨h, List.take_left' h⟩
theorem take_pre {X : Type} {l xs : List X} (ht : xs.take l.length = l) {i : Nat} (hi : i ≤ l.length) : xs.take i = l.take i := by
 have := congrArg (List.take i) ht
 rw [List.take_take, Nat.min_eq_left hi] at this
 exact this
theorem take_suf {X : Type} {l xs : List X} (ht : xs.take l.length = l) (i : Nat) : (xs.drop i).take (l.length - i) = l.drop i := by
 conv => rhs; rw [← ht]
 rw [List.drop_take]
set_option maxHeartbeats 1000000 in
theorem c106 {κ : Nat → Nat} {k : Nat} {H : Heap} {x : AV} {l : List Seat} {i : Nat} (r : KRow κ k tSeat eSeat H x l) (hi : i < l.length) : SpecQ Tryz.prog 106 [x, nat i, nat (i + 1)] H fun r => ∃ x' H', r = (x', H') ∧ KRow κ k tSeat eSeat H' x' (l.take i ++ l.drop (i + 1)) ∧ Chg κ k H κ H' := by
 obtain ⟨hl, ⟨rfl, _⟩ | ⟨b, c, xs, hk, rfl, hb, hc, h0, ht⟩⟩ := r
 ·simp at hi
 have hle : l.length ≤ c := by
  have := congrArg List.length ht
  rw [List.length_take] at this; omega
 have hlt := (List.getElem?_eq_some_iff.1 hb).1
 refine q106 fun env g0 g1 g2 => ?_
 have lx : mLenS (.slice b 0 [] tSeat 0 l.length (some c)) = some (nat l.length) := rfl
 have hii : ¬ i = i + 1 := by omega
 obtain ⟨y1, f1, k1⟩ : ∃ y, mSliceS tSeat (.slice b 0 [] tSeat 0 l.length (some c)) (some (nat i)) (some (nat (i + 1))) (some (nat l.length)) = some y ∧ y = .slice b 0 [] tSeat (0 + i) (i + 1 - i) (some (l.length - i)) := ⟨_, sl_all (by omega) (by omega) hle, rfl⟩
 obtain ⟨y2, f2, k2⟩ : ∃ y, mSliceS tSeat (.slice b 0 [] tSeat 0 l.length (some c)) none (some (nat i)) none = some y ∧ y = .slice b 0 [] tSeat 0 i (some c) := ⟨_, sl_to (by omega), rfl⟩
 obtain ⟨y3, f3, k3⟩ : ∃ y, mSliceS tSeat (.slice b 0 [] tSeat 0 l.length (some c)) (some (nat (i + 1))) none none = some y ∧ y = .slice b 0 [] tSeat (0 + (i + 1)) (l.length - (i + 1)) (some (c - (i + 1))) := ⟨_, sl_from (by omega), rfl⟩
 have ff := aI g0 (aI g1 (aI g2 (aI lx (aI hii (aI f1 (aI f2 f3))))))
 refine runRp7_0 (x := ?_)
 clear ff
 rw [k2, k3]
 have hd : (l.drop (i + 1)).length = l.length - (i + 1) := List.length_drop ..
 refine appW_k (ms := l.drop (i + 1)) hb (by rw [elems_k hb (by omega), Nat.zero_add, take_suf ht]) hc (by rw [hd]; omega) ?_
 rw [hd, show i + (l.length - (i + 1)) = l.length - 1 by omega]
 obtain ⟨xs1, hx1⟩ : ∃ xs1, xs1 = xs.take i ++ l.drop (i + 1) ++ xs.drop (l.length - 1) := ⟨_, rfl⟩
 have hxl : xs1.length = c := by rw [hx1]; simp; omega
 obtain ⟨H1, h1⟩ : ∃ H1, H1 = H.set b ⟨.node (xs1.map eSeat), 0, .own⟩ := ⟨_, rfl⟩
 rw [← hx1, ← h1]
 have hb1 : H1[b]? = some ⟨.node (xs1.map eSeat), 0, .own⟩ := by rw [h1, List.getElem?_set_self hlt]
 obtain ⟨x2, hx2⟩ : ∃ x2, x2 = AV.slice b 0 [] tSeat 0 (l.length - 1) (some c) := ⟨_, rfl⟩
 rw [← hx2]
 have lx2 : mLenS x2 = some (nat (l.length - 1)) := by rw [hx2]; rfl
 obtain ⟨y4, f4, k4⟩ : ∃ y, mSliceS tSeat x2 (some (nat (l.length - 1))) (some (nat l.length)) none = some y ∧ y = .slice b 0 [] tSeat (0 + (l.length - 1)) (l.length - (l.length - 1)) (some (c - (l.length - 1))) := ⟨_, by rw [hx2]; exact sl_mid (by omega) (by omega), rfl⟩
 obtain ⟨H2, f5, k5⟩ : ∃ G, mClear tSeat (eSeat (⟨ci0, 0#8, 0#32⟩ : Seat)) y4 H1 = some (.tuple [], G) ∧ G = H1.set b ⟨.node ((xs1.take (0 + (l.length - 1)) ++ List.replicate (l.length - (l.length - 1)) (⟨ci0, 0#8, 0#32⟩ : Seat) ++ xs1.drop (0 + (l.length - 1) + (l.length - (l.length - 1)))).map eSeat), 0, .own⟩ := ⟨_, by rw [k4]; exact clear_k (fun _ => rfl) hb1 (by omega) (by omega), rfl⟩
 have ff := aI g0 (aI g1 (aI g2 (aI lx2 (aI f4 f5))))
 refine runRp7_0 (x := ?_)
 clear ff
 refine ⟨_, H2, rfl, ?_⟩
 have hll : (l.take i ++ l.drop (i + 1)).length = l.length - 1 := by simp; omega
 have ht2 : xs1.take (l.length - 1) = l.take i ++ l.drop (i + 1) := by
  rw [hx1, take_pre ht (by omega)]
  exact List.take_left' hll
 have := krow_set (κ := κ) (k := k) (t := tSeat) (E := eSeat) (H := H) (b := b) (l := l.take i ++ l.drop (i + 1)) (xs := xs) (xs' := xs1.take (0 + (l.length - 1)) ++ List.replicate (l.length - (l.length - 1)) (⟨ci0, 0#8, 0#32⟩ : Seat) ++ xs1.drop (0 + (l.length - 1) + (l.length - (l.length - 1)))) (c := c) hk hb (by omega) (by simp; omega) h0 (by
  rw [hll, List.append_assoc, Nat.zero_add, ht2]; exact List.take_left' hll)
 rw [hll, ← hx2] at this
 rw [k5, h1, List.set_set]
 exact this
set_option maxHeartbeats 2000000 in
theorem c123 {κ : Nat → Nat} {k : Nat} {H : Heap} {x : AV} {l : List Seat} {i vb : Nat} {e : Seat} (r : KRow κ k tSeat eSeat H x l) (hi : i ≤ l.length) (hl : l.length < 1000) (hv : H[vb]? = some ⟨.node [eSeat e], 0, .own⟩) (hvk : κ vb ≠ k) : SpecQ Tryz.prog 123 [x, nat i, .slice vb 0 [] tSeat 0 1 (some 1)] H fun r => ∃ x' H' κ', r = (x', H') ∧ KRow κ' k tSeat eSeat H' x' (l.take i ++ e :: l.drop i) ∧ Chg κ k H κ' H' := by
 have rr : Row tSeat H x (l.map eSeat) := r.row
 have lx := r.len
 have lv : mLenS (.slice vb 0 [] tSeat 0 1 (some 1)) = some (nat 1) := rfl
 have ev : ∀ {G : Heap}, G[vb]? = some ⟨.node [eSeat e], 0, .own⟩ → mElems tSeat (.slice vb 0 [] tSeat 0 1 (some 1)) G = some (.node ([e].map eSeat)) := fun hG => elems_k (xs := [e]) (t := tSeat) (off := 0) (n := 1) hG (by simp)
 obtain ⟨y0, f0, _⟩ := rr.suf (n := i) (by simpa using hi)
 refine q123 fun env g0 g1 g2 => ?_
 by_cases hin : i = l.length
 ·subst hin
  have ff := aI g0 (aI g1 (aI g2 (aI lx (aI lv f0))))
  refine runRp7_1 (x := ?_)
  clear ff
  refine app1_k (E := eSeat) (t := tSeat) (z := (⟨ci0, 0#8, 0#32⟩ : Seat)) tSeat_x (fun _ => rfl) r (ev hv) hl ?_ fun x' H' κ' w1 w2 => ?_
  ·decide
  have ff := g0
  refine runRp7_1 (x := ?_)
  clear ff
  refine ⟨x', H', κ', rfl, ?_, w2⟩
  rw [List.take_length, List.drop_length]; exact w1
 have hi' : i < l.length := by omega
 obtain ⟨_, ⟨rfl, _⟩ | ⟨b, c, xs, hk, rfl, hb, hc, h0, ht⟩⟩ := r
 ·simp at hi'
 have hle : l.length ≤ c := by
  have := congrArg List.length ht
  rw [List.length_take] at this; omega
 have hlt := (List.getElem?_eq_some_iff.1 hb).1
 have hvl := (List.getElem?_eq_some_iff.1 hv).1
 have hvb : vb ≠ b := fun q => hvk (by rw [q]; exact hk)
 have cx : mCap (.slice b 0 [] tSeat 0 l.length (some c)) = some (nat c) := rfl
 have ad : mBin .add (nat l.length) (nat 1) = some (nat (l.length + 1)) := nat_add (by omega)
 have ad2 : mBin .add (nat i) (nat 1) = some (nat (i + 1)) := nat_add (by omega)
 by_cases hroom : c < l.length + 1
 ·-- a new block
  have sb : mBin .sub (nat (l.length + 1)) (nat i) = some (nat (l.length + 1 - i)) := nat_sub (by omega) (by omega)
  obtain ⟨y2, f2, k2⟩ : ∃ y, mSliceS tSeat (.slice b 0 [] tSeat 0 l.length (some c)) none (some (nat i)) none = some y ∧ y = .slice b 0 [] tSeat 0 i (some c) := ⟨_, sl_to (by omega), rfl⟩
  obtain ⟨y3, f3, k3⟩ : ∃ y, mSliceS tSeat (.slice b 0 [] tSeat 0 l.length (some c)) (some (nat i)) none none = some y ∧ y = .slice b 0 [] tSeat (0 + i) (l.length - i) (some (c - i)) := ⟨_, sl_from (by omega), rfl⟩
  have ff := aI g0 (aI g1 (aI g2 (aI lx (aI lv (aI f2 (aI f3 (aI hin (aI cx (aI hroom (aI ad sb))))))))))
  refine runRp7_1 (x := ?_)
  clear ff
  rw [k2]
  refine appZ_k (E := eSeat) (t := tSeat) (z := (⟨ci0, 0#8, 0#32⟩ : Seat)) (fun _ => rfl) hb hc (by omega) (by omega) (by omega) (by omega) (by omega) fun c' hc' => ?_
  rw [show i + (l.length + 1 - i) = l.length + 1 by omega] at hc' ⊢
  obtain ⟨us, hus⟩ : ∃ us, us = xs.take i ++ List.replicate (c' - i) (⟨ci0, 0#8, 0#32⟩ : Seat) := ⟨_, rfl⟩
  have hul : us.length = c' := by rw [hus]; simp; omega
  obtain ⟨H1, h1⟩ : ∃ H1, H1 = H ++ [⟨.node (us.map eSeat), 0, .own⟩] := ⟨_, rfl⟩
  obtain ⟨x2, hx2⟩ : ∃ x2, x2 = AV.slice H.length 0 [] tSeat 0 (l.length + 1) (some c') := ⟨_, rfl⟩
  rw [← hus, ← h1, ← hx2]
  have hb1 : H1[H.length]? = some ⟨.node (us.map eSeat), 0, .own⟩ := by rw [h1]; simp
  obtain ⟨y4, f4, k4⟩ : ∃ y, mSliceS tSeat x2 (some (nat i)) none none = some y ∧ y = .slice H.length 0 [] tSeat (0 + i) (l.length + 1 - i) (some (c' - i)) := ⟨_, by rw [hx2]; exact sl_from (by omega), rfl⟩
  obtain ⟨y5, f5, k5⟩ : ∃ y, mSliceS tSeat x2 (some (nat (i + 1))) none none = some y ∧ y = .slice H.length 0 [] tSeat (0 + (i + 1)) (l.length + 1 - (i + 1)) (some (c' - (i + 1))) := ⟨_, by rw [hx2]; exact sl_from (by omega), rfl⟩
  obtain ⟨H2, f6, k6⟩ : ∃ G, mCopy tSeat y4 (.slice vb 0 [] tSeat 0 1 (some 1)) H1 = some (nat (min [e].length (l.length + 1 - i)), G) ∧ G = H1.set H.length ⟨.node ((us.take (0 + i) ++ [e].take (min [e].length (l.length + 1 - i)) ++ us.drop (0 + i + min [e].length (l.length + 1 - i))).map eSeat), 0, .own⟩ := ⟨_, by rw [k4]; exact copy_k hb1 (ev (by rw [h1, List.getElem?_append_left hvl]; exact hv)) (by simp only [List.length_singleton]; omega), rfl⟩
  have hm1 : min [e].length (l.length + 1 - i) = 1 := by simp only [List.length_singleton]; omega
  rw [hm1, Nat.zero_add] at k6
  rw [hm1] at f6
  obtain ⟨us2, hus2⟩ : ∃ us2, us2 = us.take i ++ [e].take 1 ++ us.drop (i + 1) := ⟨_, rfl⟩
  rw [← hus2] at k6
  have hul2 : us2.length = c' := by rw [hus2]; simp; omega
  have hb2 : H2[H.length]? = some ⟨.node (us2.map eSeat), 0, .own⟩ := by rw [k6, List.getElem?_set_self (by rw [h1]; simp)]
  have hbo : H2[b]? = some ⟨.node (xs.map eSeat), 0, .own⟩ := by rw [k6, List.getElem?_set_ne (by omega), h1, List.getElem?_append_left hlt]; exact hb
  have hdl : (l.drop i).length = l.length - i := List.length_drop ..
  obtain ⟨H3, f7, k7⟩ : ∃ G, mCopy tSeat y5 y3 H2 = some (nat (min (l.drop i).length (l.length + 1 - (i + 1))), G) ∧ G = H2.set H.length ⟨.node ((us2.take (0 + (i + 1)) ++ (l.drop i).take (min (l.drop i).length (l.length + 1 - (i + 1))) ++ us2.drop (0 + (i + 1) + min (l.drop i).length (l.length + 1 - (i + 1)))).map eSeat), 0, .own⟩ := ⟨_, by rw [k5, k3]; exact copy_k hb2 (by rw [elems_k hbo (by omega), Nat.zero_add, take_suf ht]) (by rw [hdl]; omega), rfl⟩
  have hm2 : min (l.drop i).length (l.length + 1 - (i + 1)) = l.length - i := by rw [hdl]; omega
  have tt : (l.drop i).take (l.length - i) = l.drop i := List.take_of_length_le (by omega)
  rw [hm2, Nat.zero_add, tt] at k7
  have ff := aI g0 (aI g1 (aI g2 (aI lx (aI lv (aI f3 (aI f4 (aI f5 (aI f6 (aI f7 ad2)))))))))
  refine runRp7_1 (x := ?_)
  clear ff
  refine ⟨x2, H3, fun j => if j = H.length then k else κ j, rfl, ?_⟩
  obtain ⟨us3, hus3⟩ : ∃ us3, us3 = us2.take (i + 1) ++ l.drop i ++ us2.drop (i + 1 + (l.length - i)) := ⟨_, rfl⟩
  rw [← hus3] at k7
  have e1 : us2.take (i + 1) = l.take i ++ [e] := by
   have hq : (l.take i ++ [e]).length = i + 1 := by simp; omega
   have h0 : us.take i = l.take i := by rw [hus, List.take_left' (by simp; omega), take_pre ht (by omega)]
   have h1 : [e].take 1 = [e] := rfl
   rw [hus2, h0, h1]
   exact List.take_left' hq
  have e2 : us3 = (l.take i ++ e :: l.drop i) ++ us2.drop (i + 1 + (l.length - i)) := by rw [hus3, e1]; simp
  obtain ⟨e3, e4⟩ := ins_at (c := c) (B := us2.drop (i + 1 + (l.length - i))) hi ht e
  have := krow_new (κ := κ) (k := k) (t := tSeat) (E := eSeat) (H := H) (l := l.take i ++ e :: l.drop i) (xs := us3) (c := c') (by omega) (by rw [e2]; simp; omega) (by omega) (by rw [e3, e2]; exact e4)
  rw [e3, ← hx2] at this
  have e5 : H3 = H ++ [⟨.node (us3.map eSeat), 0, .own⟩] := by
   rw [k7, k6, h1, List.set_set]; simp
  rw [e5]; exact this
 ·-- in place
  have hroom' : l.length + 1 ≤ c := by omega
  obtain ⟨x3, f1, k1⟩ : ∃ y, mSliceS tSeat (.slice b 0 [] tSeat 0 l.length (some c)) none (some (nat (l.length + 1))) none = some y ∧ y = .slice b 0 [] tSeat 0 (l.length + 1) (some c) := ⟨_, sl_to hroom', rfl⟩
  obtain ⟨y4, f4, k4⟩ : ∃ y, mSliceS tSeat x3 (some (nat (i + 1))) none none = some y ∧ y = .slice b 0 [] tSeat (0 + (i + 1)) (l.length + 1 - (i + 1)) (some (c - (i + 1))) := ⟨_, by rw [k1]; exact sl_from (by omega), rfl⟩
  obtain ⟨y5, f5, k5⟩ : ∃ y, mSliceS tSeat x3 (some (nat i)) none none = some y ∧ y = .slice b 0 [] tSeat (0 + i) (l.length + 1 - i) (some (c - i)) := ⟨_, by rw [k1]; exact sl_from (by omega), rfl⟩
  obtain ⟨y6, f6, k6⟩ : ∃ y, mSliceS tSeat x3 (some (nat l.length)) none none = some y ∧ y = .slice b 0 [] tSeat (0 + l.length) (l.length + 1 - l.length) (some (c - l.length)) := ⟨_, by rw [k1]; exact sl_from (by omega), rfl⟩
  have fin : ∀ {H3 : Heap} {B : List Seat}, H3 = H.set b ⟨.node (((l.take i ++ e :: l.drop i) ++ B).map eSeat), 0, .own⟩ → B.length = c - (l.length + 1) → KRow κ k tSeat eSeat H3 x3 (l.take i ++ e :: l.drop i) ∧ Chg κ k H κ H3 := by
   intro H3 B hH3 hB
   obtain ⟨e3, e4⟩ := ins_at (c := c) (B := B) hi ht e
   have := krow_set (κ := κ) (k := k) (t := tSeat) (E := eSeat) (H := H) (b := b) (l := l.take i ++ e :: l.drop i) (xs := xs) (xs' := (l.take i ++ e :: l.drop i) ++ B) (c := c) hk hb (by omega) (by rw [List.length_append, e3]; omega) h0 (by rw [e3]; exact e4)
   rw [e3, ← k1, ← hH3] at this
   exact this
  have ff := aI g0 (aI g1 (aI g2 (aI lx (aI lv (aI f0 (aI f1 (aI f4 (aI hin (aI cx (aI hroom (aI ad ad2)))))))))))
  refine runRp7_1 (x := ?_)
  clear ff
  refine SpecQ.step (c132 hv hb hvb k4 (ev hv) (elems_k hb (by omega)) (by omega) (by omega)) ?_
  rintro _ ⟨v, rfl⟩
  cases v
  ·obtain ⟨H1, f7, k7⟩ : ∃ G, mCopy tSeat y4 y5 H = some (nat (min ((xs.drop (0 + i)).take (l.length + 1 - i)).length (l.length + 1 - (i + 1))), G) ∧ G = H.set b ⟨.node ((xs.take (0 + (i + 1)) ++ ((xs.drop (0 + i)).take (l.length + 1 - i)).take (min ((xs.drop (0 + i)).take (l.length + 1 - i)).length (l.length + 1 - (i + 1))) ++ xs.drop (0 + (i + 1) + min ((xs.drop (0 + i)).take (l.length + 1 - i)).length (l.length + 1 - (i + 1)))).map eSeat), 0, .own⟩ := ⟨_, by rw [k4, k5]; exact copy_k hb (elems_k hb (by omega)) (by simp; omega), rfl⟩
   have hm : min ((xs.drop (0 + i)).take (l.length + 1 - i)).length (l.length + 1 - (i + 1)) = l.length - i := by simp; omega
   rw [hm, Nat.zero_add, Nat.zero_add, List.take_take, Nat.min_eq_left (by omega), take_suf ht] at k7
   obtain ⟨us, hus⟩ : ∃ us, us = xs.take (i + 1) ++ l.drop i ++ xs.drop (i + 1 + (l.length - i)) := ⟨_, rfl⟩
   rw [← hus] at k7
   have hul : us.length = c := by rw [hus]; simp; omega
   have hb1 : H1[b]? = some ⟨.node (us.map eSeat), 0, .own⟩ := by rw [k7, List.getElem?_set_self hlt]
   have hv1 : H1[vb]? = some ⟨.node [eSeat e], 0, .own⟩ := by rw [k7, List.getElem?_set_ne (fun q => hvb q.symm)]; exact hv
   obtain ⟨H2, f8, k8⟩ : ∃ G, mCopy tSeat y5 (.slice vb 0 [] tSeat 0 1 (some 1)) H1 = some (nat (min [e].length (l.length + 1 - i)), G) ∧ G = H1.set b ⟨.node ((us.take (0 + i) ++ [e].take (min [e].length (l.length + 1 - i)) ++ us.drop (0 + i + min [e].length (l.length + 1 - i))).map eSeat), 0, .own⟩ := ⟨_, by rw [k5]; exact copy_k hb1 (ev hv1) (by simp only [List.length_singleton]; omega), rfl⟩
   have hm1 : min [e].length (l.length + 1 - i) = 1 := by simp only [List.length_singleton]; omega
   rw [hm1, Nat.zero_add] at k8
   have ff := aI g0 (aI g1 (aI g2 (aI lx (aI lv (aI f4 (aI f5 (aI f7 (aI f8 ad2))))))))
   refine runRp7_1 (x := ?_)
   clear ff
   refine ⟨x3, H2, κ, rfl, fin (B := xs.drop (i + 1 + (l.length - i))) ?_ (by simp; omega)⟩
   rw [k8, k7, List.set_set]
   have e1 : us.take i = l.take i := by
    rw [hus, List.append_assoc, List.take_append_of_le_length (by simp; omega), List.take_take, Nat.min_eq_left (by omega), take_pre ht (by omega)]
   have e2 : us.drop (i + 1) = l.drop i ++ xs.drop (i + 1 + (l.length - i)) := by
    rw [hus, List.append_assoc]; exact List.drop_left' (by simp; omega)
   rw [e1, e2]; simp
  ·obtain ⟨H1, f7, k7⟩ : ∃ G, mCopy tSeat y6 (.slice vb 0 [] tSeat 0 1 (some 1)) H = some (nat (min [e].length (l.length + 1 - l.length)), G) ∧ G = H.set b ⟨.node ((xs.take (0 + l.length) ++ [e].take (min [e].length (l.length + 1 - l.length)) ++ xs.drop (0 + l.length + min [e].length (l.length + 1 - l.length))).map eSeat), 0, .own⟩ := ⟨_, by rw [k6]; exact copy_k hb (ev hv) (by simp only [List.length_singleton]; omega), rfl⟩
   have hm1 : min [e].length (l.length + 1 - l.length) = 1 := by simp only [List.length_singleton]; omega
   rw [hm1, Nat.zero_add, ht] at k7
   have ff := aI g0 (aI g1 (aI g2 (aI lx (aI lv (aI f4 (aI f5 (aI f6 (aI f7 ad2))))))))
   refine runRp7_1 (x := ?_)
   clear ff
   have hb1 : H1[b]? = some ⟨.node ((l.take i ++ (l.drop i ++ [e]) ++ xs.drop (l.length + 1)).map eSeat), 0, .own⟩ := by
    rw [k7, List.getElem?_set_self hlt]
    have : l ++ [e].take 1 ++ xs.drop (l.length + 1) = l.take i ++ (l.drop i ++ [e]) ++ xs.drop (l.length + 1) := by rw [← List.append_assoc (l.take i), List.take_append_drop]; simp
    rw [this]
   rw [k5, Nat.zero_add]
   refine SpecQ.step (c133 hb1 (by simp; omega) (by simp; omega) (by simp; omega) (by omega) (by omega)) ?_
   rintro _ ⟨v, rfl⟩
   obtain ⟨H2, h2⟩ : ∃ G, G = H1.set b ⟨.node ((l.take i ++ (e :: l.drop i) ++ xs.drop (l.length + 1)).map eSeat), 0, .own⟩ := ⟨_, rfl⟩
   rw [← h2]
   have ff := aI g0 (aI g1 g2)
   refine runRp7_1 (x := ?_)
   clear ff
   exact ⟨x3, H2, κ, rfl, fin (B := xs.drop (l.length + 1)) (by rw [h2, k7, List.set_set]) (by simp; omega)⟩
set_option maxHeartbeats 1000000 in
theorem c100 {κ : Nat → Nat} {k : Nat} {H : Heap} {x : AV} {l : List Inv} {i : Nat} (r : KRow κ k tInvite eInv H x l) (hi : i < l.length) : SpecQ Tryz.prog 100 [x, nat i, nat (i + 1)] H fun r => ∃ x' H', r = (x', H') ∧ KRow κ k tInvite eInv H' x' (l.take i ++ l.drop (i + 1)) ∧ Chg κ k H κ H' := by
 obtain ⟨hl, ⟨rfl, _⟩ | ⟨b, c, xs, hk, rfl, hb, hc, h0, ht⟩⟩ := r
 ·simp at hi
 have hle : l.length ≤ c := by
  have := congrArg List.length ht
  rw [List.length_take] at this; omega
 have hlt := (List.getElem?_eq_some_iff.1 hb).1
 refine q100 fun env g0 g1 g2 => ?_
 have lx : mLenS (.slice b 0 [] tInvite 0 l.length (some c)) = some (nat l.length) := rfl
 have hii : ¬ i = i + 1 := by omega
 obtain ⟨y1, f1, k1⟩ : ∃ y, mSliceS tInvite (.slice b 0 [] tInvite 0 l.length (some c)) (some (nat i)) (some (nat (i + 1))) (some (nat l.length)) = some y ∧ y = .slice b 0 [] tInvite (0 + i) (i + 1 - i) (some (l.length - i)) := ⟨_, sl_all (by omega) (by omega) hle, rfl⟩
 obtain ⟨y2, f2, k2⟩ : ∃ y, mSliceS tInvite (.slice b 0 [] tInvite 0 l.length (some c)) none (some (nat i)) none = some y ∧ y = .slice b 0 [] tInvite 0 i (some c) := ⟨_, sl_to (by omega), rfl⟩
 obtain ⟨y3, f3, k3⟩ : ∃ y, mSliceS tInvite (.slice b 0 [] tInvite 0 l.length (some c)) (some (nat (i + 1))) none none = some y ∧ y = .slice b 0 [] tInvite (0 + (i + 1)) (l.length - (i + 1)) (some (c - (i + 1))) := ⟨_, sl_from (by omega), rfl⟩
 have ff := aI g0 (aI g1 (aI g2 (aI lx (aI hii (aI f1 (aI f2 f3))))))
 refine runRp7_2 (x := ?_)
 clear ff
 rw [k2, k3]
 have hd : (l.drop (i + 1)).length = l.length - (i + 1) := List.length_drop ..
 refine appW_k (ms := l.drop (i + 1)) hb (by rw [elems_k hb (by omega), Nat.zero_add, take_suf ht]) hc (by rw [hd]; omega) ?_
 rw [hd, show i + (l.length - (i + 1)) = l.length - 1 by omega]
 obtain ⟨xs1, hx1⟩ : ∃ xs1, xs1 = xs.take i ++ l.drop (i + 1) ++ xs.drop (l.length - 1) := ⟨_, rfl⟩
 have hxl : xs1.length = c := by rw [hx1]; simp; omega
 obtain ⟨H1, h1⟩ : ∃ H1, H1 = H.set b ⟨.node (xs1.map eInv), 0, .own⟩ := ⟨_, rfl⟩
 rw [← hx1, ← h1]
 have hb1 : H1[b]? = some ⟨.node (xs1.map eInv), 0, .own⟩ := by rw [h1, List.getElem?_set_self hlt]
 obtain ⟨x2, hx2⟩ : ∃ x2, x2 = AV.slice b 0 [] tInvite 0 (l.length - 1) (some c) := ⟨_, rfl⟩
 rw [← hx2]
 have lx2 : mLenS x2 = some (nat (l.length - 1)) := by rw [hx2]; rfl
 obtain ⟨y4, f4, k4⟩ : ∃ y, mSliceS tInvite x2 (some (nat (l.length - 1))) (some (nat l.length)) none = some y ∧ y = .slice b 0 [] tInvite (0 + (l.length - 1)) (l.length - (l.length - 1)) (some (c - (l.length - 1))) := ⟨_, by rw [hx2]; exact sl_mid (by omega) (by omega), rfl⟩
 obtain ⟨H2, f5, k5⟩ : ∃ G, mClear tInvite (eInv (⟨ci0, 0#8, ci0⟩ : Inv)) y4 H1 = some (.tuple [], G) ∧ G = H1.set b ⟨.node ((xs1.take (0 + (l.length - 1)) ++ List.replicate (l.length - (l.length - 1)) (⟨ci0, 0#8, ci0⟩ : Inv) ++ xs1.drop (0 + (l.length - 1) + (l.length - (l.length - 1)))).map eInv), 0, .own⟩ := ⟨_, by rw [k4]; exact clear_k (fun _ => rfl) hb1 (by omega) (by omega), rfl⟩
 have ff := aI g0 (aI g1 (aI g2 (aI lx2 (aI f4 f5))))
 refine runRp7_2 (x := ?_)
 clear ff
 refine ⟨_, H2, rfl, ?_⟩
 have hll : (l.take i ++ l.drop (i + 1)).length = l.length - 1 := by simp; omega
 have ht2 : xs1.take (l.length - 1) = l.take i ++ l.drop (i + 1) := by
  rw [hx1, take_pre ht (by omega)]
  exact List.take_left' hll
 have := krow_set (κ := κ) (k := k) (t := tInvite) (E := eInv) (H := H) (b := b) (l := l.take i ++ l.drop (i + 1)) (xs := xs) (xs' := xs1.take (0 + (l.length - 1)) ++ List.replicate (l.length - (l.length - 1)) (⟨ci0, 0#8, ci0⟩ : Inv) ++ xs1.drop (0 + (l.length - 1) + (l.length - (l.length - 1)))) (c := c) hk hb (by omega) (by simp; omega) h0 (by
  rw [hll, List.append_assoc, Nat.zero_add, ht2]; exact List.take_left' hll)
 rw [hll, ← hx2] at this
 rw [k5, h1, List.set_set]
 exact this
set_option maxHeartbeats 2000000 in
theorem c104 {κ : Nat → Nat} {k : Nat} {H : Heap} {x : AV} {l : List Inv} {i vb : Nat} {e : Inv} (r : KRow κ k tInvite eInv H x l) (hi : i ≤ l.length) (hl : l.length < 1000) (hv : H[vb]? = some ⟨.node [eInv e], 0, .own⟩) (hvk : κ vb ≠ k) : SpecQ Tryz.prog 104 [x, nat i, .slice vb 0 [] tInvite 0 1 (some 1)] H fun r => ∃ x' H' κ', r = (x', H') ∧ KRow κ' k tInvite eInv H' x' (l.take i ++ e :: l.drop i) ∧ Chg κ k H κ' H' := by
 have rr : Row tInvite H x (l.map eInv) := r.row
 have lx := r.len
 have lv : mLenS (.slice vb 0 [] tInvite 0 1 (some 1)) = some (nat 1) := rfl
 have ev : ∀ {G : Heap}, G[vb]? = some ⟨.node [eInv e], 0, .own⟩ → mElems tInvite (.slice vb 0 [] tInvite 0 1 (some 1)) G = some (.node ([e].map eInv)) := fun hG => elems_k (xs := [e]) (t := tInvite) (off := 0) (n := 1) hG (by simp)
 obtain ⟨y0, f0, _⟩ := rr.suf (n := i) (by simpa using hi)
 refine q104 fun env g0 g1 g2 => ?_
 by_cases hin : i = l.length
 ·subst hin
  have ff := aI g0 (aI g1 (aI g2 (aI lx (aI lv f0))))
  refine runRp7_3 (x := ?_)
  clear ff
  refine app1_k (E := eInv) (t := tInvite) (z := (⟨ci0, 0#8, ci0⟩ : Inv)) tInvite_x (fun _ => rfl) r (ev hv) hl ?_ fun x' H' κ' w1 w2 => ?_
  ·decide
  have ff := g0
  refine runRp7_3 (x := ?_)
  clear ff
  refine ⟨x', H', κ', rfl, ?_, w2⟩
  rw [List.take_length, List.drop_length]; exact w1
 have hi' : i < l.length := by omega
 obtain ⟨_, ⟨rfl, _⟩ | ⟨b, c, xs, hk, rfl, hb, hc, h0, ht⟩⟩ := r
 ·simp at hi'
 have hle : l.length ≤ c := by
  have := congrArg List.length ht
  rw [List.length_take] at this; omega
 have hlt := (List.getElem?_eq_some_iff.1 hb).1
 have hvl := (List.getElem?_eq_some_iff.1 hv).1
 have hvb : vb ≠ b := fun q => hvk (by rw [q]; exact hk)
 have cx : mCap (.slice b 0 [] tInvite 0 l.length (some c)) = some (nat c) := rfl
 have ad : mBin .add (nat l.length) (nat 1) = some (nat (l.length + 1)) := nat_add (by omega)
 have ad2 : mBin .add (nat i) (nat 1) = some (nat (i + 1)) := nat_add (by omega)
 by_cases hroom : c < l.length + 1
 ·-- a new block
  have sb : mBin .sub (nat (l.length + 1)) (nat i) = some (nat (l.length + 1 - i)) := nat_sub (by omega) (by omega)
  obtain ⟨y2, f2, k2⟩ : ∃ y, mSliceS tInvite (.slice b 0 [] tInvite 0 l.length (some c)) none (some (nat i)) none = some y ∧ y = .slice b 0 [] tInvite 0 i (some c) := ⟨_, sl_to (by omega), rfl⟩
  obtain ⟨y3, f3, k3⟩ : ∃ y, mSliceS tInvite (.slice b 0 [] tInvite 0 l.length (some c)) (some (nat i)) none none = some y ∧ y = .slice b 0 [] tInvite (0 + i) (l.length - i) (some (c - i)) := ⟨_, sl_from (by omega), rfl⟩
  have ff := aI g0 (aI g1 (aI g2 (aI lx (aI lv (aI f2 (aI f3 (aI hin (aI cx (aI hroom (aI ad sb))))))))))
  refine runRp7_3 (x := ?_)
  clear ff
  rw [k2]
  refine appZ_k (E := eInv) (t := tInvite) (z := (⟨ci0, 0#8, ci0⟩ : Inv)) (fun _ => rfl) hb hc (by omega) (by omega) (by omega) (by omega) (by omega) fun c' hc' => ?_
  rw [show i + (l.length + 1 - i) = l.length + 1 by omega] at hc' ⊢
  obtain ⟨us, hus⟩ : ∃ us, us = xs.take i ++ List.replicate (c' - i) (⟨ci0, 0#8, ci0⟩ : Inv) := ⟨_, rfl⟩
  have hul : us.length = c' := by rw [hus]; simp; omega
  obtain ⟨H1, h1⟩ : ∃ H1, H1 = H ++ [⟨.node (us.map eInv), 0, .own⟩] := ⟨_, rfl⟩
  obtain ⟨x2, hx2⟩ : ∃ x2, x2 = AV.slice H.length 0 [] tInvite 0 (l.length + 1) (some c') := ⟨_, rfl⟩
  rw [← hus, ← h1, ← hx2]
  have hb1 : H1[H.length]? = some ⟨.node (us.map eInv), 0, .own⟩ := by rw [h1]; simp
  obtain ⟨y4, f4, k4⟩ : ∃ y, mSliceS tInvite x2 (some (nat i)) none none = some y ∧ y = .slice H.length 0 [] tInvite (0 + i) (l.length + 1 - i) (some (c' - i)) := ⟨_, by rw [hx2]; exact sl_from (by omega), rfl⟩
  obtain ⟨y5, f5, k5⟩ : ∃ y, mSliceS tInvite x2 (some (nat (i + 1))) none none = some y ∧ y = .slice H.length 0 [] tInvite (0 + (i + 1)) (l.length + 1 - (i + 1)) (some (c' - (i + 1))) := ⟨_, by rw [hx2]; exact sl_from (by omega), rfl⟩
  obtain ⟨H2, f6, k6⟩ : ∃ G, mCopy tInvite y4 (.slice vb 0 [] tInvite 0 1 (some 1)) H1 = some (nat (min [e].length (l.length + 1 - i)), G) ∧ G = H1.set H.length ⟨.node ((us.take (0 + i) ++ [e].take (min [e].length (l.length + 1 - i)) ++ us.drop (0 + i + min [e].length (l.length + 1 - i))).map eInv), 0, .own⟩ := ⟨_, by rw [k4]; exact copy_k hb1 (ev (by rw [h1, List.getElem?_append_left hvl]; exact hv)) (by simp only [List.length_singleton]; omega), rfl⟩
  have hm1 : min [e].length (l.length + 1 - i) = 1 := by simp only [List.length_singleton]; omega
  rw [hm1, Nat.zero_add] at k6
  rw [hm1] at f6
  obtain ⟨us2, hus2⟩ : ∃ us2, us2 = us.take i ++ [e].take 1 ++ us.drop (i + 1) := ⟨_, rfl⟩
  rw [← hus2] at k6
  have hul2 : us2.length = c' := by rw [hus2]; simp; omega
  have hb2 : H2[H.length]? = some ⟨.node (us2.map eInv), 0, .own⟩ := by rw [k6, List.getElem?_set_self (by rw [h1]; simp)]
  have hbo : H2[b]? = some ⟨.node (xs.map eInv), 0, .own⟩ := by rw [k6, List.getElem?_set_ne (by omega), h1, List.getElem?_append_left hlt]; exact hb
  have hdl : (l.drop i).length = l.length - i := List.length_drop ..
  obtain ⟨H3, f7, k7⟩ : ∃ G, mCopy tInvite y5 y3 H2 = some (nat (min (l.drop i).length (l.length + 1 - (i + 1))), G) ∧ G = H2.set H.length ⟨.node ((us2.take (0 + (i + 1)) ++ (l.drop i).take (min (l.drop i).length (l.length + 1 - (i + 1))) ++ us2.drop (0 + (i + 1) + min (l.drop i).length (l.length + 1 - (i + 1)))).map eInv), 0, .own⟩ := ⟨_, by rw [k5, k3]; exact copy_k hb2 (by rw [elems_k hbo (by omega), Nat.zero_add, take_suf ht]) (by rw [hdl]; omega), rfl⟩
  have hm2 : min (l.drop i).length (l.length + 1 - (i + 1)) = l.length - i := by rw [hdl]; omega
  have tt : (l.drop i).take (l.length - i) = l.drop i := List.take_of_length_le (by omega)
  rw [hm2, Nat.zero_add, tt] at k7
  have ff := aI g0 (aI g1 (aI g2 (aI lx (aI lv (aI f3 (aI f4 (aI f5 (aI f6 (aI f7 ad2)))))))))
  refine runRp7_3 (x := ?_)
  clear ff
  refine ⟨x2, H3, fun j => if j = H.length then k else κ j, rfl, ?_⟩
  obtain ⟨us3, hus3⟩ : ∃ us3, us3 = us2.take (i + 1) ++ l.drop i ++ us2.drop (i + 1 + (l.length - i)) := ⟨_, rfl⟩
  rw [← hus3] at k7
  have e1 : us2.take (i + 1) = l.take i ++ [e] := by
   have hq : (l.take i ++ [e]).length = i + 1 := by simp; omega
   have h0 : us.take i = l.take i := by rw [hus, List.take_left' (by simp; omega), take_pre ht (by omega)]
   have h1 : [e].take 1 = [e] := rfl
   rw [hus2, h0, h1]
   exact List.take_left' hq
  have e2 : us3 = (l.take i ++ e :: l.drop i) ++ us2.drop (i + 1 + (l.length - i)) := by rw [hus3, e1]; simp
  obtain ⟨e3, e4⟩ := ins_at (c := c) (B := us2.drop (i + 1 + (l.length - i))) hi ht e
  have := krow_new (κ := κ) (k := k) (t := tInvite) (E := eInv) (H := H) (l := l.take i ++ e :: l.drop i) (xs := us3) (c := c') (by omega) (by rw [e2]; simp; omega) (by omega) (by rw [e3, e2]; exact e4)
  rw [e3, ← hx2] at this
  have e5 : H3 = H ++ [⟨.node (us3.map eInv), 0, .own⟩] := by
   rw [k7, k6, h1, List.set_set]; simp
  rw [e5]; exact this
 ·-- in place
  have hroom' : l.length + 1 ≤ c := by omega
  obtain ⟨x3, f1, k1⟩ : ∃ y, mSliceS tInvite (.slice b 0 [] tInvite 0 l.length (some c)) none (some (nat (l.length + 1))) none = some y ∧ y = .slice b 0 [] tInvite 0 (l.length + 1) (some c) := ⟨_, sl_to hroom', rfl⟩
  obtain ⟨y4, f4, k4⟩ : ∃ y, mSliceS tInvite x3 (some (nat (i + 1))) none none = some y ∧ y = .slice b 0 [] tInvite (0 + (i + 1)) (l.length + 1 - (i + 1)) (some (c - (i + 1))) := ⟨_, by rw [k1]; exact sl_from (by omega), rfl⟩
  obtain ⟨y5, f5, k5⟩ : ∃ y, mSliceS tInvite x3 (some (nat i)) none none = some y ∧ y = .slice b 0 [] tInvite (0 + i) (l.length + 1 - i) (some (c - i)) := ⟨_, by rw [k1]; exact sl_from (by omega), rfl⟩
  obtain ⟨y6, f6, k6⟩ : ∃ y, mSliceS tInvite x3 (some (nat l.length)) none none = some y ∧ y = .slice b 0 [] tInvite (0 + l.length) (l.length + 1 - l.length) (some (c - l.length)) := ⟨_, by rw [k1]; exact sl_from (by omega), rfl⟩
  have fin : ∀ {H3 : Heap} {B : List Inv}, H3 = H.set b ⟨.node (((l.take i ++ e :: l.drop i) ++ B).map eInv), 0, .own⟩ → B.length = c - (l.length + 1) → KRow κ k tInvite eInv H3 x3 (l.take i ++ e :: l.drop i) ∧ Chg κ k H κ H3 := by
   intro H3 B hH3 hB
   obtain ⟨e3, e4⟩ := ins_at (c := c) (B := B) hi ht e
   have := krow_set (κ := κ) (k := k) (t := tInvite) (E := eInv) (H := H) (b := b) (l := l.take i ++ e :: l.drop i) (xs := xs) (xs' := (l.take i ++ e :: l.drop i) ++ B) (c := c) hk hb (by omega) (by rw [List.length_append, e3]; omega) h0 (by rw [e3]; exact e4)
   rw [e3, ← k1, ← hH3] at this
   exact this
  have ff := aI g0 (aI g1 (aI g2 (aI lx (aI lv (aI f0 (aI f1 (aI f4 (aI hin (aI cx (aI hroom (aI ad ad2)))))))))))
  refine runRp7_3 (x := ?_)
  clear ff
  refine SpecQ.step (c124 hv hb hvb k4 (ev hv) (elems_k hb (by omega)) (by omega) (by omega)) ?_
  rintro _ ⟨v, rfl⟩
  cases v
  ·obtain ⟨H1, f7, k7⟩ : ∃ G, mCopy tInvite y4 y5 H = some (nat (min ((xs.drop (0 + i)).take (l.length + 1 - i)).length (l.length + 1 - (i + 1))), G) ∧ G = H.set b ⟨.node ((xs.take (0 + (i + 1)) ++ ((xs.drop (0 + i)).take (l.length + 1 - i)).take (min ((xs.drop (0 + i)).take (l.length + 1 - i)).length (l.length + 1 - (i + 1))) ++ xs.drop (0 + (i + 1) + min ((xs.drop (0 + i)).take (l.length + 1 - i)).length (l.length + 1 - (i + 1)))).map eInv), 0, .own⟩ := ⟨_, by rw [k4, k5]; exact copy_k hb (elems_k hb (by omega)) (by simp; omega), rfl⟩
   have hm : min ((xs.drop (0 + i)).take (l.length + 1 - i)).length (l.length + 1 - (i + 1)) = l.length - i := by simp; omega
   rw [hm, Nat.zero_add, Nat.zero_add, List.take_take, Nat.min_eq_left (by omega), take_suf ht] at k7
   obtain ⟨us, hus⟩ : ∃ us, us = xs.take (i + 1) ++ l.drop i ++ xs.drop (i + 1 + (l.length - i)) := ⟨_, rfl⟩
   rw [← hus] at k7
   have hul : us.length = c := by rw [hus]; simp; omega
   have hb1 : H1[b]? = some ⟨.node (us.map eInv), 0, .own⟩ := by rw [k7, List.getElem?_set_self hlt]
   have hv1 : H1[vb]? = some ⟨.node [eInv e], 0, .own⟩ := by rw [k7, List.getElem?_set_ne (fun q => hvb q.symm)]; exact hv
   obtain ⟨H2, f8, k8⟩ : ∃ G, mCopy tInvite y5 (.slice vb 0 [] tInvite 0 1 (some 1)) H1 = some (nat (min [e].length (l.length + 1 - i)), G) ∧ G = H1.set b ⟨.node ((us.take (0 + i) ++ [e].take (min [e].length (l.length + 1 - i)) ++ us.drop (0 + i + min [e].length (l.length + 1 - i))).map eInv), 0, .own⟩ := ⟨_, by rw [k5]; exact copy_k hb1 (ev hv1) (by simp only [List.length_singleton]; omega), rfl⟩
   have hm1 : min [e].length (l.length + 1 - i) = 1 := by simp only [List.length_singleton]; omega
   rw [hm1, Nat.zero_add] at k8
   have ff := aI g0 (aI g1 (aI g2 (aI lx (aI lv (aI f4 (aI f5 (aI f7 (aI f8 ad2))))))))
   refine runRp7_3 (x := ?_)
   clear ff
   refine ⟨x3, H2, κ, rfl, fin (B := xs.drop (i + 1 + (l.length - i))) ?_ (by simp; omega)⟩
   rw [k8, k7, List.set_set]
   have e1 : us.take i = l.take i := by
    rw [hus, List.append_assoc, List.take_append_of_le_length (by simp; omega), List.take_take, Nat.min_eq_left (by omega), take_pre ht (by omega)]
   have e2 : us.drop (i + 1) = l.drop i ++ xs.drop (i + 1 + (l.length - i)) := by
    rw [hus, List.append_assoc]; exact List.drop_left' (by simp; omega)
   rw [e1, e2]; simp
  ·obtain ⟨H1, f7, k7⟩ : ∃ G, mCopy tInvite y6 (.slice vb 0 [] tInvite 0 1 (some 1)) H = some (nat (min [e].length (l.length + 1 - l.length)), G) ∧ G = H.set b ⟨.node ((xs.take (0 + l.length) ++ [e].take (min [e].length (l.length + 1 - l.length)) ++ xs.drop (0 + l.length + min [e].length (l.length + 1 - l.length))).map eInv), 0, .own⟩ := ⟨_, by rw [k6]; exact copy_k hb (ev hv) (by simp only [List.length_singleton]; omega), rfl⟩
   have hm1 : min [e].length (l.length + 1 - l.length) = 1 := by simp only [List.length_singleton]; omega
   rw [hm1, Nat.zero_add, ht] at k7
   have ff := aI g0 (aI g1 (aI g2 (aI lx (aI lv (aI f4 (aI f5 (aI f6 (aI f7 ad2))))))))
   refine runRp7_3 (x := ?_)
   clear ff
   have hb1 : H1[b]? = some ⟨.node ((l.take i ++ (l.drop i ++ [e]) ++ xs.drop (l.length + 1)).map eInv), 0, .own⟩ := by
    rw [k7, List.getElem?_set_self hlt]
    have : l ++ [e].take 1 ++ xs.drop (l.length + 1) = l.take i ++ (l.drop i ++ [e]) ++ xs.drop (l.length + 1) := by rw [← List.append_assoc (l.take i), List.take_append_drop]; simp
    rw [this]
   rw [k5, Nat.zero_add]
   refine SpecQ.step (c125 hb1 (by simp; omega) (by simp; omega) (by simp; omega) (by omega) (by omega)) ?_
   rintro _ ⟨v, rfl⟩
   obtain ⟨H2, h2⟩ : ∃ G, G = H1.set b ⟨.node ((l.take i ++ (e :: l.drop i) ++ xs.drop (l.length + 1)).map eInv), 0, .own⟩ := ⟨_, rfl⟩
   rw [← h2]
   have ff := aI g0 (aI g1 g2)
   refine runRp7_3 (x := ?_)
   clear ff
   exact ⟨x3, H2, κ, rfl, fin (B := xs.drop (l.length + 1)) (by rw [h2, k7, List.set_set]) (by simp; omega)⟩
set_option maxHeartbeats 1000000 in
theorem c102 {κ : Nat → Nat} {k : Nat} {H : Heap} {x : AV} {l : List Ask} {i : Nat} (r : KRow κ k tAsk eAsk H x l) (hi : i < l.length) : SpecQ Tryz.prog 102 [x, nat i, nat (i + 1)] H fun r => ∃ x' H', r = (x', H') ∧ KRow κ k tAsk eAsk H' x' (l.take i ++ l.drop (i + 1)) ∧ Chg κ k H κ H' := by
 obtain ⟨hl, ⟨rfl, _⟩ | ⟨b, c, xs, hk, rfl, hb, hc, h0, ht⟩⟩ := r
 ·simp at hi
 have hle : l.length ≤ c := by
  have := congrArg List.length ht
  rw [List.length_take] at this; omega
 have hlt := (List.getElem?_eq_some_iff.1 hb).1
 refine q102 fun env g0 g1 g2 => ?_
 have lx : mLenS (.slice b 0 [] tAsk 0 l.length (some c)) = some (nat l.length) := rfl
 have hii : ¬ i = i + 1 := by omega
 obtain ⟨y1, f1, k1⟩ : ∃ y, mSliceS tAsk (.slice b 0 [] tAsk 0 l.length (some c)) (some (nat i)) (some (nat (i + 1))) (some (nat l.length)) = some y ∧ y = .slice b 0 [] tAsk (0 + i) (i + 1 - i) (some (l.length - i)) := ⟨_, sl_all (by omega) (by omega) hle, rfl⟩
 obtain ⟨y2, f2, k2⟩ : ∃ y, mSliceS tAsk (.slice b 0 [] tAsk 0 l.length (some c)) none (some (nat i)) none = some y ∧ y = .slice b 0 [] tAsk 0 i (some c) := ⟨_, sl_to (by omega), rfl⟩
 obtain ⟨y3, f3, k3⟩ : ∃ y, mSliceS tAsk (.slice b 0 [] tAsk 0 l.length (some c)) (some (nat (i + 1))) none none = some y ∧ y = .slice b 0 [] tAsk (0 + (i + 1)) (l.length - (i + 1)) (some (c - (i + 1))) := ⟨_, sl_from (by omega), rfl⟩
 have ff := aI g0 (aI g1 (aI g2 (aI lx (aI hii (aI f1 (aI f2 f3))))))
 refine runRp7_4 (x := ?_)
 clear ff
 rw [k2, k3]
 have hd : (l.drop (i + 1)).length = l.length - (i + 1) := List.length_drop ..
 refine appW_k (ms := l.drop (i + 1)) hb (by rw [elems_k hb (by omega), Nat.zero_add, take_suf ht]) hc (by rw [hd]; omega) ?_
 rw [hd, show i + (l.length - (i + 1)) = l.length - 1 by omega]
 obtain ⟨xs1, hx1⟩ : ∃ xs1, xs1 = xs.take i ++ l.drop (i + 1) ++ xs.drop (l.length - 1) := ⟨_, rfl⟩
 have hxl : xs1.length = c := by rw [hx1]; simp; omega
 obtain ⟨H1, h1⟩ : ∃ H1, H1 = H.set b ⟨.node (xs1.map eAsk), 0, .own⟩ := ⟨_, rfl⟩
 rw [← hx1, ← h1]
 have hb1 : H1[b]? = some ⟨.node (xs1.map eAsk), 0, .own⟩ := by rw [h1, List.getElem?_set_self hlt]
 obtain ⟨x2, hx2⟩ : ∃ x2, x2 = AV.slice b 0 [] tAsk 0 (l.length - 1) (some c) := ⟨_, rfl⟩
 rw [← hx2]
 have lx2 : mLenS x2 = some (nat (l.length - 1)) := by rw [hx2]; rfl
 obtain ⟨y4, f4, k4⟩ : ∃ y, mSliceS tAsk x2 (some (nat (l.length - 1))) (some (nat l.length)) none = some y ∧ y = .slice b 0 [] tAsk (0 + (l.length - 1)) (l.length - (l.length - 1)) (some (c - (l.length - 1))) := ⟨_, by rw [hx2]; exact sl_mid (by omega) (by omega), rfl⟩
 obtain ⟨H2, f5, k5⟩ : ∃ G, mClear tAsk (eAsk (⟨ci0, 0#32⟩ : Ask)) y4 H1 = some (.tuple [], G) ∧ G = H1.set b ⟨.node ((xs1.take (0 + (l.length - 1)) ++ List.replicate (l.length - (l.length - 1)) (⟨ci0, 0#32⟩ : Ask) ++ xs1.drop (0 + (l.length - 1) + (l.length - (l.length - 1)))).map eAsk), 0, .own⟩ := ⟨_, by rw [k4]; exact clear_k (fun _ => rfl) hb1 (by omega) (by omega), rfl⟩
 have ff := aI g0 (aI g1 (aI g2 (aI lx2 (aI f4 f5))))
 refine runRp7_4 (x := ?_)
 clear ff
 refine ⟨_, H2, rfl, ?_⟩
 have hll : (l.take i ++ l.drop (i + 1)).length = l.length - 1 := by simp; omega
 have ht2 : xs1.take (l.length - 1) = l.take i ++ l.drop (i + 1) := by
  rw [hx1, take_pre ht (by omega)]
  exact List.take_left' hll
 have := krow_set (κ := κ) (k := k) (t := tAsk) (E := eAsk) (H := H) (b := b) (l := l.take i ++ l.drop (i + 1)) (xs := xs) (xs' := xs1.take (0 + (l.length - 1)) ++ List.replicate (l.length - (l.length - 1)) (⟨ci0, 0#32⟩ : Ask) ++ xs1.drop (0 + (l.length - 1) + (l.length - (l.length - 1)))) (c := c) hk hb (by omega) (by simp; omega) h0 (by
  rw [hll, List.append_assoc, Nat.zero_add, ht2]; exact List.take_left' hll)
 rw [hll, ← hx2] at this
 rw [k5, h1, List.set_set]
 exact this
set_option maxHeartbeats 2000000 in
theorem c105 {κ : Nat → Nat} {k : Nat} {H : Heap} {x : AV} {l : List Ask} {i vb : Nat} {e : Ask} (r : KRow κ k tAsk eAsk H x l) (hi : i ≤ l.length) (hl : l.length < 1000) (hv : H[vb]? = some ⟨.node [eAsk e], 0, .own⟩) (hvk : κ vb ≠ k) : SpecQ Tryz.prog 105 [x, nat i, .slice vb 0 [] tAsk 0 1 (some 1)] H fun r => ∃ x' H' κ', r = (x', H') ∧ KRow κ' k tAsk eAsk H' x' (l.take i ++ e :: l.drop i) ∧ Chg κ k H κ' H' := by
 have rr : Row tAsk H x (l.map eAsk) := r.row
 have lx := r.len
 have lv : mLenS (.slice vb 0 [] tAsk 0 1 (some 1)) = some (nat 1) := rfl
 have ev : ∀ {G : Heap}, G[vb]? = some ⟨.node [eAsk e], 0, .own⟩ → mElems tAsk (.slice vb 0 [] tAsk 0 1 (some 1)) G = some (.node ([e].map eAsk)) := fun hG => elems_k (xs := [e]) (t := tAsk) (off := 0) (n := 1) hG (by simp)
 obtain ⟨y0, f0, _⟩ := rr.suf (n := i) (by simpa using hi)
 refine q105 fun env g0 g1 g2 => ?_
 by_cases hin : i = l.length
 ·subst hin
  have ff := aI g0 (aI g1 (aI g2 (aI lx (aI lv f0))))
  refine runRp7_5 (x := ?_)
  clear ff
  refine app1_k (E := eAsk) (t := tAsk) (z := (⟨ci0, 0#32⟩ : Ask)) tAsk_x (fun _ => rfl) r (ev hv) hl ?_ fun x' H' κ' w1 w2 => ?_
  ·decide
  have ff := g0
  refine runRp7_5 (x := ?_)
  clear ff
  refine ⟨x', H', κ', rfl, ?_, w2⟩
  rw [List.take_length, List.drop_length]; exact w1
 have hi' : i < l.length := by omega
 obtain ⟨_, ⟨rfl, _⟩ | ⟨b, c, xs, hk, rfl, hb, hc, h0, ht⟩⟩ := r
 ·simp at hi'
 have hle : l.length ≤ c := by
  have := congrArg List.length ht
  rw [List.length_take] at this; omega
 have hlt := (List.getElem?_eq_some_iff.1 hb).1
 have hvl := (List.getElem?_eq_some_iff.1 hv).1
 have hvb : vb ≠ b := fun q => hvk (by rw [q]; exact hk)
 have cx : mCap (.slice b 0 [] tAsk 0 l.length (some c)) = some (nat c) := rfl
 have ad : mBin .add (nat l.length) (nat 1) = some (nat (l.length + 1)) := nat_add (by omega)
 have ad2 : mBin .add (nat i) (nat 1) = some (nat (i + 1)) := nat_add (by omega)
 by_cases hroom : c < l.length + 1
 ·-- a new block
  have sb : mBin .sub (nat (l.length + 1)) (nat i) = some (nat (l.length + 1 - i)) := nat_sub (by omega) (by omega)
  obtain ⟨y2, f2, k2⟩ : ∃ y, mSliceS tAsk (.slice b 0 [] tAsk 0 l.length (some c)) none (some (nat i)) none = some y ∧ y = .slice b 0 [] tAsk 0 i (some c) := ⟨_, sl_to (by omega), rfl⟩
  obtain ⟨y3, f3, k3⟩ : ∃ y, mSliceS tAsk (.slice b 0 [] tAsk 0 l.length (some c)) (some (nat i)) none none = some y ∧ y = .slice b 0 [] tAsk (0 + i) (l.length - i) (some (c - i)) := ⟨_, sl_from (by omega), rfl⟩
  have ff := aI g0 (aI g1 (aI g2 (aI lx (aI lv (aI f2 (aI f3 (aI hin (aI cx (aI hroom (aI ad sb))))))))))
  refine runRp7_5 (x := ?_)
  clear ff
  rw [k2]
  refine appZ_k (E := eAsk) (t := tAsk) (z := (⟨ci0, 0#32⟩ : Ask)) (fun _ => rfl) hb hc (by omega) (by omega) (by omega) (by omega) (by omega) fun c' hc' => ?_
  rw [show i + (l.length + 1 - i) = l.length + 1 by omega] at hc' ⊢
  obtain ⟨us, hus⟩ : ∃ us, us = xs.take i ++ List.replicate (c' - i) (⟨ci0, 0#32⟩ : Ask) := ⟨_, rfl⟩
  have hul : us.length = c' := by rw [hus]; simp; omega
  obtain ⟨H1, h1⟩ : ∃ H1, H1 = H ++ [⟨.node (us.map eAsk), 0, .own⟩] := ⟨_, rfl⟩
  obtain ⟨x2, hx2⟩ : ∃ x2, x2 = AV.slice H.length 0 [] tAsk 0 (l.length + 1) (some c') := ⟨_, rfl⟩
  rw [← hus, ← h1, ← hx2]
  have hb1 : H1[H.length]? = some ⟨.node (us.map eAsk), 0, .own⟩ := by rw [h1]; simp
  obtain ⟨y4, f4, k4⟩ : ∃ y, mSliceS tAsk x2 (some (nat i)) none none = some y ∧ y = .slice H.length 0 [] tAsk (0 + i) (l.length + 1 - i) (some (c' - i)) := ⟨_, by rw [hx2]; exact sl_from (by omega), rfl⟩
  obtain ⟨y5, f5, k5⟩ : ∃ y, mSliceS tAsk x2 (some (nat (i + 1))) none none = some y ∧ y = .slice H.length 0 [] tAsk (0 + (i + 1)) (l.length + 1 - (i + 1)) (some (c' - (i + 1))) := ⟨_, by rw [hx2]; exact sl_from (by omega), rfl⟩
  obtain ⟨H2, f6, k6⟩ : ∃ G, mCopy tAsk y4 (.slice vb 0 [] tAsk 0 1 (some 1)) H1 = some (nat (min [e].length (l.length + 1 - i)), G) ∧ G = H1.set H.length ⟨.node ((us.take (0 + i) ++ [e].take (min [e].length (l.length + 1 - i)) ++ us.drop (0 + i + min [e].length (l.length + 1 - i))).map eAsk), 0, .own⟩ := ⟨_, by rw [k4]; exact copy_k hb1 (ev (by rw [h1, List.getElem?_append_left hvl]; exact hv)) (by simp only [List.length_singleton]; omega), rfl⟩
  have hm1 : min [e].length (l.length + 1 - i) = 1 := by simp only [List.length_singleton]; omega
  rw [hm1, Nat.zero_add] at k6
  rw [hm1] at f6
  obtain ⟨us2, hus2⟩ : ∃ us2, us2 = us.take i ++ [e].take 1 ++ us.drop (i + 1) := ⟨_, rfl⟩
  rw [← hus2] at k6
  have hul2 : us2.length = c' := by rw [hus2]; simp; omega
  have hb2 : H2[H.length]? = some ⟨.node (us2.map eAsk), 0, .own⟩ := by rw [k6, List.getElem?_set_self (by rw [h1]; simp)]
  have hbo : H2[b]? = some ⟨.node (xs.map eAsk), 0, .own⟩ := by rw [k6, List.getElem?_set_ne (by omega), h1, List.getElem?_append_left hlt]; exact hb
  have hdl : (l.drop i).length = l.length - i := List.length_drop ..
  obtain ⟨H3, f7, k7⟩ : ∃ G, mCopy tAsk y5 y3 H2 = some (nat (min (l.drop i).length (l.length + 1 - (i + 1))), G) ∧ G = H2.set H.length ⟨.node ((us2.take (0 + (i + 1)) ++ (l.drop i).take (min (l.drop i).length (l.length + 1 - (i + 1))) ++ us2.drop (0 + (i + 1) + min (l.drop i).length (l.length + 1 - (i + 1)))).map eAsk), 0, .own⟩ := ⟨_, by rw [k5, k3]; exact copy_k hb2 (by rw [elems_k hbo (by omega), Nat.zero_add, take_suf ht]) (by rw [hdl]; omega), rfl⟩
  have hm2 : min (l.drop i).length (l.length + 1 - (i + 1)) = l.length - i := by rw [hdl]; omega
  have tt : (l.drop i).take (l.length - i) = l.drop i := List.take_of_length_le (by omega)
  rw [hm2, Nat.zero_add, tt] at k7
  have ff := aI g0 (aI g1 (aI g2 (aI lx (aI lv (aI f3 (aI f4 (aI f5 (aI f6 (aI f7 ad2)))))))))
  refine runRp7_5 (x := ?_)
  clear ff
  refine ⟨x2, H3, fun j => if j = H.length then k else κ j, rfl, ?_⟩
  obtain ⟨us3, hus3⟩ : ∃ us3, us3 = us2.take (i + 1) ++ l.drop i ++ us2.drop (i + 1 + (l.length - i)) := ⟨_, rfl⟩
  rw [← hus3] at k7
  have e1 : us2.take (i + 1) = l.take i ++ [e] := by
   have hq : (l.take i ++ [e]).length = i + 1 := by simp; omega
   have h0 : us.take i = l.take i := by rw [hus, List.take_left' (by simp; omega), take_pre ht (by omega)]
   have h1 : [e].take 1 = [e] := rfl
   rw [hus2, h0, h1]
   exact List.take_left' hq
  have e2 : us3 = (l.take i ++ e :: l.drop i) ++ us2.drop (i + 1 + (l.length - i)) := by rw [hus3, e1]; simp
  obtain ⟨e3, e4⟩ := ins_at (c := c) (B := us2.drop (i + 1 + (l.length - i))) hi ht e
  have := krow_new (κ := κ) (k := k) (t := tAsk) (E := eAsk) (H := H) (l := l.take i ++ e :: l.drop i) (xs := us3) (c := c') (by omega) (by rw [e2]; simp; omega) (by omega) (by rw [e3, e2]; exact e4)
  rw [e3, ← hx2] at this
  have e5 : H3 = H ++ [⟨.node (us3.map eAsk), 0, .own⟩] := by
   rw [k7, k6, h1, List.set_set]; simp
  rw [e5]; exact this
 ·-- in place
  have hroom' : l.length + 1 ≤ c := by omega
  obtain ⟨x3, f1, k1⟩ : ∃ y, mSliceS tAsk (.slice b 0 [] tAsk 0 l.length (some c)) none (some (nat (l.length + 1))) none = some y ∧ y = .slice b 0 [] tAsk 0 (l.length + 1) (some c) := ⟨_, sl_to hroom', rfl⟩
  obtain ⟨y4, f4, k4⟩ : ∃ y, mSliceS tAsk x3 (some (nat (i + 1))) none none = some y ∧ y = .slice b 0 [] tAsk (0 + (i + 1)) (l.length + 1 - (i + 1)) (some (c - (i + 1))) := ⟨_, by rw [k1]; exact sl_from (by omega), rfl⟩
  obtain ⟨y5, f5, k5⟩ : ∃ y, mSliceS tAsk x3 (some (nat i)) none none = some y ∧ y = .slice b 0 [] tAsk (0 + i) (l.length + 1 - i) (some (c - i)) := ⟨_, by rw [k1]; exact sl_from (by omega), rfl⟩
  obtain ⟨y6, f6, k6⟩ : ∃ y, mSliceS tAsk x3 (some (nat l.length)) none none = some y ∧ y = .slice b 0 [] tAsk (0 + l.length) (l.length + 1 - l.length) (some (c - l.length)) := ⟨_, by rw [k1]; exact sl_from (by omega), rfl⟩
  have fin : ∀ {H3 : Heap} {B : List Ask}, H3 = H.set b ⟨.node (((l.take i ++ e :: l.drop i) ++ B).map eAsk), 0, .own⟩ → B.length = c - (l.length + 1) → KRow κ k tAsk eAsk H3 x3 (l.take i ++ e :: l.drop i) ∧ Chg κ k H κ H3 := by
   intro H3 B hH3 hB
   obtain ⟨e3, e4⟩ := ins_at (c := c) (B := B) hi ht e
   have := krow_set (κ := κ) (k := k) (t := tAsk) (E := eAsk) (H := H) (b := b) (l := l.take i ++ e :: l.drop i) (xs := xs) (xs' := (l.take i ++ e :: l.drop i) ++ B) (c := c) hk hb (by omega) (by rw [List.length_append, e3]; omega) h0 (by rw [e3]; exact e4)
   rw [e3, ← k1, ← hH3] at this
   exact this
  have ff := aI g0 (aI g1 (aI g2 (aI lx (aI lv (aI f0 (aI f1 (aI f4 (aI hin (aI cx (aI hroom (aI ad ad2)))))))))))
  refine runRp7_5 (x := ?_)
  clear ff
  refine SpecQ.step (c126 hv hb hvb k4 (ev hv) (elems_k hb (by omega)) (by omega) (by omega)) ?_
  rintro _ ⟨v, rfl⟩
  cases v
  ·obtain ⟨H1, f7, k7⟩ : ∃ G, mCopy tAsk y4 y5 H = some (nat (min ((xs.drop (0 + i)).take (l.length + 1 - i)).length (l.length + 1 - (i + 1))), G) ∧ G = H.set b ⟨.node ((xs.take (0 + (i + 1)) ++ ((xs.drop (0 + i)).take (l.length + 1 - i)).take (min ((xs.drop (0 + i)).take (l.length + 1 - i)).length (l.length + 1 - (i + 1))) ++ xs.drop (0 + (i + 1) + min ((xs.drop (0 + i)).take (l.length + 1 - i)).length (l.length + 1 - (i + 1)))).map eAsk), 0, .own⟩ := ⟨_, by rw [k4, k5]; exact copy_k hb (elems_k hb (by omega)) (by simp; omega), rfl⟩
   have hm : min ((xs.drop (0 + i)).take (l.length + 1 - i)).length (l.length + 1 - (i + 1)) = l.length - i := by simp; omega
   rw [hm, Nat.zero_add, Nat.zero_add, List.take_take, Nat.min_eq_left (by omega), take_suf ht] at k7
   obtain ⟨us, hus⟩ : ∃ us, us = xs.take (i + 1) ++ l.drop i ++ xs.drop (i + 1 + (l.length - i)) := ⟨_, rfl⟩
   rw [← hus] at k7
   have hul : us.length = c := by rw [hus]; simp; omega
   have hb1 : H1[b]? = some ⟨.node (us.map eAsk), 0, .own⟩ := by rw [k7, List.getElem?_set_self hlt]
   have hv1 : H1[vb]? = some ⟨.node [eAsk e], 0, .own⟩ := by rw [k7, List.getElem?_set_ne (fun q => hvb q.symm)]; exact hv
   obtain ⟨H2, f8, k8⟩ : ∃ G, mCopy tAsk y5 (.slice vb 0 [] tAsk 0 1 (some 1)) H1 = some (nat (min [e].length (l.length + 1 - i)), G) ∧ G = H1.set b ⟨.node ((us.take (0 + i) ++ [e].take (min [e].length (l.length + 1 - i)) ++ us.drop (0 + i + min [e].length (l.length + 1 - i))).map eAsk), 0, .own⟩ := ⟨_, by rw [k5]; exact copy_k hb1 (ev hv1) (by simp only [List.length_singleton]; omega), rfl⟩
   have hm1 : min [e].length (l.length + 1 - i) = 1 := by simp only [List.length_singleton]; omega
   rw [hm1, Nat.zero_add] at k8
   have ff := aI g0 (aI g1 (aI g2 (aI lx (aI lv (aI f4 (aI f5 (aI f7 (aI f8 ad2))))))))
   refine runRp7_5 (x := ?_)
   clear ff
   refine ⟨x3, H2, κ, rfl, fin (B := xs.drop (i + 1 + (l.length - i))) ?_ (by simp; omega)⟩
   rw [k8, k7, List.set_set]
   have e1 : us.take i = l.take i := by
    rw [hus, List.append_assoc, List.take_append_of_le_length (by simp; omega), List.take_take, Nat.min_eq_left (by omega), take_pre ht (by omega)]
   have e2 : us.drop (i + 1) = l.drop i ++ xs.drop (i + 1 + (l.length - i)) := by
    rw [hus, List.append_assoc]; exact List.drop_left' (by simp; omega)
   rw [e1, e2]; simp
  ·obtain ⟨H1, f7, k7⟩ : ∃ G, mCopy tAsk y6 (.slice vb 0 [] tAsk 0 1 (some 1)) H = some (nat (min [e].length (l.length + 1 - l.length)), G) ∧ G = H.set b ⟨.node ((xs.take (0 + l.length) ++ [e].take (min [e].length (l.length + 1 - l.length)) ++ xs.drop (0 + l.length + min [e].length (l.length + 1 - l.length))).map eAsk), 0, .own⟩ := ⟨_, by rw [k6]; exact copy_k hb (ev hv) (by simp only [List.length_singleton]; omega), rfl⟩
   have hm1 : min [e].length (l.length + 1 - l.length) = 1 := by simp only [List.length_singleton]; omega
   rw [hm1, Nat.zero_add, ht] at k7
   have ff := aI g0 (aI g1 (aI g2 (aI lx (aI lv (aI f4 (aI f5 (aI f6 (aI f7 ad2))))))))
   refine runRp7_5 (x := ?_)
   clear ff
   have hb1 : H1[b]? = some ⟨.node ((l.take i ++ (l.drop i ++ [e]) ++ xs.drop (l.length + 1)).map eAsk), 0, .own⟩ := by
    rw [k7, List.getElem?_set_self hlt]
    have : l ++ [e].take 1 ++ xs.drop (l.length + 1) = l.take i ++ (l.drop i ++ [e]) ++ xs.drop (l.length + 1) := by rw [← List.append_assoc (l.take i), List.take_append_drop]; simp
    rw [this]
   rw [k5, Nat.zero_add]
   refine SpecQ.step (c127 hb1 (by simp; omega) (by simp; omega) (by simp; omega) (by omega) (by omega)) ?_
   rintro _ ⟨v, rfl⟩
   obtain ⟨H2, h2⟩ : ∃ G, G = H1.set b ⟨.node ((l.take i ++ (e :: l.drop i) ++ xs.drop (l.length + 1)).map eAsk), 0, .own⟩ := ⟨_, rfl⟩
   rw [← h2]
   have ff := aI g0 (aI g1 g2)
   refine runRp7_5 (x := ?_)
   clear ff
   exact ⟨x3, H2, κ, rfl, fin (B := xs.drop (l.length + 1)) (by rw [h2, k7, List.set_set]) (by simp; omega)⟩
set_option maxHeartbeats 1000000 in
theorem c128 {κ : Nat → Nat} {k : Nat} {H : Heap} {x : AV} {l : List Ban} {i : Nat} (r : KRow κ k tBan eBan H x l) (hi : i < l.length) : SpecQ Tryz.prog 128 [x, nat i, nat (i + 1)] H fun r => ∃ x' H', r = (x', H') ∧ KRow κ k tBan eBan H' x' (l.take i ++ l.drop (i + 1)) ∧ Chg κ k H κ H' := by
 obtain ⟨hl, ⟨rfl, _⟩ | ⟨b, c, xs, hk, rfl, hb, hc, h0, ht⟩⟩ := r
 ·simp at hi
 have hle : l.length ≤ c := by
  have := congrArg List.length ht
  rw [List.length_take] at this; omega
 have hlt := (List.getElem?_eq_some_iff.1 hb).1
 refine q128 fun env g0 g1 g2 => ?_
 have lx : mLenS (.slice b 0 [] tBan 0 l.length (some c)) = some (nat l.length) := rfl
 have hii : ¬ i = i + 1 := by omega
 obtain ⟨y1, f1, k1⟩ : ∃ y, mSliceS tBan (.slice b 0 [] tBan 0 l.length (some c)) (some (nat i)) (some (nat (i + 1))) (some (nat l.length)) = some y ∧ y = .slice b 0 [] tBan (0 + i) (i + 1 - i) (some (l.length - i)) := ⟨_, sl_all (by omega) (by omega) hle, rfl⟩
 obtain ⟨y2, f2, k2⟩ : ∃ y, mSliceS tBan (.slice b 0 [] tBan 0 l.length (some c)) none (some (nat i)) none = some y ∧ y = .slice b 0 [] tBan 0 i (some c) := ⟨_, sl_to (by omega), rfl⟩
 obtain ⟨y3, f3, k3⟩ : ∃ y, mSliceS tBan (.slice b 0 [] tBan 0 l.length (some c)) (some (nat (i + 1))) none none = some y ∧ y = .slice b 0 [] tBan (0 + (i + 1)) (l.length - (i + 1)) (some (c - (i + 1))) := ⟨_, sl_from (by omega), rfl⟩
 have ff := aI g0 (aI g1 (aI g2 (aI lx (aI hii (aI f1 (aI f2 f3))))))
 refine runRp7_6 (x := ?_)
 clear ff
 rw [k2, k3]
 have hd : (l.drop (i + 1)).length = l.length - (i + 1) := List.length_drop ..
 refine appW_k (ms := l.drop (i + 1)) hb (by rw [elems_k hb (by omega), Nat.zero_add, take_suf ht]) hc (by rw [hd]; omega) ?_
 rw [hd, show i + (l.length - (i + 1)) = l.length - 1 by omega]
 obtain ⟨xs1, hx1⟩ : ∃ xs1, xs1 = xs.take i ++ l.drop (i + 1) ++ xs.drop (l.length - 1) := ⟨_, rfl⟩
 have hxl : xs1.length = c := by rw [hx1]; simp; omega
 obtain ⟨H1, h1⟩ : ∃ H1, H1 = H.set b ⟨.node (xs1.map eBan), 0, .own⟩ := ⟨_, rfl⟩
 rw [← hx1, ← h1]
 have hb1 : H1[b]? = some ⟨.node (xs1.map eBan), 0, .own⟩ := by rw [h1, List.getElem?_set_self hlt]
 obtain ⟨x2, hx2⟩ : ∃ x2, x2 = AV.slice b 0 [] tBan 0 (l.length - 1) (some c) := ⟨_, rfl⟩
 rw [← hx2]
 have lx2 : mLenS x2 = some (nat (l.length - 1)) := by rw [hx2]; rfl
 obtain ⟨y4, f4, k4⟩ : ∃ y, mSliceS tBan x2 (some (nat (l.length - 1))) (some (nat l.length)) none = some y ∧ y = .slice b 0 [] tBan (0 + (l.length - 1)) (l.length - (l.length - 1)) (some (c - (l.length - 1))) := ⟨_, by rw [hx2]; exact sl_mid (by omega) (by omega), rfl⟩
 obtain ⟨H2, f5, k5⟩ : ∃ G, mClear tBan (eBan (⟨ci0, ci0⟩ : Ban)) y4 H1 = some (.tuple [], G) ∧ G = H1.set b ⟨.node ((xs1.take (0 + (l.length - 1)) ++ List.replicate (l.length - (l.length - 1)) (⟨ci0, ci0⟩ : Ban) ++ xs1.drop (0 + (l.length - 1) + (l.length - (l.length - 1)))).map eBan), 0, .own⟩ := ⟨_, by rw [k4]; exact clear_k (fun _ => rfl) hb1 (by omega) (by omega), rfl⟩
 have ff := aI g0 (aI g1 (aI g2 (aI lx2 (aI f4 f5))))
 refine runRp7_6 (x := ?_)
 clear ff
 refine ⟨_, H2, rfl, ?_⟩
 have hll : (l.take i ++ l.drop (i + 1)).length = l.length - 1 := by simp; omega
 have ht2 : xs1.take (l.length - 1) = l.take i ++ l.drop (i + 1) := by
  rw [hx1, take_pre ht (by omega)]
  exact List.take_left' hll
 have := krow_set (κ := κ) (k := k) (t := tBan) (E := eBan) (H := H) (b := b) (l := l.take i ++ l.drop (i + 1)) (xs := xs) (xs' := xs1.take (0 + (l.length - 1)) ++ List.replicate (l.length - (l.length - 1)) (⟨ci0, ci0⟩ : Ban) ++ xs1.drop (0 + (l.length - 1) + (l.length - (l.length - 1)))) (c := c) hk hb (by omega) (by simp; omega) h0 (by
  rw [hll, List.append_assoc, Nat.zero_add, ht2]; exact List.take_left' hll)
 rw [hll, ← hx2] at this
 rw [k5, h1, List.set_set]
 exact this
set_option maxHeartbeats 2000000 in
theorem c129 {κ : Nat → Nat} {k : Nat} {H : Heap} {x : AV} {l : List Ban} {i vb : Nat} {e : Ban} (r : KRow κ k tBan eBan H x l) (hi : i ≤ l.length) (hl : l.length < 1000) (hv : H[vb]? = some ⟨.node [eBan e], 0, .own⟩) (hvk : κ vb ≠ k) : SpecQ Tryz.prog 129 [x, nat i, .slice vb 0 [] tBan 0 1 (some 1)] H fun r => ∃ x' H' κ', r = (x', H') ∧ KRow κ' k tBan eBan H' x' (l.take i ++ e :: l.drop i) ∧ Chg κ k H κ' H' := by
 have rr : Row tBan H x (l.map eBan) := r.row
 have lx := r.len
 have lv : mLenS (.slice vb 0 [] tBan 0 1 (some 1)) = some (nat 1) := rfl
 have ev : ∀ {G : Heap}, G[vb]? = some ⟨.node [eBan e], 0, .own⟩ → mElems tBan (.slice vb 0 [] tBan 0 1 (some 1)) G = some (.node ([e].map eBan)) := fun hG => elems_k (xs := [e]) (t := tBan) (off := 0) (n := 1) hG (by simp)
 obtain ⟨y0, f0, _⟩ := rr.suf (n := i) (by simpa using hi)
 refine q129 fun env g0 g1 g2 => ?_
 by_cases hin : i = l.length
 ·subst hin
  have ff := aI g0 (aI g1 (aI g2 (aI lx (aI lv f0))))
  refine runRp7_7 (x := ?_)
  clear ff
  refine app1_k (E := eBan) (t := tBan) (z := (⟨ci0, ci0⟩ : Ban)) tBan_x (fun _ => rfl) r (ev hv) hl ?_ fun x' H' κ' w1 w2 => ?_
  ·decide
  have ff := g0
  refine runRp7_7 (x := ?_)
  clear ff
  refine ⟨x', H', κ', rfl, ?_, w2⟩
  rw [List.take_length, List.drop_length]; exact w1
 have hi' : i < l.length := by omega
 obtain ⟨_, ⟨rfl, _⟩ | ⟨b, c, xs, hk, rfl, hb, hc, h0, ht⟩⟩ := r
 ·simp at hi'
 have hle : l.length ≤ c := by
  have := congrArg List.length ht
  rw [List.length_take] at this; omega
 have hlt := (List.getElem?_eq_some_iff.1 hb).1
 have hvl := (List.getElem?_eq_some_iff.1 hv).1
 have hvb : vb ≠ b := fun q => hvk (by rw [q]; exact hk)
 have cx : mCap (.slice b 0 [] tBan 0 l.length (some c)) = some (nat c) := rfl
 have ad : mBin .add (nat l.length) (nat 1) = some (nat (l.length + 1)) := nat_add (by omega)
 have ad2 : mBin .add (nat i) (nat 1) = some (nat (i + 1)) := nat_add (by omega)
 by_cases hroom : c < l.length + 1
 ·-- a new block
  have sb : mBin .sub (nat (l.length + 1)) (nat i) = some (nat (l.length + 1 - i)) := nat_sub (by omega) (by omega)
  obtain ⟨y2, f2, k2⟩ : ∃ y, mSliceS tBan (.slice b 0 [] tBan 0 l.length (some c)) none (some (nat i)) none = some y ∧ y = .slice b 0 [] tBan 0 i (some c) := ⟨_, sl_to (by omega), rfl⟩
  obtain ⟨y3, f3, k3⟩ : ∃ y, mSliceS tBan (.slice b 0 [] tBan 0 l.length (some c)) (some (nat i)) none none = some y ∧ y = .slice b 0 [] tBan (0 + i) (l.length - i) (some (c - i)) := ⟨_, sl_from (by omega), rfl⟩
  have ff := aI g0 (aI g1 (aI g2 (aI lx (aI lv (aI f2 (aI f3 (aI hin (aI cx (aI hroom (aI ad sb))))))))))
  refine runRp7_7 (x := ?_)
  clear ff
  rw [k2]
  refine appZ_k (E := eBan) (t := tBan) (z := (⟨ci0, ci0⟩ : Ban)) (fun _ => rfl) hb hc (by omega) (by omega) (by omega) (by omega) (by omega) fun c' hc' => ?_
  rw [show i + (l.length + 1 - i) = l.length + 1 by omega] at hc' ⊢
  obtain ⟨us, hus⟩ : ∃ us, us = xs.take i ++ List.replicate (c' - i) (⟨ci0, ci0⟩ : Ban) := ⟨_, rfl⟩
  have hul : us.length = c' := by rw [hus]; simp; omega
  obtain ⟨H1, h1⟩ : ∃ H1, H1 = H ++ [⟨.node (us.map eBan), 0, .own⟩] := ⟨_, rfl⟩
  obtain ⟨x2, hx2⟩ : ∃ x2, x2 = AV.slice H.length 0 [] tBan 0 (l.length + 1) (some c') := ⟨_, rfl⟩
  rw [← hus, ← h1, ← hx2]
  have hb1 : H1[H.length]? = some ⟨.node (us.map eBan), 0, .own⟩ := by rw [h1]; simp
  obtain ⟨y4, f4, k4⟩ : ∃ y, mSliceS tBan x2 (some (nat i)) none none = some y ∧ y = .slice H.length 0 [] tBan (0 + i) (l.length + 1 - i) (some (c' - i)) := ⟨_, by rw [hx2]; exact sl_from (by omega), rfl⟩
  obtain ⟨y5, f5, k5⟩ : ∃ y, mSliceS tBan x2 (some (nat (i + 1))) none none = some y ∧ y = .slice H.length 0 [] tBan (0 + (i + 1)) (l.length + 1 - (i + 1)) (some (c' - (i + 1))) := ⟨_, by rw [hx2]; exact sl_from (by omega), rfl⟩
  obtain ⟨H2, f6, k6⟩ : ∃ G, mCopy tBan y4 (.slice vb 0 [] tBan 0 1 (some 1)) H1 = some (nat (min [e].length (l.length + 1 - i)), G) ∧ G = H1.set H.length ⟨.node ((us.take (0 + i) ++ [e].take (min [e].length (l.length + 1 - i)) ++ us.drop (0 + i + min [e].length (l.length + 1 - i))).map eBan), 0, .own⟩ := ⟨_, by rw [k4]; exact copy_k hb1 (ev (by rw [h1, List.getElem?_append_left hvl]; exact hv)) (by simp only [List.length_singleton]; omega), rfl⟩
  have hm1 : min [e].length (l.length + 1 - i) = 1 := by simp only [List.length_singleton]; omega
  rw [hm1, Nat.zero_add] at k6
  rw [hm1] at f6
  obtain ⟨us2, hus2⟩ : ∃ us2, us2 = us.take i ++ [e].take 1 ++ us.drop (i + 1) := ⟨_, rfl⟩
  rw [← hus2] at k6
  have hul2 : us2.length = c' := by rw [hus2]; simp; omega
  have hb2 : H2[H.length]? = some ⟨.node (us2.map eBan), 0, .own⟩ := by rw [k6, List.getElem?_set_self (by rw [h1]; simp)]
  have hbo : H2[b]? = some ⟨.node (xs.map eBan), 0, .own⟩ := by rw [k6, List.getElem?_set_ne (by omega), h1, List.getElem?_append_left hlt]; exact hb
  have hdl : (l.drop i).length = l.length - i := List.length_drop ..
  obtain ⟨H3, f7, k7⟩ : ∃ G, mCopy tBan y5 y3 H2 = some (nat (min (l.drop i).length (l.length + 1 - (i + 1))), G) ∧ G = H2.set H.length ⟨.node ((us2.take (0 + (i + 1)) ++ (l.drop i).take (min (l.drop i).length (l.length + 1 - (i + 1))) ++ us2.drop (0 + (i + 1) + min (l.drop i).length (l.length + 1 - (i + 1)))).map eBan), 0, .own⟩ := ⟨_, by rw [k5, k3]; exact copy_k hb2 (by rw [elems_k hbo (by omega), Nat.zero_add, take_suf ht]) (by rw [hdl]; omega), rfl⟩
  have hm2 : min (l.drop i).length (l.length + 1 - (i + 1)) = l.length - i := by rw [hdl]; omega
  have tt : (l.drop i).take (l.length - i) = l.drop i := List.take_of_length_le (by omega)
  rw [hm2, Nat.zero_add, tt] at k7
  have ff := aI g0 (aI g1 (aI g2 (aI lx (aI lv (aI f3 (aI f4 (aI f5 (aI f6 (aI f7 ad2)))))))))
  refine runRp7_7 (x := ?_)
  clear ff
  refine ⟨x2, H3, fun j => if j = H.length then k else κ j, rfl, ?_⟩
  obtain ⟨us3, hus3⟩ : ∃ us3, us3 = us2.take (i + 1) ++ l.drop i ++ us2.drop (i + 1 + (l.length - i)) := ⟨_, rfl⟩
  rw [← hus3] at k7
  have e1 : us2.take (i + 1) = l.take i ++ [e] := by
   have hq : (l.take i ++ [e]).length = i + 1 := by simp; omega
   have h0 : us.take i = l.take i := by rw [hus, List.take_left' (by simp; omega), take_pre ht (by omega)]
   have h1 : [e].take 1 = [e] := rfl
   rw [hus2, h0, h1]
   exact List.take_left' hq
  have e2 : us3 = (l.take i ++ e :: l.drop i) ++ us2.drop (i + 1 + (l.length - i)) := by rw [hus3, e1]; simp
  obtain ⟨e3, e4⟩ := ins_at (c := c) (B := us2.drop (i + 1 + (l.length - i))) hi ht e
  have := krow_new (κ := κ) (k := k) (t := tBan) (E := eBan) (H := H) (l := l.take i ++ e :: l.drop i) (xs := us3) (c := c') (by omega) (by rw [e2]; simp; omega) (by omega) (by rw [e3, e2]; exact e4)
  rw [e3, ← hx2] at this
  have e5 : H3 = H ++ [⟨.node (us3.map eBan), 0, .own⟩] := by
   rw [k7, k6, h1, List.set_set]; simp
  rw [e5]; exact this
 ·-- in place
  have hroom' : l.length + 1 ≤ c := by omega
  obtain ⟨x3, f1, k1⟩ : ∃ y, mSliceS tBan (.slice b 0 [] tBan 0 l.length (some c)) none (some (nat (l.length + 1))) none = some y ∧ y = .slice b 0 [] tBan 0 (l.length + 1) (some c) := ⟨_, sl_to hroom', rfl⟩
  obtain ⟨y4, f4, k4⟩ : ∃ y, mSliceS tBan x3 (some (nat (i + 1))) none none = some y ∧ y = .slice b 0 [] tBan (0 + (i + 1)) (l.length + 1 - (i + 1)) (some (c - (i + 1))) := ⟨_, by rw [k1]; exact sl_from (by omega), rfl⟩
  obtain ⟨y5, f5, k5⟩ : ∃ y, mSliceS tBan x3 (some (nat i)) none none = some y ∧ y = .slice b 0 [] tBan (0 + i) (l.length + 1 - i) (some (c - i)) := ⟨_, by rw [k1]; exact sl_from (by omega), rfl⟩
  obtain ⟨y6, f6, k6⟩ : ∃ y, mSliceS tBan x3 (some (nat l.length)) none none = some y ∧ y = .slice b 0 [] tBan (0 + l.length) (l.length + 1 - l.length) (some (c - l.length)) := ⟨_, by rw [k1]; exact sl_from (by omega), rfl⟩
  have fin : ∀ {H3 : Heap} {B : List Ban}, H3 = H.set b ⟨.node (((l.take i ++ e :: l.drop i) ++ B).map eBan), 0, .own⟩ → B.length = c - (l.length + 1) → KRow κ k tBan eBan H3 x3 (l.take i ++ e :: l.drop i) ∧ Chg κ k H κ H3 := by
   intro H3 B hH3 hB
   obtain ⟨e3, e4⟩ := ins_at (c := c) (B := B) hi ht e
   have := krow_set (κ := κ) (k := k) (t := tBan) (E := eBan) (H := H) (b := b) (l := l.take i ++ e :: l.drop i) (xs := xs) (xs' := (l.take i ++ e :: l.drop i) ++ B) (c := c) hk hb (by omega) (by rw [List.length_append, e3]; omega) h0 (by rw [e3]; exact e4)
   rw [e3, ← k1, ← hH3] at this
   exact this
  have ff := aI g0 (aI g1 (aI g2 (aI lx (aI lv (aI f0 (aI f1 (aI f4 (aI hin (aI cx (aI hroom (aI ad ad2)))))))))))
  refine runRp7_7 (x := ?_)
  clear ff
  refine SpecQ.step (c136 hv hb hvb k4 (ev hv) (elems_k hb (by omega)) (by omega) (by omega)) ?_
  rintro _ ⟨v, rfl⟩
  cases v
  ·obtain ⟨H1, f7, k7⟩ : ∃ G, mCopy tBan y4 y5 H = some (nat (min ((xs.drop (0 + i)).take (l.length + 1 - i)).length (l.length + 1 - (i + 1))), G) ∧ G = H.set b ⟨.node ((xs.take (0 + (i + 1)) ++ ((xs.drop (0 + i)).take (l.length + 1 - i)).take (min ((xs.drop (0 + i)).take (l.length + 1 - i)).length (l.length + 1 - (i + 1))) ++ xs.drop (0 + (i + 1) + min ((xs.drop (0 + i)).take (l.length + 1 - i)).length (l.length + 1 - (i + 1)))).map eBan), 0, .own⟩ := ⟨_, by rw [k4, k5]; exact copy_k hb (elems_k hb (by omega)) (by simp; omega), rfl⟩
   have hm : min ((xs.drop (0 + i)).take (l.length + 1 - i)).length (l.length + 1 - (i + 1)) = l.length - i := by simp; omega
   rw [hm, Nat.zero_add, Nat.zero_add, List.take_take, Nat.min_eq_left (by omega), take_suf ht] at k7
   obtain ⟨us, hus⟩ : ∃ us, us = xs.take (i + 1) ++ l.drop i ++ xs.drop (i + 1 + (l.length - i)) := ⟨_, rfl⟩
   rw [← hus] at k7
   have hul : us.length = c := by rw [hus]; simp; omega
   have hb1 : H1[b]? = some ⟨.node (us.map eBan), 0, .own⟩ := by rw [k7, List.getElem?_set_self hlt]
   have hv1 : H1[vb]? = some ⟨.node [eBan e], 0, .own⟩ := by rw [k7, List.getElem?_set_ne (fun q => hvb q.symm)]; exact hv
   obtain ⟨H2, f8, k8⟩ : ∃ G, mCopy tBan y5 (.slice vb 0 [] tBan 0 1 (some 1)) H1 = some (nat (min [e].length (l.length + 1 - i)), G) ∧ G = H1.set b ⟨.node ((us.take (0 + i) ++ [e].take (min [e].length (l.length + 1 - i)) ++ us.drop (0 + i + min [e].length (l.length + 1 - i))).map eBan), 0, .own⟩ := ⟨_, by rw [k5]; exact copy_k hb1 (ev hv1) (by simp only [List.length_singleton]; omega), rfl⟩
   have hm1 : min [e].length (l.length + 1 - i) = 1 := by simp only [List.length_singleton]; omega
   rw [hm1, Nat.zero_add] at k8
   have ff := aI g0 (aI g1 (aI g2 (aI lx (aI lv (aI f4 (aI f5 (aI f7 (aI f8 ad2))))))))
   refine runRp7_7 (x := ?_)
   clear ff
   refine ⟨x3, H2, κ, rfl, fin (B := xs.drop (i + 1 + (l.length - i))) ?_ (by simp; omega)⟩
   rw [k8, k7, List.set_set]
   have e1 : us.take i = l.take i := by
    rw [hus, List.append_assoc, List.take_append_of_le_length (by simp; omega), List.take_take, Nat.min_eq_left (by omega), take_pre ht (by omega)]
   have e2 : us.drop (i + 1) = l.drop i ++ xs.drop (i + 1 + (l.length - i)) := by
    rw [hus, List.append_assoc]; exact List.drop_left' (by simp; omega)
   rw [e1, e2]; simp
  ·obtain ⟨H1, f7, k7⟩ : ∃ G, mCopy tBan y6 (.slice vb 0 [] tBan 0 1 (some 1)) H = some (nat (min [e].length (l.length + 1 - l.length)), G) ∧ G = H.set b ⟨.node ((xs.take (0 + l.length) ++ [e].take (min [e].length (l.length + 1 - l.length)) ++ xs.drop (0 + l.length + min [e].length (l.length + 1 - l.length))).map eBan), 0, .own⟩ := ⟨_, by rw [k6]; exact copy_k hb (ev hv) (by simp only [List.length_singleton]; omega), rfl⟩
   have hm1 : min [e].length (l.length + 1 - l.length) = 1 := by simp only [List.length_singleton]; omega
   rw [hm1, Nat.zero_add, ht] at k7
   have ff := aI g0 (aI g1 (aI g2 (aI lx (aI lv (aI f4 (aI f5 (aI f6 (aI f7 ad2))))))))
   refine runRp7_7 (x := ?_)
   clear ff
   have hb1 : H1[b]? = some ⟨.node ((l.take i ++ (l.drop i ++ [e]) ++ xs.drop (l.length + 1)).map eBan), 0, .own⟩ := by
    rw [k7, List.getElem?_set_self hlt]
    have : l ++ [e].take 1 ++ xs.drop (l.length + 1) = l.take i ++ (l.drop i ++ [e]) ++ xs.drop (l.length + 1) := by rw [← List.append_assoc (l.take i), List.take_append_drop]; simp
    rw [this]
   rw [k5, Nat.zero_add]
   refine SpecQ.step (c137 hb1 (by simp; omega) (by simp; omega) (by simp; omega) (by omega) (by omega)) ?_
   rintro _ ⟨v, rfl⟩
   obtain ⟨H2, h2⟩ : ∃ G, G = H1.set b ⟨.node ((l.take i ++ (e :: l.drop i) ++ xs.drop (l.length + 1)).map eBan), 0, .own⟩ := ⟨_, rfl⟩
   rw [← h2]
   have ff := aI g0 (aI g1 g2)
   refine runRp7_7 (x := ?_)
   clear ff
   exact ⟨x3, H2, κ, rfl, fin (B := xs.drop (l.length + 1)) (by rw [h2, k7, List.set_set]) (by simp; omega)⟩
end Go.Vab

/- How the code of a function is read. Printed by wip/tools/gen2.py and gen3.py (own work). -/
namespace Go.Vab
open Go Go.Proofs
noncomputable section
def cx63 : Ctx := ⟨fun _ _ _ => none,TT,7,[3,4,5,6]⟩
def n63_0 := bodyOf Tryz.f63
def n63_1 := cR n63_0
def n63_2 := cR n63_1
def q63 := zQ1 cx63 63 Tryz.f63 n63_0 fun s => (bnd (mLoad tRollSeat (s.env.get 2) s.heap) fun v => bnd (some []) fun vs => some (v :: vs))
set_option maxRecDepth 20000
set_option maxHeartbeats 4000000
def sn63 := zAll cx63 [[n63_2],[n63_2,n63_1],[n63_1,n63_0]]
end
end Go.Vab

/- How the code of a function is read. Printed by wip/tools/gen2.py and gen3.py (own work). -/
namespace Go.Vab
open Go Go.Proofs
noncomputable section
def cx64 : Ctx := ⟨fun _ _ _ => none,TT,7,[3,4,5,6]⟩
def n64_0 := bodyOf Tryz.f64
def n64_1 := cR n64_0
def n64_2 := cR n64_1
def q64 := zQ1 cx64 64 Tryz.f64 n64_0 fun s => (bnd (mLoad tRollInvite (s.env.get 2) s.heap) fun v => bnd (some []) fun vs => some (v :: vs))
set_option maxRecDepth 20000
set_option maxHeartbeats 4000000
def sn64 := zAll cx64 [[n64_2],[n64_2,n64_1],[n64_1,n64_0]]
end
end Go.Vab

/- How the code of a function is read. Printed by wip/tools/gen2.py and gen3.py (own work). -/
namespace Go.Vab
open Go Go.Proofs
noncomputable section
def cx65 : Ctx := ⟨fun _ _ _ => none,TT,7,[3,4,5,6]⟩
def n65_0 := bodyOf Tryz.f65
def n65_1 := cR n65_0
def n65_2 := cR n65_1
def q65 := zQ1 cx65 65 Tryz.f65 n65_0 fun s => (bnd (mLoad tRollAsk (s.env.get 2) s.heap) fun v => bnd (some []) fun vs => some (v :: vs))
set_option maxRecDepth 20000
set_option maxHeartbeats 4000000
def sn65 := zAll cx65 [[n65_2],[n65_2,n65_1],[n65_1,n65_0]]
end
end Go.Vab

/- How the code of a function is read. Printed by wip/tools/gen2.py and gen3.py (own work). -/
namespace Go.Vab
open Go Go.Proofs
noncomputable section
def cx94 : Ctx := ⟨fun _ _ _ => none,TT,7,[3,4,5,6]⟩
def n94_0 := bodyOf Tryz.f94
def n94_1 := cR n94_0
def n94_2 := cR n94_1
def q94 := zQ1 cx94 94 Tryz.f94 n94_0 fun s => (bnd (mLoad tRollBan (s.env.get 2) s.heap) fun v => bnd (some []) fun vs => some (v :: vs))
set_option maxRecDepth 20000
set_option maxHeartbeats 4000000
def sn94 := zAll cx94 [[n94_2],[n94_2,n94_1],[n94_1,n94_0]]
end
end Go.Vab

/- How the code of a function is read. Printed by wip/tools/gen2.py and gen3.py (own work). -/
namespace Go.Vab
open Go Go.Proofs
noncomputable section
def cx91 : Ctx := ⟨fun _ _ _ => none,TT,6,[3,4,5]⟩
def n91_0 := bodyOf Tryz.f91
def n91_1 := cR n91_0
def n91_2 := cR n91_1
def q91 := zQ1 cx91 91 Tryz.f91 n91_0 fun s => (bnd (some (s.env.get 2)) fun v => bnd (some []) fun vs => some (v :: vs))
set_option maxRecDepth 20000
set_option maxHeartbeats 4000000
def sn91 := zAll cx91 [[n91_2],[n91_2,n91_1],[n91_1,n91_0]]
end
end Go.Vab

/- How the code of a function is read. Printed by wip/tools/gen2.py and gen3.py (own work). -/
namespace Go.Vab
open Go Go.Proofs
noncomputable section
def cx92 : Ctx := ⟨fun _ _ _ => none,TT,6,[3,4,5]⟩
def n92_0 := bodyOf Tryz.f92
def n92_1 := cR n92_0
def n92_2 := cR n92_1
def q92 := zQ1 cx92 92 Tryz.f92 n92_0 fun s => (bnd (some (s.env.get 2)) fun v => bnd (some []) fun vs => some (v :: vs))
set_option maxRecDepth 20000
set_option maxHeartbeats 4000000
def sn92 := zAll cx92 [[n92_2],[n92_2,n92_1],[n92_1,n92_0]]
end
end Go.Vab

/- How the code of a function is read. Printed by wip/tools/gen2.py and gen3.py (own work). -/
namespace Go.Vab
open Go Go.Proofs
noncomputable section
def cx93 : Ctx := ⟨fun _ _ _ => none,TT,6,[3,4,5]⟩
def n93_0 := bodyOf Tryz.f93
def n93_1 := cR n93_0
def n93_2 := cR n93_1
def q93 := zQ1 cx93 93 Tryz.f93 n93_0 fun s => (bnd (some (s.env.get 2)) fun v => bnd (some []) fun vs => some (v :: vs))
set_option maxRecDepth 20000
set_option maxHeartbeats 4000000
def sn93 := zAll cx93 [[n93_2],[n93_2,n93_1],[n93_1,n93_0]]
end
end Go.Vab

/- How the code of a function is read. Printed by wip/tools/gen2.py and gen3.py (own work). -/
namespace Go.Vab
open Go Go.Proofs
noncomputable section
def cx117 : Ctx := ⟨fun _ _ _ => none,TT,6,[3,4,5]⟩
def n117_0 := bodyOf Tryz.f117
def n117_1 := cR n117_0
def n117_2 := cR n117_1
def q117 := zQ1 cx117 117 Tryz.f117 n117_0 fun s => (bnd (some (s.env.get 2)) fun v => bnd (some []) fun vs => some (v :: vs))
set_option maxRecDepth 20000
set_option maxHeartbeats 4000000
def sn117 := zAll cx117 [[n117_2],[n117_2,n117_1],[n117_1,n117_0]]
end
end Go.Vab

/-
  The program's lists: which one, and where its handles stand.
-/
namespace Go.Vab
open Go Go.Proofs
theorem runRp2_0 {G X : Prop} (f : Hd X → G := by
 intro xX
 repeat' (first | refine stp (x := ?_) | (simp (decide := true) only [sn63, snB, if_true, if_false]))
 exact xX.get) (x : X) : G := f ⟨x⟩
theorem runRp2_1 {G X : Prop} (f : Hd X → G := by
 intro xX
 repeat' (first | refine stp (x := ?_) | (simp (decide := true) only [sn91, snB, if_true, if_false]))
 exact xX.get) (x : X) : G := f ⟨x⟩
theorem runRp2_2 {G X : Prop} (f : Hd X → G := by
 intro xX
 repeat' (first | refine stp (x := ?_) | (simp (decide := true) only [sn64, snB, if_true, if_false]))
 exact xX.get) (x : X) : G := f ⟨x⟩
theorem runRp2_3 {G X : Prop} (f : Hd X → G := by
 intro xX
 repeat' (first | refine stp (x := ?_) | (simp (decide := true) only [sn92, snB, if_true, if_false]))
 exact xX.get) (x : X) : G := f ⟨x⟩
theorem runRp2_4 {G X : Prop} (f : Hd X → G := by
 intro xX
 repeat' (first | refine stp (x := ?_) | (simp (decide := true) only [sn65, snB, if_true, if_false]))
 exact xX.get) (x : X) : G := f ⟨x⟩
theorem runRp2_5 {G X : Prop} (f : Hd X → G := by
 intro xX
 repeat' (first | refine stp (x := ?_) | (simp (decide := true) only [sn93, snB, if_true, if_false]))
 exact xX.get) (x : X) : G := f ⟨x⟩
theorem runRp2_6 {G X : Prop} (f : Hd X → G := by
 intro xX
 repeat' (first | refine stp (x := ?_) | (simp (decide := true) only [sn94, snB, if_true, if_false]))
 exact xX.get) (x : X) : G := f ⟨x⟩
theorem runRp2_7 {G X : Prop} (f : Hd X → G := by
 intro xX
 repeat' (first | refine stp (x := ?_) | (simp (decide := true) only [sn117, snB, if_true, if_false]))
 exact xX.get) (x : X) : G := f ⟨x⟩
@[simp] theorem hasTy_nilfn : hasTy .nilfn .cell = true := rfl
@[simp] theorem hasTy_nilp : hasTy .nilptr .cell = true := rfl
@[simp] theorem hasTy_fnp (k : Nat) (l : List AV) : hasTy (.fn k l) .cell = true := rfl
@[simp] theorem hasTy_ptrp (b v : Nat) (p : List Nat) (t : Ty) : hasTy (.ptr b v p t) .cell = true := rfl
@[simp] theorem fill_tRollSeat (b v k : Nat) (p : List Nat) (t : Ty) (l : List AV) : fillRow tRollSeat (.node [.nilptr, .nilfn]) [(0, .ptr b v p t), (1, .fn k l)] = some (.node [.ptr b v p t, .fn k l]) := by simp [fillRow]
theorem c63 {h : Heap} {b : Nat} (hb : b < h.length) : SpecQ Tryz.prog 63 [.ptr b 0 [] tState] h fun r => r = (.node [.ptr b 0 [5] .cell, .fn 91 []], h) := by
 refine SpecQ.drop1 (by simp [AV.under, AV.unders, hb]) (q63 fun env g0 => ?_)
 have ff := g0
 refine runRp2_0 (x := ?_)
 clear ff
 exact ⟨_, rfl⟩
theorem c91 {h : Heap} {b : Nat} {pp : List Nat} : SpecQ Tryz.prog 91 [.ptr b 0 pp tSeat] h fun r => r = (.ptr b 0 (pp ++ [0]) tCipher, h) := by
 refine q91 fun env g0 => ?_
 have ff := g0
 refine runRp2_1 (x := ?_)
 clear ff
 rfl
@[simp] theorem fill_tRollInvite (b v k : Nat) (p : List Nat) (t : Ty) (l : List AV) : fillRow tRollInvite (.node [.nilptr, .nilfn]) [(0, .ptr b v p t), (1, .fn k l)] = some (.node [.ptr b v p t, .fn k l]) := by simp [fillRow]
theorem c64 {h : Heap} {b : Nat} (hb : b < h.length) : SpecQ Tryz.prog 64 [.ptr b 0 [] tState] h fun r => r = (.node [.ptr b 0 [6] .cell, .fn 92 []], h) := by
 refine SpecQ.drop1 (by simp [AV.under, AV.unders, hb]) (q64 fun env g0 => ?_)
 have ff := g0
 refine runRp2_2 (x := ?_)
 clear ff
 exact ⟨_, rfl⟩
theorem c92 {h : Heap} {b : Nat} {pp : List Nat} : SpecQ Tryz.prog 92 [.ptr b 0 pp tInvite] h fun r => r = (.ptr b 0 (pp ++ [0]) tCipher, h) := by
 refine q92 fun env g0 => ?_
 have ff := g0
 refine runRp2_3 (x := ?_)
 clear ff
 rfl
@[simp] theorem fill_tRollAsk (b v k : Nat) (p : List Nat) (t : Ty) (l : List AV) : fillRow tRollAsk (.node [.nilptr, .nilfn]) [(0, .ptr b v p t), (1, .fn k l)] = some (.node [.ptr b v p t, .fn k l]) := by simp [fillRow]
theorem c65 {h : Heap} {b : Nat} (hb : b < h.length) : SpecQ Tryz.prog 65 [.ptr b 0 [] tState] h fun r => r = (.node [.ptr b 0 [7] .cell, .fn 93 []], h) := by
 refine SpecQ.drop1 (by simp [AV.under, AV.unders, hb]) (q65 fun env g0 => ?_)
 have ff := g0
 refine runRp2_4 (x := ?_)
 clear ff
 exact ⟨_, rfl⟩
theorem c93 {h : Heap} {b : Nat} {pp : List Nat} : SpecQ Tryz.prog 93 [.ptr b 0 pp tAsk] h fun r => r = (.ptr b 0 (pp ++ [0]) tCipher, h) := by
 refine q93 fun env g0 => ?_
 have ff := g0
 refine runRp2_5 (x := ?_)
 clear ff
 rfl
@[simp] theorem fill_tRollBan (b v k : Nat) (p : List Nat) (t : Ty) (l : List AV) : fillRow tRollBan (.node [.nilptr, .nilfn]) [(0, .ptr b v p t), (1, .fn k l)] = some (.node [.ptr b v p t, .fn k l]) := by simp [fillRow]
theorem c94 {h : Heap} {b : Nat} (hb : b < h.length) : SpecQ Tryz.prog 94 [.ptr b 0 [] tState] h fun r => r = (.node [.ptr b 0 [8] .cell, .fn 117 []], h) := by
 refine SpecQ.drop1 (by simp [AV.under, AV.unders, hb]) (q94 fun env g0 => ?_)
 have ff := g0
 refine runRp2_6 (x := ?_)
 clear ff
 exact ⟨_, rfl⟩
theorem c117 {h : Heap} {b : Nat} {pp : List Nat} : SpecQ Tryz.prog 117 [.ptr b 0 pp tBan] h fun r => r = (.ptr b 0 (pp ++ [0]) tCipher, h) := by
 refine q117 fun env g0 => ?_
 have ff := g0
 refine runRp2_7 (x := ?_)
 clear ff
 rfl
end Go.Vab

/-
  The map of handles, and bytealg.Compare, of this seat.
-/
namespace Go.Vab
open Go Go.Proofs
theorem mapT_ok : MapT Tryz.prog 92 := mapT_mk TT_ok (k := 24) (e := 3) (b := 5) (by kernel_rfl) (by kernel_rfl) (by kernel_rfl) (el := ⟨.int .i64, 8, nat 0, none, some .i64, false, none, false⟩) (by kernel_rfl) (by kernel_rfl) (by rfl) (of_decide_eq_true (by kernel_rfl)) (by kernel_rfl) (by kernel_rfl) (by kernel_rfl) (by kernel_rfl)
@[simp] theorem ifT_map {α : Type} (x : Option α) : ifT Tryz.prog 92 x = x := ifT_pos mapT_ok x
theorem c116 {h : Heap} {x y : AV} {a b : Bs} (hx : BytL h x a) (hy : BytL h y b) : SpecQ Tryz.prog 116 [x, y] h fun r => r = (.int .i64 (cmpB a b), h) :=
 cmp_spec (fn := Tryz.f116) (by kernel_rfl) (by kernel_rfl) (by kernel_rfl) (by rfl) (by rfl) hx hy
end Go.Vab

/- How the code of a function is read. Printed by wip/tools/gen2.py and gen3.py (own work). -/
namespace Go.Vab
open Go Go.Proofs
noncomputable section
def cx88 : Ctx := ⟨fun _ _ _ => none,TT,8,[5,6,7]⟩
def n88_0 := bodyOf Tryz.f88
def n88_1 := cR n88_0
def n88_2 := cR n88_1
def q88 := zQ2 cx88 88 Tryz.f88 n88_0 fun s => (bnd (some (s.env.get 4)) fun v => bnd (some []) fun vs => some (v :: vs))
set_option maxRecDepth 20000
set_option maxHeartbeats 4000000
def sn88 := zAll cx88 [[n88_2],[n88_2,n88_1],[n88_1,n88_0]]
end
end Go.Vab

/- How the code of a function is read. Printed by wip/tools/gen2.py and gen3.py (own work). -/
namespace Go.Vab
open Go Go.Proofs
noncomputable section
def cx45 : Ctx := ⟨fun _ _ _ => none,TT,46,[11,12,18,19,20,21,22,23,24,25,26,27,28,29,30,31,32,33,34,35,36,37,38,40,41,42,43,44,45]⟩
def n45_0 := bodyOf Tryz.f45
def n45_1 := cR n45_0
def n45_2 := cL n45_1
def n45_3 := cR n45_2
def n45_4 := cL n45_3
def n45_5 := cR n45_4
def n45_6 := cR n45_3
def n45_7 := cR n45_1
def n45_8 := cR n45_7
def n45_9 := cL n45_8
def n45_10 := cR n45_9
def n45_11 := cB n45_10
def n45_12 := cB n45_11
def n45_13 := cR n45_12
def n45_14 := cL n45_13
def n45_15 := cL n45_14
def n45_16 := cR n45_14
def n45_17 := cR n45_13
def n45_18 := cL n45_17
def n45_19 := cB n45_18
def n45_20 := cR n45_19
def n45_21 := cR n45_20
def n45_22 := cL n45_21
def n45_23 := cR n45_22
def n45_24 := cL n45_23
def n45_25 := cR n45_24
def n45_26 := cR n45_23
def n45_27 := cR n45_21
def n45_28 := cR n45_27
def n45_29 := cR n45_17
def n45_30 := cR n45_8
def n45_31 := cR n45_30
def q45 := zQ3 cx45 45 Tryz.f45 n45_0 fun s => (bnd (some (s.env.get 6)) fun v => bnd (some []) fun vs => some (v :: vs))
set_option maxRecDepth 20000
set_option maxHeartbeats 4000000
def n45_22_w := zDr cx45 [n45_23,n45_22] [] [0,0,2,7,15,31,63,127,255,511,511,1535,4095,8191,16383,32767] [0,1,2,3,4,5,6,7,8,9,10,11,12,13,14,15] .f
def sn45 := zAll cx45 [[n45_5],[n45_5,n45_4],[n45_6],[n45_4,n45_6,n45_3],[n45_3,n45_2],[n45_15],[n45_16],[n45_15,n45_16,n45_14],[n45_25],[n45_25,n45_24],[n45_26],[n45_24,n45_26,n45_23],[n45_28],[n45_28,n45_27],[n45_22,n45_27,n45_21],[n45_21,n45_20],[n45_20,n45_19],[n45_19,n45_18],[n45_29],[n45_18,n45_29,n45_17],[n45_14,n45_17,n45_13],[n45_13,n45_12],[n45_12,n45_11],[n45_11,n45_10],[n45_10,n45_9],[n45_31],[n45_31,n45_30],[n45_9,n45_30,n45_8],[n45_8,n45_7],[n45_2,n45_7,n45_1],[n45_1,n45_0]]
end
end Go.Vab

/- How the code of a function is read. Printed by wip/tools/gen2.py and gen3.py (own work). -/
namespace Go.Vab
open Go Go.Proofs
noncomputable section
def cx47 : Ctx := ⟨fun _ _ _ => none,TT,46,[11,12,18,19,20,21,22,23,24,25,26,27,28,29,30,31,32,33,34,35,36,37,38,40,41,42,43,44,45]⟩
def n47_0 := bodyOf Tryz.f47
def n47_1 := cR n47_0
def n47_2 := cL n47_1
def n47_3 := cR n47_2
def n47_4 := cL n47_3
def n47_5 := cR n47_4
def n47_6 := cR n47_3
def n47_7 := cR n47_1
def n47_8 := cR n47_7
def n47_9 := cL n47_8
def n47_10 := cR n47_9
def n47_11 := cB n47_10
def n47_12 := cB n47_11
def n47_13 := cR n47_12
def n47_14 := cL n47_13
def n47_15 := cL n47_14
def n47_16 := cR n47_14
def n47_17 := cR n47_13
def n47_18 := cL n47_17
def n47_19 := cB n47_18
def n47_20 := cR n47_19
def n47_21 := cR n47_20
def n47_22 := cL n47_21
def n47_23 := cR n47_22
def n47_24 := cL n47_23
def n47_25 := cR n47_24
def n47_26 := cR n47_23
def n47_27 := cR n47_21
def n47_28 := cR n47_27
def n47_29 := cR n47_17
def n47_30 := cR n47_8
def n47_31 := cR n47_30
def q47 := zQ3 cx47 47 Tryz.f47 n47_0 fun s => (bnd (some (s.env.get 6)) fun v => bnd (some []) fun vs => some (v :: vs))
set_option maxRecDepth 20000
set_option maxHeartbeats 4000000
def n47_22_w := zDr cx47 [n47_23,n47_22] [] [0,0,2,7,15,31,63,127,255,511,511,1535,4095,8191,16383,32767] [0,1,2,3,4,5,6,7,8,9,10,11,12,13,14,15] .f
def sn47 := zAll cx47 [[n47_5],[n47_5,n47_4],[n47_6],[n47_4,n47_6,n47_3],[n47_3,n47_2],[n47_15],[n47_16],[n47_15,n47_16,n47_14],[n47_25],[n47_25,n47_24],[n47_26],[n47_24,n47_26,n47_23],[n47_28],[n47_28,n47_27],[n47_22,n47_27,n47_21],[n47_21,n47_20],[n47_20,n47_19],[n47_19,n47_18],[n47_29],[n47_18,n47_29,n47_17],[n47_14,n47_17,n47_13],[n47_13,n47_12],[n47_12,n47_11],[n47_11,n47_10],[n47_10,n47_9],[n47_31],[n47_31,n47_30],[n47_9,n47_30,n47_8],[n47_8,n47_7],[n47_2,n47_7,n47_1],[n47_1,n47_0]]
end
end Go.Vab

/- How the code of a function is read. Printed by wip/tools/gen2.py and gen3.py (own work). -/
namespace Go.Vab
open Go Go.Proofs
noncomputable section
def cx49 : Ctx := ⟨fun _ _ _ => none,TT,46,[11,12,18,19,20,21,22,23,24,25,26,27,28,29,30,31,32,33,34,35,36,37,38,40,41,42,43,44,45]⟩
def n49_0 := bodyOf Tryz.f49
def n49_1 := cR n49_0
def n49_2 := cL n49_1
def n49_3 := cR n49_2
def n49_4 := cL n49_3
def n49_5 := cR n49_4
def n49_6 := cR n49_3
def n49_7 := cR n49_1
def n49_8 := cR n49_7
def n49_9 := cL n49_8
def n49_10 := cR n49_9
def n49_11 := cB n49_10
def n49_12 := cB n49_11
def n49_13 := cR n49_12
def n49_14 := cL n49_13
def n49_15 := cL n49_14
def n49_16 := cR n49_14
def n49_17 := cR n49_13
def n49_18 := cL n49_17
def n49_19 := cB n49_18
def n49_20 := cR n49_19
def n49_21 := cR n49_20
def n49_22 := cL n49_21
def n49_23 := cR n49_22
def n49_24 := cL n49_23
def n49_25 := cR n49_24
def n49_26 := cR n49_23
def n49_27 := cR n49_21
def n49_28 := cR n49_27
def n49_29 := cR n49_17
def n49_30 := cR n49_8
def n49_31 := cR n49_30
def q49 := zQ3 cx49 49 Tryz.f49 n49_0 fun s => (bnd (some (s.env.get 6)) fun v => bnd (some []) fun vs => some (v :: vs))
set_option maxRecDepth 20000
set_option maxHeartbeats 4000000
def n49_22_w := zDr cx49 [n49_23,n49_22] [] [0,0,2,7,15,31,63,127,255,511,511,1535,4095,8191,16383,32767] [0,1,2,3,4,5,6,7,8,9,10,11,12,13,14,15] .f
def sn49 := zAll cx49 [[n49_5],[n49_5,n49_4],[n49_6],[n49_4,n49_6,n49_3],[n49_3,n49_2],[n49_15],[n49_16],[n49_15,n49_16,n49_14],[n49_25],[n49_25,n49_24],[n49_26],[n49_24,n49_26,n49_23],[n49_28],[n49_28,n49_27],[n49_22,n49_27,n49_21],[n49_21,n49_20],[n49_20,n49_19],[n49_19,n49_18],[n49_29],[n49_18,n49_29,n49_17],[n49_14,n49_17,n49_13],[n49_13,n49_12],[n49_12,n49_11],[n49_11,n49_10],[n49_10,n49_9],[n49_31],[n49_31,n49_30],[n49_9,n49_30,n49_8],[n49_8,n49_7],[n49_2,n49_7,n49_1],[n49_1,n49_0]]
end
end Go.Vab

/- How the code of a function is read. Printed by wip/tools/gen2.py and gen3.py (own work). -/
namespace Go.Vab
open Go Go.Proofs
noncomputable section
def cx51 : Ctx := ⟨fun _ _ _ => none,TT,46,[11,12,18,19,20,21,22,23,24,25,26,27,28,29,30,31,32,33,34,35,36,37,38,40,41,42,43,44,45]⟩
def n51_0 := bodyOf Tryz.f51
def n51_1 := cR n51_0
def n51_2 := cL n51_1
def n51_3 := cR n51_2
def n51_4 := cL n51_3
def n51_5 := cR n51_4
def n51_6 := cR n51_3
def n51_7 := cR n51_1
def n51_8 := cR n51_7
def n51_9 := cL n51_8
def n51_10 := cR n51_9
def n51_11 := cB n51_10
def n51_12 := cB n51_11
def n51_13 := cR n51_12
def n51_14 := cL n51_13
def n51_15 := cL n51_14
def n51_16 := cR n51_14
def n51_17 := cR n51_13
def n51_18 := cL n51_17
def n51_19 := cB n51_18
def n51_20 := cR n51_19
def n51_21 := cR n51_20
def n51_22 := cL n51_21
def n51_23 := cR n51_22
def n51_24 := cL n51_23
def n51_25 := cR n51_24
def n51_26 := cR n51_23
def n51_27 := cR n51_21
def n51_28 := cR n51_27
def n51_29 := cR n51_17
def n51_30 := cR n51_8
def n51_31 := cR n51_30
def q51 := zQ3 cx51 51 Tryz.f51 n51_0 fun s => (bnd (some (s.env.get 6)) fun v => bnd (some []) fun vs => some (v :: vs))
set_option maxRecDepth 20000
set_option maxHeartbeats 4000000
def n51_22_w := zDr cx51 [n51_23,n51_22] [] [0,0,2,7,15,31,63,127,255,511,511,1535,4095,8191,16383,32767] [0,1,2,3,4,5,6,7,8,9,10,11,12,13,14,15] .f
def sn51 := zAll cx51 [[n51_5],[n51_5,n51_4],[n51_6],[n51_4,n51_6,n51_3],[n51_3,n51_2],[n51_15],[n51_16],[n51_15,n51_16,n51_14],[n51_25],[n51_25,n51_24],[n51_26],[n51_24,n51_26,n51_23],[n51_28],[n51_28,n51_27],[n51_22,n51_27,n51_21],[n51_21,n51_20],[n51_20,n51_19],[n51_19,n51_18],[n51_29],[n51_18,n51_29,n51_17],[n51_14,n51_17,n51_13],[n51_13,n51_12],[n51_12,n51_11],[n51_11,n51_10],[n51_10,n51_9],[n51_31],[n51_31,n51_30],[n51_9,n51_30,n51_8],[n51_8,n51_7],[n51_2,n51_7,n51_1],[n51_1,n51_0]]
end
end Go.Vab

/- How the code of a function is read. Printed by wip/tools/gen2.py and gen3.py (own work). -/
namespace Go.Vab
open Go Go.Proofs
noncomputable section
def cx46 : Ctx := ⟨fun _ _ _ => none,TT,5,[3,4]⟩
def n46_0 := bodyOf Tryz.f46
def n46_1 := cR n46_0
def n46_2 := cR n46_1
def q46 := zQ1 cx46 46 Tryz.f46 n46_0 fun s => (bnd (mLoad tCipher (s.env.get 2) s.heap) fun v => bnd (some []) fun vs => some (v :: vs))
set_option maxRecDepth 20000
set_option maxHeartbeats 4000000
def sn46 := zAll cx46 [[n46_2],[n46_2,n46_1],[n46_1,n46_0]]
end
end Go.Vab

/- How the code of a function is read. Printed by wip/tools/gen2.py and gen3.py (own work). -/
namespace Go.Vab
open Go Go.Proofs
noncomputable section
def cx48 : Ctx := ⟨fun _ _ _ => none,TT,5,[3,4]⟩
def n48_0 := bodyOf Tryz.f48
def n48_1 := cR n48_0
def n48_2 := cR n48_1
def q48 := zQ1 cx48 48 Tryz.f48 n48_0 fun s => (bnd (mLoad tCipher (s.env.get 2) s.heap) fun v => bnd (some []) fun vs => some (v :: vs))
set_option maxRecDepth 20000
set_option maxHeartbeats 4000000
def sn48 := zAll cx48 [[n48_2],[n48_2,n48_1],[n48_1,n48_0]]
end
end Go.Vab

/- How the code of a function is read. Printed by wip/tools/gen2.py and gen3.py (own work). -/
namespace Go.Vab
open Go Go.Proofs
noncomputable section
def cx50 : Ctx := ⟨fun _ _ _ => none,TT,5,[3,4]⟩
def n50_0 := bodyOf Tryz.f50
def n50_1 := cR n50_0
def n50_2 := cR n50_1
def q50 := zQ1 cx50 50 Tryz.f50 n50_0 fun s => (bnd (mLoad tCipher (s.env.get 2) s.heap) fun v => bnd (some []) fun vs => some (v :: vs))
set_option maxRecDepth 20000
set_option maxHeartbeats 4000000
def sn50 := zAll cx50 [[n50_2],[n50_2,n50_1],[n50_1,n50_0]]
end
end Go.Vab

/- How the code of a function is read. Printed by wip/tools/gen2.py and gen3.py (own work). -/
namespace Go.Vab
open Go Go.Proofs
noncomputable section
def cx52 : Ctx := ⟨fun _ _ _ => none,TT,5,[3,4]⟩
def n52_0 := bodyOf Tryz.f52
def n52_1 := cR n52_0
def n52_2 := cR n52_1
def q52 := zQ1 cx52 52 Tryz.f52 n52_0 fun s => (bnd (mLoad tCipher (s.env.get 2) s.heap) fun v => bnd (some []) fun vs => some (v :: vs))
set_option maxRecDepth 20000
set_option maxHeartbeats 4000000
def sn52 := zAll cx52 [[n52_2],[n52_2,n52_1],[n52_1,n52_0]]
end
end Go.Vab

/-
  forms.rising, walked.
-/
namespace Go.Vab
open Go Go.Proofs
theorem runRise_0 {G X : Prop} (f : Hd X → G := by
 intro xX
 repeat' (first | refine stp (x := ?_) | (with_reducible refine SpecQ.step (c116 hx hy) ?_; rintro _ rfl; try dsimp only) | (simp (decide := true) only [sn88, snB, if_true, if_false]))
 exact xX.get) (x : X) : G := f ⟨x⟩
theorem runRise_1 {G X : Prop} (f : Hd X → G := by
 intro xX
 repeat' (first | refine stp (x := ?_) | (simp (decide := true) only [sn46, snB, if_true, if_false]))
 exact xX.get) (x : X) : G := f ⟨x⟩
theorem runRise_2 {G X : Prop} (f : Hd X → G := by
 intro xX
 repeat' (first | refine stp (x := ?_) | (simp (decide := true) only [sn45, snB, if_true, if_false]) | (with_reducible refine n45_22_w _ _ _ ?_))
 exact xX.get) (x : X) : G := f ⟨x⟩
theorem runRise_3 {G X : Prop} (f : Hd X → G := by
 intro xX
 repeat' (first | refine stp (x := ?_) | (with_reducible refine ValW_i (c46) ?_; try dsimp only) | (with_reducible refine SpecQ.step (c46) ?_; rintro _ rfl; try dsimp only) | (simp (decide := true) only [sn45, snB, if_true, if_false]) | (with_reducible refine n45_22_w _ _ _ ?_))
 exact xX.get) (x : X) : G := f ⟨x⟩
theorem runRise_4 {G X : Prop} (f : Hd X → G := by
 intro xX
 repeat' (first | refine stp (x := ?_) | (with_reducible refine ValW_i (c46) ?_; try dsimp only) | (with_reducible refine SpecQ.step (c46) ?_; rintro _ rfl; try dsimp only) | (with_reducible refine ValW_i (c88 (pt_bytA (p := last) (by simp)) (pt_bytA (p := l[i].who.e) (by simp))) ?_; try dsimp only) | (with_reducible refine SpecQ.step (c88 (pt_bytA (p := last) (by simp)) (pt_bytA (p := l[i].who.e) (by simp))) ?_; rintro _ rfl; try dsimp only) | (simp (decide := true) only [sn45, snB, if_true, if_false]) | (with_reducible refine n45_22_w _ _ _ ?_))
 exact xX.get) (x : X) : G := f ⟨x⟩
theorem runRise_5 {G X : Prop} (f : Hd X → G := by
 intro xX
 repeat' (first | refine stp (x := ?_) | (simp (decide := true) only [sn48, snB, if_true, if_false]))
 exact xX.get) (x : X) : G := f ⟨x⟩
theorem runRise_6 {G X : Prop} (f : Hd X → G := by
 intro xX
 repeat' (first | refine stp (x := ?_) | (simp (decide := true) only [sn47, snB, if_true, if_false]) | (with_reducible refine n47_22_w _ _ _ ?_))
 exact xX.get) (x : X) : G := f ⟨x⟩
theorem runRise_7 {G X : Prop} (f : Hd X → G := by
 intro xX
 repeat' (first | refine stp (x := ?_) | (with_reducible refine ValW_i (c48) ?_; try dsimp only) | (with_reducible refine SpecQ.step (c48) ?_; rintro _ rfl; try dsimp only) | (simp (decide := true) only [sn47, snB, if_true, if_false]) | (with_reducible refine n47_22_w _ _ _ ?_))
 exact xX.get) (x : X) : G := f ⟨x⟩
theorem runRise_8 {G X : Prop} (f : Hd X → G := by
 intro xX
 repeat' (first | refine stp (x := ?_) | (with_reducible refine ValW_i (c48) ?_; try dsimp only) | (with_reducible refine SpecQ.step (c48) ?_; rintro _ rfl; try dsimp only) | (with_reducible refine ValW_i (c88 (pt_bytA (p := last) (by simp)) (pt_bytA (p := l[i].who.e) (by simp))) ?_; try dsimp only) | (with_reducible refine SpecQ.step (c88 (pt_bytA (p := last) (by simp)) (pt_bytA (p := l[i].who.e) (by simp))) ?_; rintro _ rfl; try dsimp only) | (simp (decide := true) only [sn47, snB, if_true, if_false]) | (with_reducible refine n47_22_w _ _ _ ?_))
 exact xX.get) (x : X) : G := f ⟨x⟩
theorem runRise_9 {G X : Prop} (f : Hd X → G := by
 intro xX
 repeat' (first | refine stp (x := ?_) | (simp (decide := true) only [sn50, snB, if_true, if_false]))
 exact xX.get) (x : X) : G := f ⟨x⟩
theorem runRise_10 {G X : Prop} (f : Hd X → G := by
 intro xX
 repeat' (first | refine stp (x := ?_) | (simp (decide := true) only [sn49, snB, if_true, if_false]) | (with_reducible refine n49_22_w _ _ _ ?_))
 exact xX.get) (x : X) : G := f ⟨x⟩
theorem runRise_11 {G X : Prop} (f : Hd X → G := by
 intro xX
 repeat' (first | refine stp (x := ?_) | (with_reducible refine ValW_i (c50) ?_; try dsimp only) | (with_reducible refine SpecQ.step (c50) ?_; rintro _ rfl; try dsimp only) | (simp (decide := true) only [sn49, snB, if_true, if_false]) | (with_reducible refine n49_22_w _ _ _ ?_))
 exact xX.get) (x : X) : G := f ⟨x⟩
theorem runRise_12 {G X : Prop} (f : Hd X → G := by
 intro xX
 repeat' (first | refine stp (x := ?_) | (with_reducible refine ValW_i (c50) ?_; try dsimp only) | (with_reducible refine SpecQ.step (c50) ?_; rintro _ rfl; try dsimp only) | (with_reducible refine ValW_i (c88 (pt_bytA (p := last) (by simp)) (pt_bytA (p := l[i].who.e) (by simp))) ?_; try dsimp only) | (with_reducible refine SpecQ.step (c88 (pt_bytA (p := last) (by simp)) (pt_bytA (p := l[i].who.e) (by simp))) ?_; rintro _ rfl; try dsimp only) | (simp (decide := true) only [sn49, snB, if_true, if_false]) | (with_reducible refine n49_22_w _ _ _ ?_))
 exact xX.get) (x : X) : G := f ⟨x⟩
theorem runRise_13 {G X : Prop} (f : Hd X → G := by
 intro xX
 repeat' (first | refine stp (x := ?_) | (simp (decide := true) only [sn52, snB, if_true, if_false]))
 exact xX.get) (x : X) : G := f ⟨x⟩
theorem runRise_14 {G X : Prop} (f : Hd X → G := by
 intro xX
 repeat' (first | refine stp (x := ?_) | (simp (decide := true) only [sn51, snB, if_true, if_false]) | (with_reducible refine n51_22_w _ _ _ ?_))
 exact xX.get) (x : X) : G := f ⟨x⟩
theorem runRise_15 {G X : Prop} (f : Hd X → G := by
 intro xX
 repeat' (first | refine stp (x := ?_) | (with_reducible refine ValW_i (c52) ?_; try dsimp only) | (with_reducible refine SpecQ.step (c52) ?_; rintro _ rfl; try dsimp only) | (simp (decide := true) only [sn51, snB, if_true, if_false]) | (with_reducible refine n51_22_w _ _ _ ?_))
 exact xX.get) (x : X) : G := f ⟨x⟩
theorem runRise_16 {G X : Prop} (f : Hd X → G := by
 intro xX
 repeat' (first | refine stp (x := ?_) | (with_reducible refine ValW_i (c52) ?_; try dsimp only) | (with_reducible refine SpecQ.step (c52) ?_; rintro _ rfl; try dsimp only) | (with_reducible refine ValW_i (c88 (pt_bytA (p := last) (by simp)) (pt_bytA (p := l[i].who.e) (by simp))) ?_; try dsimp only) | (with_reducible refine SpecQ.step (c88 (pt_bytA (p := last) (by simp)) (pt_bytA (p := l[i].who.e) (by simp))) ?_; rintro _ rfl; try dsimp only) | (simp (decide := true) only [sn51, snB, if_true, if_false]) | (with_reducible refine n51_22_w _ _ _ ?_))
 exact xX.get) (x : X) : G := f ⟨x⟩
theorem c88 {h : Heap} {x y : AV} {a b : Bs} (hx : BytL h x a) (hy : BytL h y b) : SpecQ Tryz.prog 88 [x, y] h fun r => r = (.int .i64 (cmpB a b), h) := by
 refine SpecQ.drop1 rfl (q88 fun env g0 g1 => ?_)
 have ff := aI g0 g1
 refine runRise_0 (x := ?_)
 clear ff
 exact ⟨[], by simp [oneOrTuple]⟩
theorem c46 {h : Heap} {s : Seat} : SpecQ Tryz.prog 46 [eSeat s] h fun r => r = (eCi s.who, h) := by
 refine SpecQ.drop1 rfl (q46 fun env g0 => ?_)
 have ff := g0
 refine runRise_1 (x := ?_)
 clear ff
 exact ⟨_, rfl⟩
set_option maxHeartbeats 1000000 in
theorem c45 {h : Heap} {x : AV} {l : List Seat} {m : Nat} {seen : List Pt} (hx : Row tSeat h x (l.map eSeat)) (hm : h[m]? = some ⟨.node (seen.map pt), 0, .mp⟩) :
  SpecQ Tryz.prog 45 [x, .fn 46 [], .map m] h fun r => ∃ seen', r = (.bool (decide (l.length ≤ 40) && riseB seen (l.map (·.who.e))), h.set m ⟨.node (seen'.map pt), 0, .mp⟩) ∧ (l.length ≤ 40 → riseB seen (l.map (·.who.e)) = true → seen' = seen ++ l.map (·.who.e)) := by
 have lx := hx.len
 have bx := hx.bound
 rw [List.length_map] at lx bx
 have hself : h.set m ⟨.node (seen.map pt), 0, .mp⟩ = h := by
  apply List.ext_getElem?
  intro i
  rw [List.getElem?_set]
  split
  ·rename_i e; subst e; rw [if_pos (List.getElem?_eq_some_iff.1 hm).1, hm]
  ·rfl
 have hps : ∀ (i : Nat) (hi : i < l.length), (l.map (·.who.e)).getD i pt0 = l[i].who.e := fun i hi => by
  rw [List.getD_eq_getElem?_getD, List.getElem?_map, List.getElem?_eq_getElem hi]; rfl
 have hpl : (l.map (·.who.e)).length = l.length := List.length_map _
 generalize hP : l.map (·.who.e) = ps at hps hpl ⊢
 refine SpecQ.drop (K := fun r => ∃ seen' t, r = (.bool (decide (l.length ≤ 40) && riseB seen ps), h.set m ⟨.node (seen'.map pt), 0, .mp⟩ ++ t) ∧ (l.length ≤ 40 → riseB seen ps = true → seen' = seen ++ ps)) (q45 fun env g0 g1 g2 => ?_) _ ?_
 ·by_cases h40 : l.length ≤ 40
  ·have ff := aI g0 (aI g1 (aI g2 (aI lx h40)))
   refine runRise_2 (x := ?_)
   clear ff
   refine loop_up l.length (fun i st => ∃ env' last t, st = ⟨env', h.set m ⟨.node ((seen ++ ps.take i).map pt), 0, .mp⟩ ++ (⟨pt last, 0, .own⟩ :: t)⟩ ∧ env'.get 1 = .fn 46 [] ∧ env'.get 2 = .map m ∧ env'.get 7 = .ptr h.length 0 [] (.arr 32 (.int .u8)) ∧ env'.get 14 = x ∧ env'.get 15 = nat l.length ∧ env'.get 16 = nat i ∧
    (0 < i → last = ps.getD (i - 1) pt0) ∧ ∀ j, j < i → goodAt seen ps j = true) ?_ ?_ ⟨_, pt0, [], (by simp [hself]; rfl), by simp [g1], by simp [g2], by simp, by simp [g0], by simp, by simp, fun h => absurd h (by omega), fun j hj => absurd hj (by omega)⟩
   ·rintro i st hi ⟨env', last, t, rfl, e1, e2, e7, e14, e15, e16, hlast, hgood⟩
    have hx' : Row tSeat (h.set m ⟨.node ((seen ++ ps.take i).map pt), 0, .mp⟩) x (l.map eSeat) := hx.setm hm rfl
    obtain ⟨p, p1, p2⟩ := hx'.idx (i := i) (by simpa using hi)
    rw [List.getElem?_map, List.getElem?_eq_getElem hi] at p2
    simp only [Option.map_some] at p2
    have hmm : (h.set m ⟨.node ((seen ++ ps.take i).map pt), 0, .mp⟩)[m]? = some ⟨.node ((seen ++ ps.take i).map pt), 0, .mp⟩ := List.getElem?_set_self (List.getElem?_eq_some_iff.1 hm).1
    have hma := mapAt_app hmm
    have hms := set_appL hmm
    have hg : goodAt seen ps i = (!decide (l[i].who.e ∈ seen ++ ps.take i) && (decide (i = 0) || decide (cmpB last.l l[i].who.e.l < 0))) := by
     unfold goodAt
     rw [hps i hi]
     by_cases h0 : i = 0
     ·simp [h0]
     ·rw [← hlast (by omega)]
    have hS1 : seen ++ ps.take (i + 1) = seen ++ ps.take i ++ [l[i].who.e] := by
     rw [List.append_assoc, List.take_add_one, ← hps i hi, List.getD_eq_getElem?_getD, List.getElem?_eq_getElem (by omega)]
     rfl
    rw [hS1]
    generalize seen ++ ps.take i = S at *
    by_cases hmem : l[i].who.e ∈ S
    ·have hno := riseB_no (seen := seen) (by rw [hpl]; exact hi) (by rw [hg]; simp [hmem])
     have ff := aI e1 (aI e2 (aI e7 (aI e14 (aI e15 (aI e16 (aI p1 (aI p2 (aI hma (aI hms hmem)))))))))
     refine runRise_3 (x := ?_)
     clear ff
     refine .inr ⟨by simp, ?_⟩
     have ff := e1
     refine runRise_2 (x := ?_)
     clear ff
     exact ⟨S, _, (by simp [oneOrTuple, hno]; rfl), fun _ h => by rw [hno] at h; cases h⟩
    ·by_cases h0 : i = 0
     ·have hyes : goodAt seen ps i = true := by rw [hg, decide_eq_true h0]; simp [hmem]
      have hz : ¬ (0 < i) := by omega
      have ff := aI e1 (aI e2 (aI e7 (aI e14 (aI e15 (aI e16 (aI p1 (aI p2 (aI hma (aI hms (aI hmem hz))))))))))
      refine runRise_4 (x := ?_)
      clear ff
      refine .inl ⟨by simp, _, l[i].who.e, _, (by simp; exact ⟨rfl, rfl⟩), by simp [e1], by simp [e2], by simp [e7], by simp [e14], by simp [e15], by simp, fun _ => (by rw [Nat.add_sub_cancel]; exact (hps i hi).symm), fun j hj => ?_⟩
      by_cases hji : j = i
      ·rw [hji]; exact hyes
      ·exact hgood j (by omega)
     ·have hz : 0 < i := by omega
      by_cases hc : cmpB last.l l[i].who.e.l < 0
      ·have hyes : goodAt seen ps i = true := by rw [hg]; simp [hmem, hc]
       have hc' : ¬ (0 ≤ cmpB last.l l[i].who.e.l) := by omega
       have ff := aI e1 (aI e2 (aI e7 (aI e14 (aI e15 (aI e16 (aI p1 (aI p2 (aI hma (aI hms (aI hmem (aI hz hc')))))))))))
       refine runRise_4 (x := ?_)
       clear ff
       refine .inl ⟨by simp, _, l[i].who.e, _, (by simp; exact ⟨rfl, rfl⟩), by simp [e1], by simp [e2], by simp [e7], by simp [e14], by simp [e15], by simp, fun _ => (by rw [Nat.add_sub_cancel]; exact (hps i hi).symm), fun j hj => ?_⟩
       by_cases hji : j = i
       ·rw [hji]; exact hyes
       ·exact hgood j (by omega)
      ·have hno := riseB_no (seen := seen) (by rw [hpl]; exact hi) (by rw [hg]; simp [h0, hc])
       have hc' : 0 ≤ cmpB last.l l[i].who.e.l := by omega
       have ff := aI e1 (aI e2 (aI e7 (aI e14 (aI e15 (aI e16 (aI p1 (aI p2 (aI hma (aI hms (aI hmem (aI hz hc')))))))))))
       refine runRise_4 (x := ?_)
       clear ff
       refine .inr ⟨by simp, ?_⟩
       have ff := e1
       refine runRise_2 (x := ?_)
       clear ff
       exact ⟨S, _, (by simp [oneOrTuple, hno]; rfl), fun _ h => by rw [hno] at h; cases h⟩
   ·rintro st ⟨env', last, t, rfl, e1, e2, e7, e14, e15, e16, hlast, hgood⟩
    have hyes := riseB_yes (seen := seen) (ps := ps) (fun i hi => hgood i (by omega))
    have htk : ps.take l.length = ps := by rw [← hpl]; exact List.take_length
    rw [htk]
    generalize hS : seen ++ ps = S at *
    have ff := aI e1 (aI e15 e16)
    refine runRise_2 (x := ?_)
    clear ff
    refine ⟨by simp, ?_⟩
    have ff := aI e1 (aI e15 e16)
    refine runRise_2 (x := ?_)
    clear ff
    exact ⟨S, _, (by simp [oneOrTuple, hyes, h40]; rfl), fun _ _ => rfl⟩
  ·have ff := aI g0 (aI lx h40)
   refine runRise_2 (x := ?_)
   clear ff
   exact ⟨seen, [], by simp [oneOrTuple, h40, hself], fun h => absurd h h40⟩
 ·rintro r ⟨seen', t, rfl, hs⟩
  refine ⟨_, t, rfl, by simp, fun i b hb => ?_, rfl, seen', rfl, hs⟩
  rw [List.getElem?_set] at hb
  split at hb
  ·split at hb
   ·cases hb
    exact .inr (by simp [AV.under, unders_pt])
   ·cases hb
  ·exact .inl ⟨b, hb, rfl⟩
theorem c48 {h : Heap} {s : Inv} : SpecQ Tryz.prog 48 [eInv s] h fun r => r = (eCi s.who, h) := by
 refine SpecQ.drop1 rfl (q48 fun env g0 => ?_)
 have ff := g0
 refine runRise_5 (x := ?_)
 clear ff
 exact ⟨_, rfl⟩
set_option maxHeartbeats 1000000 in
theorem c47 {h : Heap} {x : AV} {l : List Inv} {m : Nat} {seen : List Pt} (hx : Row tInvite h x (l.map eInv)) (hm : h[m]? = some ⟨.node (seen.map pt), 0, .mp⟩) :
  SpecQ Tryz.prog 47 [x, .fn 48 [], .map m] h fun r => ∃ seen', r = (.bool (decide (l.length ≤ 40) && riseB seen (l.map (·.who.e))), h.set m ⟨.node (seen'.map pt), 0, .mp⟩) ∧ (l.length ≤ 40 → riseB seen (l.map (·.who.e)) = true → seen' = seen ++ l.map (·.who.e)) := by
 have lx := hx.len
 have bx := hx.bound
 rw [List.length_map] at lx bx
 have hself : h.set m ⟨.node (seen.map pt), 0, .mp⟩ = h := by
  apply List.ext_getElem?
  intro i
  rw [List.getElem?_set]
  split
  ·rename_i e; subst e; rw [if_pos (List.getElem?_eq_some_iff.1 hm).1, hm]
  ·rfl
 have hps : ∀ (i : Nat) (hi : i < l.length), (l.map (·.who.e)).getD i pt0 = l[i].who.e := fun i hi => by
  rw [List.getD_eq_getElem?_getD, List.getElem?_map, List.getElem?_eq_getElem hi]; rfl
 have hpl : (l.map (·.who.e)).length = l.length := List.length_map _
 generalize hP : l.map (·.who.e) = ps at hps hpl ⊢
 refine SpecQ.drop (K := fun r => ∃ seen' t, r = (.bool (decide (l.length ≤ 40) && riseB seen ps), h.set m ⟨.node (seen'.map pt), 0, .mp⟩ ++ t) ∧ (l.length ≤ 40 → riseB seen ps = true → seen' = seen ++ ps)) (q47 fun env g0 g1 g2 => ?_) _ ?_
 ·by_cases h40 : l.length ≤ 40
  ·have ff := aI g0 (aI g1 (aI g2 (aI lx h40)))
   refine runRise_6 (x := ?_)
   clear ff
   refine loop_up l.length (fun i st => ∃ env' last t, st = ⟨env', h.set m ⟨.node ((seen ++ ps.take i).map pt), 0, .mp⟩ ++ (⟨pt last, 0, .own⟩ :: t)⟩ ∧ env'.get 1 = .fn 48 [] ∧ env'.get 2 = .map m ∧ env'.get 7 = .ptr h.length 0 [] (.arr 32 (.int .u8)) ∧ env'.get 14 = x ∧ env'.get 15 = nat l.length ∧ env'.get 16 = nat i ∧
    (0 < i → last = ps.getD (i - 1) pt0) ∧ ∀ j, j < i → goodAt seen ps j = true) ?_ ?_ ⟨_, pt0, [], (by simp [hself]; rfl), by simp [g1], by simp [g2], by simp, by simp [g0], by simp, by simp, fun h => absurd h (by omega), fun j hj => absurd hj (by omega)⟩
   ·rintro i st hi ⟨env', last, t, rfl, e1, e2, e7, e14, e15, e16, hlast, hgood⟩
    have hx' : Row tInvite (h.set m ⟨.node ((seen ++ ps.take i).map pt), 0, .mp⟩) x (l.map eInv) := hx.setm hm rfl
    obtain ⟨p, p1, p2⟩ := hx'.idx (i := i) (by simpa using hi)
    rw [List.getElem?_map, List.getElem?_eq_getElem hi] at p2
    simp only [Option.map_some] at p2
    have hmm : (h.set m ⟨.node ((seen ++ ps.take i).map pt), 0, .mp⟩)[m]? = some ⟨.node ((seen ++ ps.take i).map pt), 0, .mp⟩ := List.getElem?_set_self (List.getElem?_eq_some_iff.1 hm).1
    have hma := mapAt_app hmm
    have hms := set_appL hmm
    have hg : goodAt seen ps i = (!decide (l[i].who.e ∈ seen ++ ps.take i) && (decide (i = 0) || decide (cmpB last.l l[i].who.e.l < 0))) := by
     unfold goodAt
     rw [hps i hi]
     by_cases h0 : i = 0
     ·simp [h0]
     ·rw [← hlast (by omega)]
    have hS1 : seen ++ ps.take (i + 1) = seen ++ ps.take i ++ [l[i].who.e] := by
     rw [List.append_assoc, List.take_add_one, ← hps i hi, List.getD_eq_getElem?_getD, List.getElem?_eq_getElem (by omega)]
     rfl
    rw [hS1]
    generalize seen ++ ps.take i = S at *
    by_cases hmem : l[i].who.e ∈ S
    ·have hno := riseB_no (seen := seen) (by rw [hpl]; exact hi) (by rw [hg]; simp [hmem])
     have ff := aI e1 (aI e2 (aI e7 (aI e14 (aI e15 (aI e16 (aI p1 (aI p2 (aI hma (aI hms hmem)))))))))
     refine runRise_7 (x := ?_)
     clear ff
     refine .inr ⟨by simp, ?_⟩
     have ff := e1
     refine runRise_6 (x := ?_)
     clear ff
     exact ⟨S, _, (by simp [oneOrTuple, hno]; rfl), fun _ h => by rw [hno] at h; cases h⟩
    ·by_cases h0 : i = 0
     ·have hyes : goodAt seen ps i = true := by rw [hg, decide_eq_true h0]; simp [hmem]
      have hz : ¬ (0 < i) := by omega
      have ff := aI e1 (aI e2 (aI e7 (aI e14 (aI e15 (aI e16 (aI p1 (aI p2 (aI hma (aI hms (aI hmem hz))))))))))
      refine runRise_8 (x := ?_)
      clear ff
      refine .inl ⟨by simp, _, l[i].who.e, _, (by simp; exact ⟨rfl, rfl⟩), by simp [e1], by simp [e2], by simp [e7], by simp [e14], by simp [e15], by simp, fun _ => (by rw [Nat.add_sub_cancel]; exact (hps i hi).symm), fun j hj => ?_⟩
      by_cases hji : j = i
      ·rw [hji]; exact hyes
      ·exact hgood j (by omega)
     ·have hz : 0 < i := by omega
      by_cases hc : cmpB last.l l[i].who.e.l < 0
      ·have hyes : goodAt seen ps i = true := by rw [hg]; simp [hmem, hc]
       have hc' : ¬ (0 ≤ cmpB last.l l[i].who.e.l) := by omega
       have ff := aI e1 (aI e2 (aI e7 (aI e14 (aI e15 (aI e16 (aI p1 (aI p2 (aI hma (aI hms (aI hmem (aI hz hc')))))))))))
       refine runRise_8 (x := ?_)
       clear ff
       refine .inl ⟨by simp, _, l[i].who.e, _, (by simp; exact ⟨rfl, rfl⟩), by simp [e1], by simp [e2], by simp [e7], by simp [e14], by simp [e15], by simp, fun _ => (by rw [Nat.add_sub_cancel]; exact (hps i hi).symm), fun j hj => ?_⟩
       by_cases hji : j = i
       ·rw [hji]; exact hyes
       ·exact hgood j (by omega)
      ·have hno := riseB_no (seen := seen) (by rw [hpl]; exact hi) (by rw [hg]; simp [h0, hc])
       have hc' : 0 ≤ cmpB last.l l[i].who.e.l := by omega
       have ff := aI e1 (aI e2 (aI e7 (aI e14 (aI e15 (aI e16 (aI p1 (aI p2 (aI hma (aI hms (aI hmem (aI hz hc')))))))))))
       refine runRise_8 (x := ?_)
       clear ff
       refine .inr ⟨by simp, ?_⟩
       have ff := e1
       refine runRise_6 (x := ?_)
       clear ff
       exact ⟨S, _, (by simp [oneOrTuple, hno]; rfl), fun _ h => by rw [hno] at h; cases h⟩
   ·rintro st ⟨env', last, t, rfl, e1, e2, e7, e14, e15, e16, hlast, hgood⟩
    have hyes := riseB_yes (seen := seen) (ps := ps) (fun i hi => hgood i (by omega))
    have htk : ps.take l.length = ps := by rw [← hpl]; exact List.take_length
    rw [htk]
    generalize hS : seen ++ ps = S at *
    have ff := aI e1 (aI e15 e16)
    refine runRise_6 (x := ?_)
    clear ff
    refine ⟨by simp, ?_⟩
    have ff := aI e1 (aI e15 e16)
    refine runRise_6 (x := ?_)
    clear ff
    exact ⟨S, _, (by simp [oneOrTuple, hyes, h40]; rfl), fun _ _ => rfl⟩
  ·have ff := aI g0 (aI lx h40)
   refine runRise_6 (x := ?_)
   clear ff
   exact ⟨seen, [], by simp [oneOrTuple, h40, hself], fun h => absurd h h40⟩
 ·rintro r ⟨seen', t, rfl, hs⟩
  refine ⟨_, t, rfl, by simp, fun i b hb => ?_, rfl, seen', rfl, hs⟩
  rw [List.getElem?_set] at hb
  split at hb
  ·split at hb
   ·cases hb
    exact .inr (by simp [AV.under, unders_pt])
   ·cases hb
  ·exact .inl ⟨b, hb, rfl⟩
theorem c50 {h : Heap} {s : Ask} : SpecQ Tryz.prog 50 [eAsk s] h fun r => r = (eCi s.who, h) := by
 refine SpecQ.drop1 rfl (q50 fun env g0 => ?_)
 have ff := g0
 refine runRise_9 (x := ?_)
 clear ff
 exact ⟨_, rfl⟩
set_option maxHeartbeats 1000000 in
theorem c49 {h : Heap} {x : AV} {l : List Ask} {m : Nat} {seen : List Pt} (hx : Row tAsk h x (l.map eAsk)) (hm : h[m]? = some ⟨.node (seen.map pt), 0, .mp⟩) :
  SpecQ Tryz.prog 49 [x, .fn 50 [], .map m] h fun r => ∃ seen', r = (.bool (decide (l.length ≤ 40) && riseB seen (l.map (·.who.e))), h.set m ⟨.node (seen'.map pt), 0, .mp⟩) ∧ (l.length ≤ 40 → riseB seen (l.map (·.who.e)) = true → seen' = seen ++ l.map (·.who.e)) := by
 have lx := hx.len
 have bx := hx.bound
 rw [List.length_map] at lx bx
 have hself : h.set m ⟨.node (seen.map pt), 0, .mp⟩ = h := by
  apply List.ext_getElem?
  intro i
  rw [List.getElem?_set]
  split
  ·rename_i e; subst e; rw [if_pos (List.getElem?_eq_some_iff.1 hm).1, hm]
  ·rfl
 have hps : ∀ (i : Nat) (hi : i < l.length), (l.map (·.who.e)).getD i pt0 = l[i].who.e := fun i hi => by
  rw [List.getD_eq_getElem?_getD, List.getElem?_map, List.getElem?_eq_getElem hi]; rfl
 have hpl : (l.map (·.who.e)).length = l.length := List.length_map _
 generalize hP : l.map (·.who.e) = ps at hps hpl ⊢
 refine SpecQ.drop (K := fun r => ∃ seen' t, r = (.bool (decide (l.length ≤ 40) && riseB seen ps), h.set m ⟨.node (seen'.map pt), 0, .mp⟩ ++ t) ∧ (l.length ≤ 40 → riseB seen ps = true → seen' = seen ++ ps)) (q49 fun env g0 g1 g2 => ?_) _ ?_
 ·by_cases h40 : l.length ≤ 40
  ·have ff := aI g0 (aI g1 (aI g2 (aI lx h40)))
   refine runRise_10 (x := ?_)
   clear ff
   refine loop_up l.length (fun i st => ∃ env' last t, st = ⟨env', h.set m ⟨.node ((seen ++ ps.take i).map pt), 0, .mp⟩ ++ (⟨pt last, 0, .own⟩ :: t)⟩ ∧ env'.get 1 = .fn 50 [] ∧ env'.get 2 = .map m ∧ env'.get 7 = .ptr h.length 0 [] (.arr 32 (.int .u8)) ∧ env'.get 14 = x ∧ env'.get 15 = nat l.length ∧ env'.get 16 = nat i ∧
    (0 < i → last = ps.getD (i - 1) pt0) ∧ ∀ j, j < i → goodAt seen ps j = true) ?_ ?_ ⟨_, pt0, [], (by simp [hself]; rfl), by simp [g1], by simp [g2], by simp, by simp [g0], by simp, by simp, fun h => absurd h (by omega), fun j hj => absurd hj (by omega)⟩
   ·rintro i st hi ⟨env', last, t, rfl, e1, e2, e7, e14, e15, e16, hlast, hgood⟩
    have hx' : Row tAsk (h.set m ⟨.node ((seen ++ ps.take i).map pt), 0, .mp⟩) x (l.map eAsk) := hx.setm hm rfl
    obtain ⟨p, p1, p2⟩ := hx'.idx (i := i) (by simpa using hi)
    rw [List.getElem?_map, List.getElem?_eq_getElem hi] at p2
    simp only [Option.map_some] at p2
    have hmm : (h.set m ⟨.node ((seen ++ ps.take i).map pt), 0, .mp⟩)[m]? = some ⟨.node ((seen ++ ps.take i).map pt), 0, .mp⟩ := List.getElem?_set_self (List.getElem?_eq_some_iff.1 hm).1
    have hma := mapAt_app hmm
    have hms := set_appL hmm
    have hg : goodAt seen ps i = (!decide (l[i].who.e ∈ seen ++ ps.take i) && (decide (i = 0) || decide (cmpB last.l l[i].who.e.l < 0))) := by
     unfold goodAt
     rw [hps i hi]
     by_cases h0 : i = 0
     ·simp [h0]
     ·rw [← hlast (by omega)]
    have hS1 : seen ++ ps.take (i + 1) = seen ++ ps.take i ++ [l[i].who.e] := by
     rw [List.append_assoc, List.take_add_one, ← hps i hi, List.getD_eq_getElem?_getD, List.getElem?_eq_getElem (by omega)]
     rfl
    rw [hS1]
    generalize seen ++ ps.take i = S at *
    by_cases hmem : l[i].who.e ∈ S
    ·have hno := riseB_no (seen := seen) (by rw [hpl]; exact hi) (by rw [hg]; simp [hmem])
     have ff := aI e1 (aI e2 (aI e7 (aI e14 (aI e15 (aI e16 (aI p1 (aI p2 (aI hma (aI hms hmem)))))))))
     refine runRise_11 (x := ?_)
     clear ff
     refine .inr ⟨by simp, ?_⟩
     have ff := e1
     refine runRise_10 (x := ?_)
     clear ff
     exact ⟨S, _, (by simp [oneOrTuple, hno]; rfl), fun _ h => by rw [hno] at h; cases h⟩
    ·by_cases h0 : i = 0
     ·have hyes : goodAt seen ps i = true := by rw [hg, decide_eq_true h0]; simp [hmem]
      have hz : ¬ (0 < i) := by omega
      have ff := aI e1 (aI e2 (aI e7 (aI e14 (aI e15 (aI e16 (aI p1 (aI p2 (aI hma (aI hms (aI hmem hz))))))))))
      refine runRise_12 (x := ?_)
      clear ff
      refine .inl ⟨by simp, _, l[i].who.e, _, (by simp; exact ⟨rfl, rfl⟩), by simp [e1], by simp [e2], by simp [e7], by simp [e14], by simp [e15], by simp, fun _ => (by rw [Nat.add_sub_cancel]; exact (hps i hi).symm), fun j hj => ?_⟩
      by_cases hji : j = i
      ·rw [hji]; exact hyes
      ·exact hgood j (by omega)
     ·have hz : 0 < i := by omega
      by_cases hc : cmpB last.l l[i].who.e.l < 0
      ·have hyes : goodAt seen ps i = true := by rw [hg]; simp [hmem, hc]
       have hc' : ¬ (0 ≤ cmpB last.l l[i].who.e.l) := by omega
       have ff := aI e1 (aI e2 (aI e7 (aI e14 (aI e15 (aI e16 (aI p1 (aI p2 (aI hma (aI hms (aI hmem (aI hz hc')))))))))))
       refine runRise_12 (x := ?_)
       clear ff
       refine .inl ⟨by simp, _, l[i].who.e, _, (by simp; exact ⟨rfl, rfl⟩), by simp [e1], by simp [e2], by simp [e7], by simp [e14], by simp [e15], by simp, fun _ => (by rw [Nat.add_sub_cancel]; exact (hps i hi).symm), fun j hj => ?_⟩
       by_cases hji : j = i
       ·rw [hji]; exact hyes
       ·exact hgood j (by omega)
      ·have hno := riseB_no (seen := seen) (by rw [hpl]; exact hi) (by rw [hg]; simp [h0, hc])
       have hc' : 0 ≤ cmpB last.l l[i].who.e.l := by omega
       have ff := aI e1 (aI e2 (aI e7 (aI e14 (aI e15 (aI e16 (aI p1 (aI p2 (aI hma (aI hms (aI hmem (aI hz hc')))))))))))
       refine runRise_12 (x := ?_)
       clear ff
       refine .inr ⟨by simp, ?_⟩
       have ff := e1
       refine runRise_10 (x := ?_)
       clear ff
       exact ⟨S, _, (by simp [oneOrTuple, hno]; rfl), fun _ h => by rw [hno] at h; cases h⟩
   ·rintro st ⟨env', last, t, rfl, e1, e2, e7, e14, e15, e16, hlast, hgood⟩
    have hyes := riseB_yes (seen := seen) (ps := ps) (fun i hi => hgood i (by omega))
    have htk : ps.take l.length = ps := by rw [← hpl]; exact List.take_length
    rw [htk]
    generalize hS : seen ++ ps = S at *
    have ff := aI e1 (aI e15 e16)
    refine runRise_10 (x := ?_)
    clear ff
    refine ⟨by simp, ?_⟩
    have ff := aI e1 (aI e15 e16)
    refine runRise_10 (x := ?_)
    clear ff
    exact ⟨S, _, (by simp [oneOrTuple, hyes, h40]; rfl), fun _ _ => rfl⟩
  ·have ff := aI g0 (aI lx h40)
   refine runRise_10 (x := ?_)
   clear ff
   exact ⟨seen, [], by simp [oneOrTuple, h40, hself], fun h => absurd h h40⟩
 ·rintro r ⟨seen', t, rfl, hs⟩
  refine ⟨_, t, rfl, by simp, fun i b hb => ?_, rfl, seen', rfl, hs⟩
  rw [List.getElem?_set] at hb
  split at hb
  ·split at hb
   ·cases hb
    exact .inr (by simp [AV.under, unders_pt])
   ·cases hb
  ·exact .inl ⟨b, hb, rfl⟩
theorem c52 {h : Heap} {s : Ban} : SpecQ Tryz.prog 52 [eBan s] h fun r => r = (eCi s.who, h) := by
 refine SpecQ.drop1 rfl (q52 fun env g0 => ?_)
 have ff := g0
 refine runRise_13 (x := ?_)
 clear ff
 exact ⟨_, rfl⟩
set_option maxHeartbeats 1000000 in
theorem c51 {h : Heap} {x : AV} {l : List Ban} {m : Nat} {seen : List Pt} (hx : Row tBan h x (l.map eBan)) (hm : h[m]? = some ⟨.node (seen.map pt), 0, .mp⟩) :
  SpecQ Tryz.prog 51 [x, .fn 52 [], .map m] h fun r => ∃ seen', r = (.bool (decide (l.length ≤ 40) && riseB seen (l.map (·.who.e))), h.set m ⟨.node (seen'.map pt), 0, .mp⟩) ∧ (l.length ≤ 40 → riseB seen (l.map (·.who.e)) = true → seen' = seen ++ l.map (·.who.e)) := by
 have lx := hx.len
 have bx := hx.bound
 rw [List.length_map] at lx bx
 have hself : h.set m ⟨.node (seen.map pt), 0, .mp⟩ = h := by
  apply List.ext_getElem?
  intro i
  rw [List.getElem?_set]
  split
  ·rename_i e; subst e; rw [if_pos (List.getElem?_eq_some_iff.1 hm).1, hm]
  ·rfl
 have hps : ∀ (i : Nat) (hi : i < l.length), (l.map (·.who.e)).getD i pt0 = l[i].who.e := fun i hi => by
  rw [List.getD_eq_getElem?_getD, List.getElem?_map, List.getElem?_eq_getElem hi]; rfl
 have hpl : (l.map (·.who.e)).length = l.length := List.length_map _
 generalize hP : l.map (·.who.e) = ps at hps hpl ⊢
 refine SpecQ.drop (K := fun r => ∃ seen' t, r = (.bool (decide (l.length ≤ 40) && riseB seen ps), h.set m ⟨.node (seen'.map pt), 0, .mp⟩ ++ t) ∧ (l.length ≤ 40 → riseB seen ps = true → seen' = seen ++ ps)) (q51 fun env g0 g1 g2 => ?_) _ ?_
 ·by_cases h40 : l.length ≤ 40
  ·have ff := aI g0 (aI g1 (aI g2 (aI lx h40)))
   refine runRise_14 (x := ?_)
   clear ff
   refine loop_up l.length (fun i st => ∃ env' last t, st = ⟨env', h.set m ⟨.node ((seen ++ ps.take i).map pt), 0, .mp⟩ ++ (⟨pt last, 0, .own⟩ :: t)⟩ ∧ env'.get 1 = .fn 52 [] ∧ env'.get 2 = .map m ∧ env'.get 7 = .ptr h.length 0 [] (.arr 32 (.int .u8)) ∧ env'.get 14 = x ∧ env'.get 15 = nat l.length ∧ env'.get 16 = nat i ∧
    (0 < i → last = ps.getD (i - 1) pt0) ∧ ∀ j, j < i → goodAt seen ps j = true) ?_ ?_ ⟨_, pt0, [], (by simp [hself]; rfl), by simp [g1], by simp [g2], by simp, by simp [g0], by simp, by simp, fun h => absurd h (by omega), fun j hj => absurd hj (by omega)⟩
   ·rintro i st hi ⟨env', last, t, rfl, e1, e2, e7, e14, e15, e16, hlast, hgood⟩
    have hx' : Row tBan (h.set m ⟨.node ((seen ++ ps.take i).map pt), 0, .mp⟩) x (l.map eBan) := hx.setm hm rfl
    obtain ⟨p, p1, p2⟩ := hx'.idx (i := i) (by simpa using hi)
    rw [List.getElem?_map, List.getElem?_eq_getElem hi] at p2
    simp only [Option.map_some] at p2
    have hmm : (h.set m ⟨.node ((seen ++ ps.take i).map pt), 0, .mp⟩)[m]? = some ⟨.node ((seen ++ ps.take i).map pt), 0, .mp⟩ := List.getElem?_set_self (List.getElem?_eq_some_iff.1 hm).1
    have hma := mapAt_app hmm
    have hms := set_appL hmm
    have hg : goodAt seen ps i = (!decide (l[i].who.e ∈ seen ++ ps.take i) && (decide (i = 0) || decide (cmpB last.l l[i].who.e.l < 0))) := by
     unfold goodAt
     rw [hps i hi]
     by_cases h0 : i = 0
     ·simp [h0]
     ·rw [← hlast (by omega)]
    have hS1 : seen ++ ps.take (i + 1) = seen ++ ps.take i ++ [l[i].who.e] := by
     rw [List.append_assoc, List.take_add_one, ← hps i hi, List.getD_eq_getElem?_getD, List.getElem?_eq_getElem (by omega)]
     rfl
    rw [hS1]
    generalize seen ++ ps.take i = S at *
    by_cases hmem : l[i].who.e ∈ S
    ·have hno := riseB_no (seen := seen) (by rw [hpl]; exact hi) (by rw [hg]; simp [hmem])
     have ff := aI e1 (aI e2 (aI e7 (aI e14 (aI e15 (aI e16 (aI p1 (aI p2 (aI hma (aI hms hmem)))))))))
     refine runRise_15 (x := ?_)
     clear ff
     refine .inr ⟨by simp, ?_⟩
     have ff := e1
     refine runRise_14 (x := ?_)
     clear ff
     exact ⟨S, _, (by simp [oneOrTuple, hno]; rfl), fun _ h => by rw [hno] at h; cases h⟩
    ·by_cases h0 : i = 0
     ·have hyes : goodAt seen ps i = true := by rw [hg, decide_eq_true h0]; simp [hmem]
      have hz : ¬ (0 < i) := by omega
      have ff := aI e1 (aI e2 (aI e7 (aI e14 (aI e15 (aI e16 (aI p1 (aI p2 (aI hma (aI hms (aI hmem hz))))))))))
      refine runRise_16 (x := ?_)
      clear ff
      refine .inl ⟨by simp, _, l[i].who.e, _, (by simp; exact ⟨rfl, rfl⟩), by simp [e1], by simp [e2], by simp [e7], by simp [e14], by simp [e15], by simp, fun _ => (by rw [Nat.add_sub_cancel]; exact (hps i hi).symm), fun j hj => ?_⟩
      by_cases hji : j = i
      ·rw [hji]; exact hyes
      ·exact hgood j (by omega)
     ·have hz : 0 < i := by omega
      by_cases hc : cmpB last.l l[i].who.e.l < 0
      ·have hyes : goodAt seen ps i = true := by rw [hg]; simp [hmem, hc]
       have hc' : ¬ (0 ≤ cmpB last.l l[i].who.e.l) := by omega
       have ff := aI e1 (aI e2 (aI e7 (aI e14 (aI e15 (aI e16 (aI p1 (aI p2 (aI hma (aI hms (aI hmem (aI hz hc')))))))))))
       refine runRise_16 (x := ?_)
       clear ff
       refine .inl ⟨by simp, _, l[i].who.e, _, (by simp; exact ⟨rfl, rfl⟩), by simp [e1], by simp [e2], by simp [e7], by simp [e14], by simp [e15], by simp, fun _ => (by rw [Nat.add_sub_cancel]; exact (hps i hi).symm), fun j hj => ?_⟩
       by_cases hji : j = i
       ·rw [hji]; exact hyes
       ·exact hgood j (by omega)
      ·have hno := riseB_no (seen := seen) (by rw [hpl]; exact hi) (by rw [hg]; simp [h0, hc])
       have hc' : 0 ≤ cmpB last.l l[i].who.e.l := by omega
       have ff := aI e1 (aI e2 (aI e7 (aI e14 (aI e15 (aI e16 (aI p1 (aI p2 (aI hma (aI hms (aI hmem (aI hz hc')))))))))))
       refine runRise_16 (x := ?_)
       clear ff
       refine .inr ⟨by simp, ?_⟩
       have ff := e1
       refine runRise_14 (x := ?_)
       clear ff
       exact ⟨S, _, (by simp [oneOrTuple, hno]; rfl), fun _ h => by rw [hno] at h; cases h⟩
   ·rintro st ⟨env', last, t, rfl, e1, e2, e7, e14, e15, e16, hlast, hgood⟩
    have hyes := riseB_yes (seen := seen) (ps := ps) (fun i hi => hgood i (by omega))
    have htk : ps.take l.length = ps := by rw [← hpl]; exact List.take_length
    rw [htk]
    generalize hS : seen ++ ps = S at *
    have ff := aI e1 (aI e15 e16)
    refine runRise_14 (x := ?_)
    clear ff
    refine ⟨by simp, ?_⟩
    have ff := aI e1 (aI e15 e16)
    refine runRise_14 (x := ?_)
    clear ff
    exact ⟨S, _, (by simp [oneOrTuple, hyes, h40]; rfl), fun _ _ => rfl⟩
  ·have ff := aI g0 (aI lx h40)
   refine runRise_14 (x := ?_)
   clear ff
   exact ⟨seen, [], by simp [oneOrTuple, h40, hself], fun h => absurd h h40⟩
 ·rintro r ⟨seen', t, rfl, hs⟩
  refine ⟨_, t, rfl, by simp, fun i b hb => ?_, rfl, seen', rfl, hs⟩
  rw [List.getElem?_set] at hb
  split at hb
  ·split at hb
   ·cases hb
    exact .inr (by simp [AV.under, unders_pt])
   ·cases hb
  ·exact .inl ⟨b, hb, rfl⟩
end Go.Vab

/- How the code of a function is read. Printed by wip/tools/gen2.py and gen3.py (own work). -/
namespace Go.Vab
open Go Go.Proofs
noncomputable section
def cx108 : Ctx := ⟨fun _ _ _ => none,TT,16,[7,8,9,10,11,12,13,14,15]⟩
def n108_0 := bodyOf Tryz.f108
def n108_1 := cR n108_0
def n108_2 := cR n108_1
def n108_3 := cR n108_2
def q108 := zQ3 cx108 108 Tryz.f108 n108_0 fun s => (bnd (some (s.env.get 5)) fun v => bnd (some []) fun vs => some (v :: vs))
set_option maxRecDepth 20000
set_option maxHeartbeats 4000000
def n108_2_w := zDr cx108 [n108_3,n108_2] [] [0,0,3,7] [0,1,2,3] .f
def sn108 := zAll cx108 [[n108_3],[n108_2,n108_1],[n108_1,n108_0]]
end
end Go.Vab

/- How the code of a function is read. Printed by wip/tools/gen2.py and gen3.py (own work). -/
namespace Go.Vab
open Go Go.Proofs
noncomputable section
def cx120 : Ctx := ⟨fun _ _ _ => none,TT,16,[7,8,9,10,11,12,13,14,15]⟩
def n120_0 := bodyOf Tryz.f120
def n120_1 := cR n120_0
def n120_2 := cR n120_1
def n120_3 := cR n120_2
def q120 := zQ3 cx120 120 Tryz.f120 n120_0 fun s => (bnd (some (s.env.get 5)) fun v => bnd (some []) fun vs => some (v :: vs))
set_option maxRecDepth 20000
set_option maxHeartbeats 4000000
def n120_2_w := zDr cx120 [n120_3,n120_2] [] [0,0,3,7] [0,1,2,3] .f
def sn120 := zAll cx120 [[n120_3],[n120_2,n120_1],[n120_1,n120_0]]
end
end Go.Vab

/- How the code of a function is read. Printed by wip/tools/gen2.py and gen3.py (own work). -/
namespace Go.Vab
open Go Go.Proofs
noncomputable section
def cx122 : Ctx := ⟨fun _ _ _ => none,TT,16,[7,8,9,10,11,12,13,14,15]⟩
def n122_0 := bodyOf Tryz.f122
def n122_1 := cR n122_0
def n122_2 := cR n122_1
def n122_3 := cR n122_2
def q122 := zQ3 cx122 122 Tryz.f122 n122_0 fun s => (bnd (some (s.env.get 5)) fun v => bnd (some []) fun vs => some (v :: vs))
set_option maxRecDepth 20000
set_option maxHeartbeats 4000000
def n122_2_w := zDr cx122 [n122_3,n122_2] [] [0,0,3,7] [0,1,2,3] .f
def sn122 := zAll cx122 [[n122_3],[n122_2,n122_1],[n122_1,n122_0]]
end
end Go.Vab

/- How the code of a function is read. Printed by wip/tools/gen2.py and gen3.py (own work). -/
namespace Go.Vab
open Go Go.Proofs
noncomputable section
def cx131 : Ctx := ⟨fun _ _ _ => none,TT,16,[7,8,9,10,11,12,13,14,15]⟩
def n131_0 := bodyOf Tryz.f131
def n131_1 := cR n131_0
def n131_2 := cR n131_1
def n131_3 := cR n131_2
def q131 := zQ3 cx131 131 Tryz.f131 n131_0 fun s => (bnd (some (s.env.get 5)) fun v => bnd (some []) fun vs => some (v :: vs))
set_option maxRecDepth 20000
set_option maxHeartbeats 4000000
def n131_2_w := zDr cx131 [n131_3,n131_2] [] [0,0,3,7] [0,1,2,3] .f
def sn131 := zAll cx131 [[n131_3],[n131_2,n131_1],[n131_1,n131_0]]
end
end Go.Vab

/-
  Where somebody stands in the program's lists: the comparison.
-/
namespace Go.Vab
open Go Go.Proofs
theorem runRp3_0 {G X : Prop} (f : Hd X → G := by
 intro xX
 repeat' (first | refine stp (x := ?_) | (with_reducible refine ValW_i (c91) ?_; try dsimp only) | (with_reducible refine SpecQ.step (c91) ?_; rintro _ rfl; try dsimp only) | (with_reducible refine ValW_i (c88 (s1 _) (s2 _)) ?_; try dsimp only) | (with_reducible refine SpecQ.step (c88 (s1 _) (s2 _)) ?_; rintro _ rfl; try dsimp only) | (simp (decide := true) only [sn108, snB, if_true, if_false]) | (with_reducible refine n108_2_w _ _ _ ?_))
 exact xX.get) (x : X) : G := f ⟨x⟩
theorem runRp3_1 {G X : Prop} (f : Hd X → G := by
 intro xX
 repeat' (first | refine stp (x := ?_) | (with_reducible refine ValW_i (c92) ?_; try dsimp only) | (with_reducible refine SpecQ.step (c92) ?_; rintro _ rfl; try dsimp only) | (with_reducible refine ValW_i (c88 (s1 _) (s2 _)) ?_; try dsimp only) | (with_reducible refine SpecQ.step (c88 (s1 _) (s2 _)) ?_; rintro _ rfl; try dsimp only) | (simp (decide := true) only [sn120, snB, if_true, if_false]) | (with_reducible refine n120_2_w _ _ _ ?_))
 exact xX.get) (x : X) : G := f ⟨x⟩
theorem runRp3_2 {G X : Prop} (f : Hd X → G := by
 intro xX
 repeat' (first | refine stp (x := ?_) | (with_reducible refine ValW_i (c93) ?_; try dsimp only) | (with_reducible refine SpecQ.step (c93) ?_; rintro _ rfl; try dsimp only) | (with_reducible refine ValW_i (c88 (s1 _) (s2 _)) ?_; try dsimp only) | (with_reducible refine SpecQ.step (c88 (s1 _) (s2 _)) ?_; rintro _ rfl; try dsimp only) | (simp (decide := true) only [sn122, snB, if_true, if_false]) | (with_reducible refine n122_2_w _ _ _ ?_))
 exact xX.get) (x : X) : G := f ⟨x⟩
theorem runRp3_3 {G X : Prop} (f : Hd X → G := by
 intro xX
 repeat' (first | refine stp (x := ?_) | (with_reducible refine ValW_i (c117) ?_; try dsimp only) | (with_reducible refine SpecQ.step (c117) ?_; rintro _ rfl; try dsimp only) | (with_reducible refine ValW_i (c88 (s1 _) (s2 _)) ?_; try dsimp only) | (with_reducible refine SpecQ.step (c88 (s1 _) (s2 _)) ?_; rintro _ rfl; try dsimp only) | (simp (decide := true) only [sn131, snB, if_true, if_false]) | (with_reducible refine n131_2_w _ _ _ ?_))
 exact xX.get) (x : X) : G := f ⟨x⟩
theorem c108 {h : Heap} {x : Seat} {e : Pt} {c : Nat} (hc : ∀ l, mLoad .cell (.ptr c 0 [1] .cell) (h ++ l) = some (.fn 91 [])) : SpecQ Tryz.prog 108 [eSeat x, pt e, .ptr c 0 [] tRollSeat] h fun r => r = (.int .i64 (cmpB x.who.e.l e.l), h) := by
 refine SpecQ.drop1 rfl (q108 fun env g0 g1 g2 => ?_)
 have s1 := fun l => (pt_bytA (h := h ++ ⟨eSeat x, 0, .own⟩ :: ⟨pt e, 0, .own⟩ :: ⟨pt x.who.e, 0, .own⟩ :: l) (i := h.length + 2) (path := []) (p := x.who.e) (by simp))
 have s2 := fun l => (pt_bytA (h := h ++ ⟨eSeat x, 0, .own⟩ :: ⟨pt e, 0, .own⟩ :: ⟨pt x.who.e, 0, .own⟩ :: l) (i := h.length + 1) (path := []) (p := e) (by simp))
 have ff := aI g0 (aI g1 (aI g2 hc))
 refine runRp3_0 (x := ?_)
 clear ff
 exact ⟨_, rfl⟩
theorem c120 {h : Heap} {x : Inv} {e : Pt} {c : Nat} (hc : ∀ l, mLoad .cell (.ptr c 0 [1] .cell) (h ++ l) = some (.fn 92 [])) : SpecQ Tryz.prog 120 [eInv x, pt e, .ptr c 0 [] tRollInvite] h fun r => r = (.int .i64 (cmpB x.who.e.l e.l), h) := by
 refine SpecQ.drop1 rfl (q120 fun env g0 g1 g2 => ?_)
 have s1 := fun l => (pt_bytA (h := h ++ ⟨eInv x, 0, .own⟩ :: ⟨pt e, 0, .own⟩ :: ⟨pt x.who.e, 0, .own⟩ :: l) (i := h.length + 2) (path := []) (p := x.who.e) (by simp))
 have s2 := fun l => (pt_bytA (h := h ++ ⟨eInv x, 0, .own⟩ :: ⟨pt e, 0, .own⟩ :: ⟨pt x.who.e, 0, .own⟩ :: l) (i := h.length + 1) (path := []) (p := e) (by simp))
 have ff := aI g0 (aI g1 (aI g2 hc))
 refine runRp3_1 (x := ?_)
 clear ff
 exact ⟨_, rfl⟩
theorem c122 {h : Heap} {x : Ask} {e : Pt} {c : Nat} (hc : ∀ l, mLoad .cell (.ptr c 0 [1] .cell) (h ++ l) = some (.fn 93 [])) : SpecQ Tryz.prog 122 [eAsk x, pt e, .ptr c 0 [] tRollAsk] h fun r => r = (.int .i64 (cmpB x.who.e.l e.l), h) := by
 refine SpecQ.drop1 rfl (q122 fun env g0 g1 g2 => ?_)
 have s1 := fun l => (pt_bytA (h := h ++ ⟨eAsk x, 0, .own⟩ :: ⟨pt e, 0, .own⟩ :: ⟨pt x.who.e, 0, .own⟩ :: l) (i := h.length + 2) (path := []) (p := x.who.e) (by simp))
 have s2 := fun l => (pt_bytA (h := h ++ ⟨eAsk x, 0, .own⟩ :: ⟨pt e, 0, .own⟩ :: ⟨pt x.who.e, 0, .own⟩ :: l) (i := h.length + 1) (path := []) (p := e) (by simp))
 have ff := aI g0 (aI g1 (aI g2 hc))
 refine runRp3_2 (x := ?_)
 clear ff
 exact ⟨_, rfl⟩
theorem c131 {h : Heap} {x : Ban} {e : Pt} {c : Nat} (hc : ∀ l, mLoad .cell (.ptr c 0 [1] .cell) (h ++ l) = some (.fn 117 [])) : SpecQ Tryz.prog 131 [eBan x, pt e, .ptr c 0 [] tRollBan] h fun r => r = (.int .i64 (cmpB x.who.e.l e.l), h) := by
 refine SpecQ.drop1 rfl (q131 fun env g0 g1 g2 => ?_)
 have s1 := fun l => (pt_bytA (h := h ++ ⟨eBan x, 0, .own⟩ :: ⟨pt e, 0, .own⟩ :: ⟨pt x.who.e, 0, .own⟩ :: l) (i := h.length + 2) (path := []) (p := x.who.e) (by simp))
 have s2 := fun l => (pt_bytA (h := h ++ ⟨eBan x, 0, .own⟩ :: ⟨pt e, 0, .own⟩ :: ⟨pt x.who.e, 0, .own⟩ :: l) (i := h.length + 1) (path := []) (p := e) (by simp))
 have ff := aI g0 (aI g1 (aI g2 hc))
 refine runRp3_3 (x := ?_)
 clear ff
 exact ⟨_, rfl⟩
end Go.Vab

/- How the code of a function is read. Printed by wip/tools/gen2.py and gen3.py (own work). -/
namespace Go.Vab
open Go Go.Proofs
noncomputable section
def cx107 : Ctx := ⟨fun _ _ _ => none,TT,49,[12,13,14,15,16,18,19,20,21,22,23,24,25,26,27,28,29,30,32,33,34,35,36,37,38,39,40,41,42,43,44,45,46,47,48]⟩
def n107_0 := bodyOf Tryz.f107
def n107_1 := cR n107_0
def n107_2 := cR n107_1
def n107_3 := cR n107_2
def n107_4 := cL n107_3
def n107_5 := cB n107_4
def n107_6 := cB n107_5
def n107_7 := cL n107_6
def n107_8 := cR n107_7
def n107_9 := cL n107_8
def n107_10 := cR n107_8
def n107_11 := cR n107_6
def n107_12 := cB n107_11
def n107_13 := cR n107_12
def n107_14 := cR n107_13
def n107_15 := cL n107_14
def n107_16 := cR n107_14
def n107_17 := cR n107_3
def n107_18 := cR n107_17
def q107 := zQ3 cx107 107 Tryz.f107 n107_0 fun s => (bnd (some (s.env.get 6)) fun v => bnd (bnd (some (s.env.get 7)) fun v => bnd (some []) fun vs => some (v :: vs)) fun vs => some (v :: vs))
set_option maxRecDepth 20000
set_option maxHeartbeats 4000000
def n107_13_w := zDr cx107 [n107_14,n107_13] [] [0,0,0,6,14,0,63,127] [0,1,2,3,4,5,6,7] .f
def n107_17_w := zDr cx107 [n107_18,n107_17] [] [0,0,0,6,14,30,30,30,222,478,30,2046,4094,8190,4095,32767] [0,1,2,3,4,5,6,7,8,9,10,11,12,13,14,15] .f
def sn107 := zAll cx107 [[n107_9],[n107_10],[n107_9,n107_10,n107_8],[n107_8,n107_7],[n107_15],[n107_16],[n107_15,n107_16,n107_14],[n107_13,n107_12],[n107_12,n107_11],[n107_7,n107_11,n107_6],[n107_6,n107_5],[n107_5,n107_4],[n107_18],[n107_4,n107_17,n107_3],[n107_3,n107_2],[n107_2,n107_1],[n107_1,n107_0]]
end
end Go.Vab

/- How the code of a function is read. Printed by wip/tools/gen2.py and gen3.py (own work). -/
namespace Go.Vab
open Go Go.Proofs
noncomputable section
def cx119 : Ctx := ⟨fun _ _ _ => none,TT,49,[12,13,14,15,16,18,19,20,21,22,23,24,25,26,27,28,29,30,32,33,34,35,36,37,38,39,40,41,42,43,44,45,46,47,48]⟩
def n119_0 := bodyOf Tryz.f119
def n119_1 := cR n119_0
def n119_2 := cR n119_1
def n119_3 := cR n119_2
def n119_4 := cL n119_3
def n119_5 := cB n119_4
def n119_6 := cB n119_5
def n119_7 := cL n119_6
def n119_8 := cR n119_7
def n119_9 := cL n119_8
def n119_10 := cR n119_8
def n119_11 := cR n119_6
def n119_12 := cB n119_11
def n119_13 := cR n119_12
def n119_14 := cR n119_13
def n119_15 := cL n119_14
def n119_16 := cR n119_14
def n119_17 := cR n119_3
def n119_18 := cR n119_17
def q119 := zQ3 cx119 119 Tryz.f119 n119_0 fun s => (bnd (some (s.env.get 6)) fun v => bnd (bnd (some (s.env.get 7)) fun v => bnd (some []) fun vs => some (v :: vs)) fun vs => some (v :: vs))
set_option maxRecDepth 20000
set_option maxHeartbeats 4000000
def n119_13_w := zDr cx119 [n119_14,n119_13] [] [0,0,0,6,14,0,63,127] [0,1,2,3,4,5,6,7] .f
def n119_17_w := zDr cx119 [n119_18,n119_17] [] [0,0,0,6,14,30,30,30,222,478,30,2046,4094,8190,4095,32767] [0,1,2,3,4,5,6,7,8,9,10,11,12,13,14,15] .f
def sn119 := zAll cx119 [[n119_9],[n119_10],[n119_9,n119_10,n119_8],[n119_8,n119_7],[n119_15],[n119_16],[n119_15,n119_16,n119_14],[n119_13,n119_12],[n119_12,n119_11],[n119_7,n119_11,n119_6],[n119_6,n119_5],[n119_5,n119_4],[n119_18],[n119_4,n119_17,n119_3],[n119_3,n119_2],[n119_2,n119_1],[n119_1,n119_0]]
end
end Go.Vab

/- How the code of a function is read. Printed by wip/tools/gen2.py and gen3.py (own work). -/
namespace Go.Vab
open Go Go.Proofs
noncomputable section
def cx121 : Ctx := ⟨fun _ _ _ => none,TT,49,[12,13,14,15,16,18,19,20,21,22,23,24,25,26,27,28,29,30,32,33,34,35,36,37,38,39,40,41,42,43,44,45,46,47,48]⟩
def n121_0 := bodyOf Tryz.f121
def n121_1 := cR n121_0
def n121_2 := cR n121_1
def n121_3 := cR n121_2
def n121_4 := cL n121_3
def n121_5 := cB n121_4
def n121_6 := cB n121_5
def n121_7 := cL n121_6
def n121_8 := cR n121_7
def n121_9 := cL n121_8
def n121_10 := cR n121_8
def n121_11 := cR n121_6
def n121_12 := cB n121_11
def n121_13 := cR n121_12
def n121_14 := cR n121_13
def n121_15 := cL n121_14
def n121_16 := cR n121_14
def n121_17 := cR n121_3
def n121_18 := cR n121_17
def q121 := zQ3 cx121 121 Tryz.f121 n121_0 fun s => (bnd (some (s.env.get 6)) fun v => bnd (bnd (some (s.env.get 7)) fun v => bnd (some []) fun vs => some (v :: vs)) fun vs => some (v :: vs))
set_option maxRecDepth 20000
set_option maxHeartbeats 4000000
def n121_13_w := zDr cx121 [n121_14,n121_13] [] [0,0,0,6,14,0,63,127] [0,1,2,3,4,5,6,7] .f
def n121_17_w := zDr cx121 [n121_18,n121_17] [] [0,0,0,6,14,30,30,30,222,478,30,2046,4094,8190,4095,32767] [0,1,2,3,4,5,6,7,8,9,10,11,12,13,14,15] .f
def sn121 := zAll cx121 [[n121_9],[n121_10],[n121_9,n121_10,n121_8],[n121_8,n121_7],[n121_15],[n121_16],[n121_15,n121_16,n121_14],[n121_13,n121_12],[n121_12,n121_11],[n121_7,n121_11,n121_6],[n121_6,n121_5],[n121_5,n121_4],[n121_18],[n121_4,n121_17,n121_3],[n121_3,n121_2],[n121_2,n121_1],[n121_1,n121_0]]
end
end Go.Vab

/- How the code of a function is read. Printed by wip/tools/gen2.py and gen3.py (own work). -/
namespace Go.Vab
open Go Go.Proofs
noncomputable section
def cx130 : Ctx := ⟨fun _ _ _ => none,TT,49,[12,13,14,15,16,18,19,20,21,22,23,24,25,26,27,28,29,30,32,33,34,35,36,37,38,39,40,41,42,43,44,45,46,47,48]⟩
def n130_0 := bodyOf Tryz.f130
def n130_1 := cR n130_0
def n130_2 := cR n130_1
def n130_3 := cR n130_2
def n130_4 := cL n130_3
def n130_5 := cB n130_4
def n130_6 := cB n130_5
def n130_7 := cL n130_6
def n130_8 := cR n130_7
def n130_9 := cL n130_8
def n130_10 := cR n130_8
def n130_11 := cR n130_6
def n130_12 := cB n130_11
def n130_13 := cR n130_12
def n130_14 := cR n130_13
def n130_15 := cL n130_14
def n130_16 := cR n130_14
def n130_17 := cR n130_3
def n130_18 := cR n130_17
def q130 := zQ3 cx130 130 Tryz.f130 n130_0 fun s => (bnd (some (s.env.get 6)) fun v => bnd (bnd (some (s.env.get 7)) fun v => bnd (some []) fun vs => some (v :: vs)) fun vs => some (v :: vs))
set_option maxRecDepth 20000
set_option maxHeartbeats 4000000
def n130_13_w := zDr cx130 [n130_14,n130_13] [] [0,0,0,6,14,0,63,127] [0,1,2,3,4,5,6,7] .f
def n130_17_w := zDr cx130 [n130_18,n130_17] [] [0,0,0,6,14,30,30,30,222,478,30,2046,4094,8190,4095,32767] [0,1,2,3,4,5,6,7,8,9,10,11,12,13,14,15] .f
def sn130 := zAll cx130 [[n130_9],[n130_10],[n130_9,n130_10,n130_8],[n130_8,n130_7],[n130_15],[n130_16],[n130_15,n130_16,n130_14],[n130_13,n130_12],[n130_12,n130_11],[n130_7,n130_11,n130_6],[n130_6,n130_5],[n130_5,n130_4],[n130_18],[n130_4,n130_17,n130_3],[n130_3,n130_2],[n130_2,n130_1],[n130_1,n130_0]]
end
end Go.Vab
