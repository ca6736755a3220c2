/-
  The program's own place, and what it does for those who stand nowhere; walked.
-/
import Derived.Test.YtjoepfedeidgaaaGreatV2
import Derived.Test.YtjoepfedeidgaaaGreatV6
import Derived.Test.YtjoepfedeidgaaaGreatV3
set_option linter.all false
set_option linter.unusedSectionVars false
namespace Go.Vab
open Go Go.Proofs
theorem runRp20_0 {G X : Prop} (f : Hd X → G := by
 intro xX
 repeat' (first | refine stp (x := ?_) | (with_reducible refine SpecQ.step (c9 (ra.app _) (rc.app _)) ?_; rintro _ rfl; try dsimp only) | (with_reducible refine SpecQ.step (c10) ?_; rintro _ rfl; try dsimp only) | (simp (decide := true) only [sn6, snB, if_true, if_false]))
 exact xX.get) (x : X) : G := f ⟨x⟩
theorem runRp20_1 {G X : Prop} (f : Hd X → G := by
 intro xX
 repeat' (first | refine stp (x := ?_) | (with_reducible refine SpecQ.step (c9 (ra.app _) (rc.app _)) ?_; rintro _ rfl; try dsimp only) | (with_reducible refine SpecQ.step (c26 (ra.app _)) ?_; rintro _ rfl; try dsimp only) | (simp (decide := true) only [sn6, snB, if_true, if_false]))
 exact xX.get) (x : X) : G := f ⟨x⟩
theorem runRp20_2 {G X : Prop} (f : Hd X → G := by
 intro xX
 repeat' (first | refine stp (x := ?_) | (with_reducible refine SpecQ.step (c10) ?_; rintro _ rfl; try dsimp only) | (simp (decide := true) only [sn6, snB, if_true, if_false]))
 exact xX.get) (x : X) : G := f ⟨x⟩
@[simp] theorem ePlace_0 (x : Nat × BitVec 64 × Pt) : mExtract (ePlace x) 0 = some (nat x.1) := rfl
@[simp] theorem ePlace_1 (x : Nat × BitVec 64 × Pt) : mExtract (ePlace x) 1 = some (u64 x.2.1) := rfl
@[simp] theorem ePlace_2 (x : Nat × BitVec 64 × Pt) : mExtract (ePlace x) 2 = some (pt x.2.2) := rfl
theorem stepP_err {s : Stt} {b : Pt} {a : Actn} {k : Nat} (h : stepP s b a = .error k) : k ≠ 0 := by
 unfold stepP at h
 split at h
 ·cases h; decide
 split at h
 ·cases h; decide
 split at h
 ·cases h; decide
 split at h
 ·rename_i e he
  cases h
  exact madeP_err he
 ·cases h
theorem placeP_le (s : Stt) (b : Pt) : (placeP s b).1 ≤ 4 := by
 unfold placeP
 repeat' split
 all_goals simp
theorem eSt0_st {H : Heap} : StR H st0 .nilslice .nilslice .nilslice .nilslice .nilslice .nilslice := ⟨BytL.nil _, BytL.nil _, nilRow tSeat_x _, nilRow tInvite_x _, nilRow tAsk_x _, nilRow tBan_x _⟩
theorem c6 {h : Heap} {s : Stt} {vt vp vs vi va vb : AV} {b : Pt} {a : Actn} {wt wp : AV} (ra : StR h s vt vp vs vi va vb) (rc : ActR h a wt wp) : SpecQ Tryz.prog 6 [eSt s vt vp vs vi va vb, pt b, eAct a wt wp] h fun r => r.1 = .bool true := by
 have ta := ra.cells
 have tc := rc.cells
 refine q6 fun env g0 g1 g2 => ?_
 cases hL : largeP s a
 rotate_left
 ·have ff := aI g0 (aI g1 (aI g2 (aI ta (aI tc hL))))
  refine runRp20_0 (x := ?_)
  clear ff
  rfl
 have ff := aI g0 (aI g1 (aI g2 (aI ta (aI tc hL))))
 refine runRp20_1 (x := ?_)
 clear ff
 refine SpecQ.step (c13 (ra.app _) (rc.app _)) ?_
 rintro _ hr
 have hp := placeP_le s b
 cases hs : stepP s b a with
 | error k =>
  rw [hs] at hr
  obtain ⟨t, rfl⟩ := hr
  have hk := stepP_err hs
  have ff := aI g0 (aI g1 (aI g2 (aI ta (aI tc hk))))
  refine runRp20_2 (x := ?_)
  clear ff
  refine SpecQ.step (c15 eSt0_st eSt0_st) ?_
  rintro _ rfl
  rw [decide_eq_true (rfl : st0 = st0)]
  have ff := g0
  refine runRp20_2 (x := ?_)
  clear ff
  rfl
 | ok z =>
  rw [hs] at hr
  obtain ⟨κ, t, ut, up, us, ui, ua, ub, rfl, w, h0⟩ := hr
  have tu := w.str.cells
  by_cases hq : 1 ≤ (placeP s b).1 ∧ (placeP s b).1 ≤ 3
  ·obtain ⟨hq1, hq2⟩ := hq
   have ff := aI g0 (aI g1 (aI g2 (aI ta (aI tc (aI tu (aI hq1 (aI hq2 hp)))))))
   refine runRp20_2 (x := ?_)
   clear ff
   rfl
  ·obtain ⟨a1, a2, a3, a4, a5⟩ := apart_law hs hq
   have sp := fun l => (ra.fp.app l).str
   have sq := fun l => (rc.p.app l).str
   have lp := ra.fp.len
   have bp := ra.fp.bound
   rcases a2 with a2 | a2
   ·have ff := aI g0 (aI g1 (aI g2 (aI ta (aI tc (aI tu (aI a1 (aI a2 (aI a3 (aI a4 (aI a5 (aI sp (aI sq (aI lp bp)))))))))))))
    refine runRp20_2 (x := ?_)
    clear ff
    rfl
   ·have ff := aI g0 (aI g1 (aI g2 (aI ta (aI tc (aI tu (aI a1 (aI a2 (aI a3 (aI a4 (aI a5 (aI sp (aI sq (aI lp bp)))))))))))))
    refine runRp20_2 (x := ?_)
    clear ff
    rfl
end Go.Vab

/- How the code of a function is read. Printed by wip/tools/gen2.py and gen3.py (own work). -/
namespace Go.Vab
open Go Go.Proofs
noncomputable section
def cx25 : Ctx := ⟨fun _ _ _ => none,TT,73,[8,9,10,11,13,14,15,16,17,18,19,20,21,22,23,24,25,26,27,29,30,31,32,33,34,35,36,37,38,39,40,41,42,43,45,46,47,48,49,50,51,52,53,54,55,56,57,58,59,61,62,63,64,65,66,67,68,69,70,71,72]⟩
def n25_0 := bodyOf Tryz.f25
def n25_1 := cR n25_0
def n25_2 := cR n25_1
def n25_3 := cL n25_2
def n25_4 := cR n25_3
def n25_5 := cB n25_4
def n25_6 := cB n25_5
def n25_7 := cL n25_6
def n25_8 := cR n25_7
def n25_9 := cL n25_8
def n25_10 := cR n25_8
def n25_11 := cR n25_6
def n25_12 := cL n25_11
def n25_13 := cB n25_12
def n25_14 := cR n25_11
def n25_15 := cR n25_2
def n25_16 := cL n25_15
def n25_17 := cR n25_16
def n25_18 := cB n25_17
def n25_19 := cB n25_18
def n25_20 := cL n25_19
def n25_21 := cR n25_20
def n25_22 := cL n25_21
def n25_23 := cR n25_21
def n25_24 := cR n25_19
def n25_25 := cL n25_24
def n25_26 := cB n25_25
def n25_27 := cR n25_24
def n25_28 := cR n25_15
def n25_29 := cL n25_28
def n25_30 := cR n25_29
def n25_31 := cB n25_30
def n25_32 := cB n25_31
def n25_33 := cL n25_32
def n25_34 := cR n25_33
def n25_35 := cL n25_34
def n25_36 := cR n25_34
def n25_37 := cR n25_32
def n25_38 := cL n25_37
def n25_39 := cB n25_38
def n25_40 := cR n25_37
def n25_41 := cR n25_28
def n25_42 := cL n25_41
def n25_43 := cR n25_42
def n25_44 := cB n25_43
def n25_45 := cB n25_44
def n25_46 := cL n25_45
def n25_47 := cR n25_46
def n25_48 := cL n25_47
def n25_49 := cR n25_47
def n25_50 := cR n25_45
def n25_51 := cL n25_50
def n25_52 := cB n25_51
def n25_53 := cR n25_50
def n25_54 := cR n25_41
def n25_55 := cR n25_54
def q25 := zQ1 cx25 25 Tryz.f25 n25_0 fun s => (bnd (some (s.env.get 2)) fun v => bnd (some []) fun vs => some (v :: vs))
set_option maxRecDepth 20000
set_option maxHeartbeats 4000000
def sn25 := zAll cx25 [[n25_9],[n25_10],[n25_9,n25_10,n25_8],[n25_8,n25_7],[n25_13],[n25_13,n25_12],[n25_14],[n25_12,n25_14,n25_11],[n25_7,n25_11,n25_6],[n25_6,n25_5],[n25_5,n25_4],[n25_4,n25_3],[n25_22],[n25_23],[n25_22,n25_23,n25_21],[n25_21,n25_20],[n25_26],[n25_26,n25_25],[n25_27],[n25_25,n25_27,n25_24],[n25_20,n25_24,n25_19],[n25_19,n25_18],[n25_18,n25_17],[n25_17,n25_16],[n25_35],[n25_36],[n25_35,n25_36,n25_34],[n25_34,n25_33],[n25_39],[n25_39,n25_38],[n25_40],[n25_38,n25_40,n25_37],[n25_33,n25_37,n25_32],[n25_32,n25_31],[n25_31,n25_30],[n25_30,n25_29],[n25_48],[n25_49],[n25_48,n25_49,n25_47],[n25_47,n25_46],[n25_52],[n25_52,n25_51],[n25_53],[n25_51,n25_53,n25_50],[n25_46,n25_50,n25_45],[n25_45,n25_44],[n25_44,n25_43],[n25_43,n25_42],[n25_55],[n25_55,n25_54],[n25_42,n25_54,n25_41],[n25_29,n25_41,n25_28],[n25_16,n25_28,n25_15],[n25_3,n25_15,n25_2],[n25_2,n25_1],[n25_1,n25_0]]
end
end Go.Vab

/- How the code of a function is read. Printed by wip/tools/gen2.py and gen3.py (own work). -/
namespace Go.Vab
open Go Go.Proofs
noncomputable section
def cx38 : Ctx := ⟨fun _ _ _ => none,TT,28,[8,9,10,11,13,14,15,16,17,18,19,20,21,22,23,24,25,26]⟩
def n38_0 := bodyOf Tryz.f38
def n38_1 := cR n38_0
def n38_2 := cL n38_1
def n38_3 := cR n38_2
def n38_4 := cB n38_3
def n38_5 := cB n38_4
def n38_6 := cL n38_5
def n38_7 := cR n38_6
def n38_8 := cL n38_7
def n38_9 := cR n38_7
def n38_10 := cR n38_5
def n38_11 := cL n38_10
def n38_12 := cB n38_11
def n38_13 := cR n38_12
def n38_14 := cL n38_13
def n38_15 := cR n38_14
def n38_16 := cR n38_13
def n38_17 := cR n38_10
def n38_18 := cR n38_1
def n38_19 := cR n38_18
def q38 := zQ3 cx38 38 Tryz.f38 n38_0 fun s => (bnd (some (s.env.get 6)) fun v => bnd (some []) fun vs => some (v :: vs))
set_option maxRecDepth 20000
set_option maxHeartbeats 4000000
def n38_12_w := zDr cx38 [n38_13,n38_12] [] [0,0,2,7,15,31,0,0,192,448,960,2047,4095] [0,1,2,3,4,5,6,7,8,9,10,11,12] .f
def sn38 := zAll cx38 [[n38_8],[n38_9],[n38_8,n38_9,n38_7],[n38_7,n38_6],[n38_15],[n38_15,n38_14],[n38_16],[n38_14,n38_16,n38_13],[n38_12,n38_11],[n38_17],[n38_11,n38_17,n38_10],[n38_6,n38_10,n38_5],[n38_5,n38_4],[n38_4,n38_3],[n38_3,n38_2],[n38_19],[n38_19,n38_18],[n38_2,n38_18,n38_1],[n38_1,n38_0]]
end
end Go.Vab

/- How the code of a function is read. Printed by wip/tools/gen2.py and gen3.py (own work). -/
namespace Go.Vab
open Go Go.Proofs
noncomputable section
def cx23 : Ctx := ⟨fun _ _ _ => none,TT,153,[12,13,14,15,16,17,18,19,20,21,22,23,24,25,26,27,28,29,30,31,32,34,35,36,37,38,39,40,41,42,43,44,45,46,47,48,49,50,51,52,53,54,55,56,57,58,60,61,62,63,64,65,66,67,68,69,70,71,72,73,74,75,76,77,78,79,80,81,82,83,84,85,86,87,88,89,90,91,92,93,94,95,96,97,98,99,100,101,102,103,105,106,107,109,110,111,112,114,115,116,117,118,119,120,121,122,123,124,125,127,128,130,131,132,133,134,135,136,137,138,140,141,143,144,145,146,147,148,149,150,151]⟩
def n23_0 := bodyOf Tryz.f23
def n23_1 := cR n23_0
def n23_2 := cL n23_1
def n23_3 := cR n23_2
def n23_4 := cL n23_3
def n23_5 := cR n23_4
def n23_6 := cR n23_3
def n23_7 := cR n23_1
def n23_8 := cR n23_7
def n23_9 := cL n23_8
def n23_10 := cR n23_9
def n23_11 := cL n23_10
def n23_12 := cR n23_11
def n23_13 := cR n23_10
def n23_14 := cR n23_8
def n23_15 := cR n23_14
def n23_16 := cL n23_15
def n23_17 := cR n23_16
def n23_18 := cL n23_17
def n23_19 := cR n23_18
def n23_20 := cR n23_17
def n23_21 := cR n23_15
def n23_22 := cL n23_21
def n23_23 := cR n23_22
def n23_24 := cB n23_23
def n23_25 := cB n23_24
def n23_26 := cL n23_25
def n23_27 := cR n23_26
def n23_28 := cL n23_27
def n23_29 := cR n23_27
def n23_30 := cR n23_25
def n23_31 := cL n23_30
def n23_32 := cB n23_31
def n23_33 := cR n23_32
def n23_34 := cB n23_33
def n23_35 := cB n23_34
def n23_36 := cL n23_35
def n23_37 := cR n23_36
def n23_38 := cL n23_37
def n23_39 := cR n23_37
def n23_40 := cR n23_35
def n23_41 := cL n23_40
def n23_42 := cB n23_41
def n23_43 := cR n23_42
def n23_44 := cL n23_43
def n23_45 := cR n23_44
def n23_46 := cR n23_43
def n23_47 := cR n23_40
def n23_48 := cR n23_30
def n23_49 := cR n23_21
def n23_50 := cL n23_49
def n23_51 := cR n23_50
def n23_52 := cB n23_51
def n23_53 := cB n23_52
def n23_54 := cL n23_53
def n23_55 := cR n23_54
def n23_56 := cL n23_55
def n23_57 := cR n23_55
def n23_58 := cR n23_53
def n23_59 := cL n23_58
def n23_60 := cB n23_59
def n23_61 := cR n23_60
def n23_62 := cL n23_61
def n23_63 := cR n23_62
def n23_64 := cR n23_61
def n23_65 := cR n23_58
def n23_66 := cR n23_49
def n23_67 := cL n23_66
def n23_68 := cR n23_67
def n23_69 := cB n23_68
def n23_70 := cB n23_69
def n23_71 := cL n23_70
def n23_72 := cR n23_71
def n23_73 := cL n23_72
def n23_74 := cR n23_72
def n23_75 := cR n23_70
def n23_76 := cL n23_75
def n23_77 := cB n23_76
def n23_78 := cR n23_77
def n23_79 := cL n23_78
def n23_80 := cR n23_79
def n23_81 := cR n23_78
def n23_82 := cR n23_75
def n23_83 := cR n23_66
def n23_84 := cR n23_83
def q23 := zQ1 cx23 23 Tryz.f23 n23_0 fun s => (bnd (some (s.env.get 2)) fun v => bnd (some []) fun vs => some (v :: vs))
set_option maxRecDepth 20000
set_option maxHeartbeats 4000000
def n23_42_w := zDr cx23 [n23_43,n23_42] [] [0,0,3,7,15,0,0,96,224,480,1023] [0,1,2,3,4,5,6,7,8,9,10] .f
def n23_7_w := zDr cx23 [n23_8,n23_7] [] [0,1,3,0,8,24,0,64,192,0,512,1536,7,4159,12799,32767] [0,1,2,3,4,5,6,7,8,9,10,11,12,13,14,15] .f
def sn23 := zAll cx23 [[n23_5],[n23_5,n23_4],[n23_6],[n23_4,n23_6,n23_3],[n23_3,n23_2],[n23_12],[n23_12,n23_11],[n23_13],[n23_11,n23_13,n23_10],[n23_10,n23_9],[n23_19],[n23_19,n23_18],[n23_20],[n23_18,n23_20,n23_17],[n23_17,n23_16],[n23_28],[n23_29],[n23_28,n23_29,n23_27],[n23_27,n23_26],[n23_38],[n23_39],[n23_38,n23_39,n23_37],[n23_37,n23_36],[n23_45],[n23_45,n23_44],[n23_46],[n23_44,n23_46,n23_43],[n23_42,n23_41],[n23_47],[n23_41,n23_47,n23_40],[n23_36,n23_40,n23_35],[n23_35,n23_34],[n23_34,n23_33],[n23_33,n23_32],[n23_32,n23_31],[n23_48],[n23_31,n23_48,n23_30],[n23_26,n23_30,n23_25],[n23_25,n23_24],[n23_24,n23_23],[n23_23,n23_22],[n23_56],[n23_57],[n23_56,n23_57,n23_55],[n23_55,n23_54],[n23_63],[n23_63,n23_62],[n23_64],[n23_62,n23_64,n23_61],[n23_61,n23_60],[n23_60,n23_59],[n23_65],[n23_59,n23_65,n23_58],[n23_54,n23_58,n23_53],[n23_53,n23_52],[n23_52,n23_51],[n23_51,n23_50],[n23_73],[n23_74],[n23_73,n23_74,n23_72],[n23_72,n23_71],[n23_80],[n23_80,n23_79],[n23_81],[n23_79,n23_81,n23_78],[n23_78,n23_77],[n23_77,n23_76],[n23_82],[n23_76,n23_82,n23_75],[n23_71,n23_75,n23_70],[n23_70,n23_69],[n23_69,n23_68],[n23_68,n23_67],[n23_84],[n23_84,n23_83],[n23_67,n23_83,n23_66],[n23_50,n23_66,n23_49],[n23_22,n23_49,n23_21],[n23_16,n23_21,n23_15],[n23_15,n23_14],[n23_9,n23_14,n23_8],[n23_2,n23_7,n23_1],[n23_1,n23_0]]
end
end Go.Vab

/-
  The document's look at states, walked.
-/
namespace Go.Vab
open Go Go.Proofs
theorem runRf3_0 {G X : Prop} (f : Hd X → G := by
 intro xX
 repeat' (first | refine stp (x := ?_) | (simp (decide := true) only [sn25, snB, if_true, if_false]))
 exact xX.get) (x : X) : G := f ⟨x⟩
theorem runRf3_1 {G X : Prop} (f : Hd X → G := by
 intro xX
 repeat' (first | refine stp (x := ?_) | (simp (decide := true) only [sn38, snB, if_true, if_false]) | (with_reducible refine n38_12_w _ _ _ ?_))
 exact xX.get) (x : X) : G := f ⟨x⟩
theorem runRf3_2 {G X : Prop} (f : Hd X → G := by
 intro xX
 repeat' (first | refine stp (x := ?_) | (with_reducible refine ValW_i (c86) ?_; try dsimp only) | (with_reducible refine SpecQ.step (c86) ?_; rintro _ rfl; try dsimp only) | (simp (decide := true) only [sn38, snB, if_true, if_false]) | (with_reducible refine n38_12_w _ _ _ ?_))
 exact xX.get) (x : X) : G := f ⟨x⟩
theorem runRf3_3 {G X : Prop} (f : Hd X → G := by
 intro xX
 repeat' (first | refine stp (x := ?_) | (with_reducible refine SpecQ.step (c37) ?_; rintro _ rfl; try dsimp only) | (simp (decide := true) only [sn23, snB, if_true, if_false]) | (with_reducible refine n23_42_w _ _ _ ?_) | (with_reducible refine n23_7_w _ _ _ ?_))
 exact xX.get) (x : X) : G := f ⟨x⟩
theorem runRf3_4 {G X : Prop} (f : Hd X → G := by
 intro xX
 repeat' (first | refine stp (x := ?_) | (simp (decide := true) only [sn23, snB, if_true, if_false]) | (with_reducible refine n23_42_w _ _ _ ?_) | (with_reducible refine n23_7_w _ _ _ ?_))
 exact xX.get) (x : X) : G := f ⟨x⟩
theorem runRf3_5 {G X : Prop} (f : Hd X → G := by
 intro xX
 repeat' (first | refine stp (x := ?_) | (with_reducible refine SpecQ.step (c39) ?_; rintro _ rfl; try dsimp only) | (simp (decide := true) only [sn23, snB, if_true, if_false]) | (with_reducible refine n23_42_w _ _ _ ?_) | (with_reducible refine n23_7_w _ _ _ ?_))
 exact xX.get) (x : X) : G := f ⟨x⟩
def ciphers (s : Stt) : List Ci := s.seats.map (·.who) ++ s.invites.map (·.who) ++ s.asks.map (·.who) ++ s.bans.map (·.who)
def shortL (s : Stt) : Prop := s.seats.length ≤ 1000 ∧ s.invites.length ≤ 1000 ∧ s.asks.length ≤ 1000 ∧ s.bans.length ≤ 1000
theorem ciphers_len (s : Stt) : (ciphers s).length = s.seats.length + s.invites.length + s.asks.length + s.bans.length := by simp [ciphers]; omega
set_option maxHeartbeats 4000000 in
theorem c25 {h : Heap} {s : Stt} {vt vp vs vi va vb : AV} (ra : StR h s vt vp vs vi va vb) (hs : shortL s) : SpecQ Tryz.prog 25 [eSt s vt vp vs vi va vb] h fun r => ∃ y u, r = (y, h ++ ⟨eSt s vt vp vs vi va vb, 0, .own⟩ :: u) ∧ RnU tCipher (h.length + 1) u y ((ciphers s).map eCi) := by
 obtain ⟨s1, s2, s3, s4⟩ := hs
 have ta := ra.cells
 have l1 := ra.fs.len
 have l2 := ra.fi.len
 have l3 := ra.fa.len
 have l4 := ra.fb.len
 rw [List.length_map] at l1 l2 l3 l4
 refine q25 fun env g0 => ?_
 have ff := aI g0 (aI ta l1)
 refine runRf3_0 (x := ?_)
 clear ff
 refine loop_up s.seats.length (fun i st => ∃ env' u x, st = ⟨env', h ++ ⟨eSt s vt vp vs vi va vb, 0, .own⟩ :: u⟩ ∧ env'.get 1 = .ptr h.length 0 [] tState ∧ env'.get 3 = x ∧ env'.get 4 = nat i ∧ RnU tCipher (h.length + 1) u x ((([] : List Ci) ++ (s.seats.take i).map Seat.who).map eCi)) ?_ ?_ ⟨_, [], _, (by simp; rfl), by simp, rfl, by simp, (by simp; exact RnU.nil _ _ _)⟩
 ·rintro i st hi ⟨env', u, x, rfl, e1, e3, e4, hr⟩
  obtain ⟨pb, pv, pp, bb, p1, p2, p3, p4⟩ := ra.fs.idxE hi
  have ff := aI e1 (aI e3 (aI e4 (aI ta (aI l1 (aI l2 (aI l3 (aI l4 (aI p1 (aI p2 (aI p3 p4))))))))))
  refine runRf3_0 (x := ?_)
  clear ff
  have hnext : (([] : List Ci) ++ (s.seats.take i).map Seat.who).map eCi ++ [eCi s.seats[i].who] = (([] : List Ci) ++ (s.seats.take (i + 1)).map Seat.who).map eCi := by
   simp only [List.take_add_one, List.getElem?_eq_getElem hi, Option.toList, List.map_append, List.map_cons, List.map_nil, List.append_assoc]
  have hH : h ++ ⟨eSt s vt vp vs vi va vb, 0, .own⟩ :: (u ++ [⟨.node [eCi s.seats[i].who], 0, .own⟩]) = (h ++ [⟨eSt s vt vp vs vi va vb, 0, .own⟩]) ++ (u ++ [⟨.node [eCi s.seats[i].who], 0, .own⟩]) := by simp
  rw [hH]
  refine appW_rnU (new := [eCi s.seats[i].who]) tCipher_x (fun _ => rfl) (by simp) hr (by rw [← hH, mElems_row]; simp) (by simp; omega) (by omega) fun x' u' g1 g2 g3 g4 => ?_
  rw [hnext] at g1
  simp only [List.append_assoc, List.cons_append, List.nil_append]
  have ff := aI e1 (aI e3 (aI e4 (aI ta (aI l1 (aI l2 (aI l3 l4))))))
  refine runRf3_0 (x := ?_)
  clear ff
  exact .inl ⟨by simp, _, u', x', rfl, by simp [e1], by simp, by simp, by simpa only [List.append_assoc, List.nil_append] using g1⟩
 rintro st ⟨env', u, x, rfl, e1, e3, e4, hr⟩
 rw [List.take_length] at hr
 have ff := aI e1 (aI e3 (aI e4 (aI ta (aI l1 (aI l2 (aI l3 l4))))))
 refine runRf3_0 (x := ?_)
 clear ff
 refine ⟨by simp, ?_⟩
 have ff := aI e1 (aI e3 (aI e4 (aI ta (aI l1 (aI l2 (aI l3 l4))))))
 refine runRf3_0 (x := ?_)
 clear ff
 refine loop_up s.invites.length (fun i st => ∃ env' u x, st = ⟨env', h ++ ⟨eSt s vt vp vs vi va vb, 0, .own⟩ :: u⟩ ∧ env'.get 1 = .ptr h.length 0 [] tState ∧ env'.get 3 = x ∧ env'.get 5 = nat i ∧ RnU tCipher (h.length + 1) u x ((s.seats.map (·.who) ++ (s.invites.take i).map Inv.who).map eCi)) ?_ ?_ ⟨_, u, _, rfl, by simp [e1], rfl, by simp, (by simpa [e3] using hr)⟩
 ·rintro i st hi ⟨env', u, x, rfl, e1, e3, e4, hr⟩
  obtain ⟨pb, pv, pp, bb, p1, p2, p3, p4⟩ := ra.fi.idxE hi
  have ff := aI e1 (aI e3 (aI e4 (aI ta (aI l1 (aI l2 (aI l3 (aI l4 (aI p1 (aI p2 (aI p3 p4))))))))))
  refine runRf3_0 (x := ?_)
  clear ff
  have hnext : (s.seats.map (·.who) ++ (s.invites.take i).map Inv.who).map eCi ++ [eCi s.invites[i].who] = (s.seats.map (·.who) ++ (s.invites.take (i + 1)).map Inv.who).map eCi := by
   simp only [List.take_add_one, List.getElem?_eq_getElem hi, Option.toList, List.map_append, List.map_cons, List.map_nil, List.append_assoc]
  have hH : h ++ ⟨eSt s vt vp vs vi va vb, 0, .own⟩ :: (u ++ [⟨.node [eCi s.invites[i].who], 0, .own⟩]) = (h ++ [⟨eSt s vt vp vs vi va vb, 0, .own⟩]) ++ (u ++ [⟨.node [eCi s.invites[i].who], 0, .own⟩]) := by simp
  rw [hH]
  refine appW_rnU (new := [eCi s.invites[i].who]) tCipher_x (fun _ => rfl) (by simp) hr (by rw [← hH, mElems_row]; simp) (by simp; omega) (by omega) fun x' u' g1 g2 g3 g4 => ?_
  rw [hnext] at g1
  simp only [List.append_assoc, List.cons_append, List.nil_append]
  have ff := aI e1 (aI e3 (aI e4 (aI ta (aI l1 (aI l2 (aI l3 l4))))))
  refine runRf3_0 (x := ?_)
  clear ff
  exact .inl ⟨by simp, _, u', x', rfl, by simp [e1], by simp, by simp, by simpa only [List.append_assoc, List.nil_append] using g1⟩
 rintro st ⟨env', u, x, rfl, e1, e3, e4, hr⟩
 rw [List.take_length] at hr
 have ff := aI e1 (aI e3 (aI e4 (aI ta (aI l1 (aI l2 (aI l3 l4))))))
 refine runRf3_0 (x := ?_)
 clear ff
 refine ⟨by simp, ?_⟩
 have ff := aI e1 (aI e3 (aI e4 (aI ta (aI l1 (aI l2 (aI l3 l4))))))
 refine runRf3_0 (x := ?_)
 clear ff
 refine loop_up s.asks.length (fun i st => ∃ env' u x, st = ⟨env', h ++ ⟨eSt s vt vp vs vi va vb, 0, .own⟩ :: u⟩ ∧ env'.get 1 = .ptr h.length 0 [] tState ∧ env'.get 3 = x ∧ env'.get 6 = nat i ∧ RnU tCipher (h.length + 1) u x ((s.seats.map (·.who) ++ s.invites.map (·.who) ++ (s.asks.take i).map Ask.who).map eCi)) ?_ ?_ ⟨_, u, _, rfl, by simp [e1], rfl, by simp, (by simpa [e3] using hr)⟩
 ·rintro i st hi ⟨env', u, x, rfl, e1, e3, e4, hr⟩
  obtain ⟨pb, pv, pp, bb, p1, p2, p3, p4⟩ := ra.fa.idxE hi
  have ff := aI e1 (aI e3 (aI e4 (aI ta (aI l1 (aI l2 (aI l3 (aI l4 (aI p1 (aI p2 (aI p3 p4))))))))))
  refine runRf3_0 (x := ?_)
  clear ff
  have hnext : (s.seats.map (·.who) ++ s.invites.map (·.who) ++ (s.asks.take i).map Ask.who).map eCi ++ [eCi s.asks[i].who] = (s.seats.map (·.who) ++ s.invites.map (·.who) ++ (s.asks.take (i + 1)).map Ask.who).map eCi := by
   simp only [List.take_add_one, List.getElem?_eq_getElem hi, Option.toList, List.map_append, List.map_cons, List.map_nil, List.append_assoc]
  have hH : h ++ ⟨eSt s vt vp vs vi va vb, 0, .own⟩ :: (u ++ [⟨.node [eCi s.asks[i].who], 0, .own⟩]) = (h ++ [⟨eSt s vt vp vs vi va vb, 0, .own⟩]) ++ (u ++ [⟨.node [eCi s.asks[i].who], 0, .own⟩]) := by simp
  rw [hH]
  refine appW_rnU (new := [eCi s.asks[i].who]) tCipher_x (fun _ => rfl) (by simp) hr (by rw [← hH, mElems_row]; simp) (by simp; omega) (by omega) fun x' u' g1 g2 g3 g4 => ?_
  rw [hnext] at g1
  simp only [List.append_assoc, List.cons_append, List.nil_append]
  have ff := aI e1 (aI e3 (aI e4 (aI ta (aI l1 (aI l2 (aI l3 l4))))))
  refine runRf3_0 (x := ?_)
  clear ff
  exact .inl ⟨by simp, _, u', x', rfl, by simp [e1], by simp, by simp, by simpa only [List.append_assoc, List.nil_append] using g1⟩
 rintro st ⟨env', u, x, rfl, e1, e3, e4, hr⟩
 rw [List.take_length] at hr
 have ff := aI e1 (aI e3 (aI e4 (aI ta (aI l1 (aI l2 (aI l3 l4))))))
 refine runRf3_0 (x := ?_)
 clear ff
 refine ⟨by simp, ?_⟩
 have ff := aI e1 (aI e3 (aI e4 (aI ta (aI l1 (aI l2 (aI l3 l4))))))
 refine runRf3_0 (x := ?_)
 clear ff
 refine loop_up s.bans.length (fun i st => ∃ env' u x, st = ⟨env', h ++ ⟨eSt s vt vp vs vi va vb, 0, .own⟩ :: u⟩ ∧ env'.get 1 = .ptr h.length 0 [] tState ∧ env'.get 3 = x ∧ env'.get 7 = nat i ∧ RnU tCipher (h.length + 1) u x ((s.seats.map (·.who) ++ s.invites.map (·.who) ++ s.asks.map (·.who) ++ (s.bans.take i).map Ban.who).map eCi)) ?_ ?_ ⟨_, u, _, rfl, by simp [e1], rfl, by simp, (by simpa [e3] using hr)⟩
 ·rintro i st hi ⟨env', u, x, rfl, e1, e3, e4, hr⟩
  obtain ⟨pb, pv, pp, bb, p1, p2, p3, p4⟩ := ra.fb.idxE hi
  have ff := aI e1 (aI e3 (aI e4 (aI ta (aI l1 (aI l2 (aI l3 (aI l4 (aI p1 (aI p2 (aI p3 p4))))))))))
  refine runRf3_0 (x := ?_)
  clear ff
  have hnext : (s.seats.map (·.who) ++ s.invites.map (·.who) ++ s.asks.map (·.who) ++ (s.bans.take i).map Ban.who).map eCi ++ [eCi s.bans[i].who] = (s.seats.map (·.who) ++ s.invites.map (·.who) ++ s.asks.map (·.who) ++ (s.bans.take (i + 1)).map Ban.who).map eCi := by
   simp only [List.take_add_one, List.getElem?_eq_getElem hi, Option.toList, List.map_append, List.map_cons, List.map_nil, List.append_assoc]
  have hH : h ++ ⟨eSt s vt vp vs vi va vb, 0, .own⟩ :: (u ++ [⟨.node [eCi s.bans[i].who], 0, .own⟩]) = (h ++ [⟨eSt s vt vp vs vi va vb, 0, .own⟩]) ++ (u ++ [⟨.node [eCi s.bans[i].who], 0, .own⟩]) := by simp
  rw [hH]
  refine appW_rnU (new := [eCi s.bans[i].who]) tCipher_x (fun _ => rfl) (by simp) hr (by rw [← hH, mElems_row]; simp) (by simp; omega) (by omega) fun x' u' g1 g2 g3 g4 => ?_
  rw [hnext] at g1
  simp only [List.append_assoc, List.cons_append, List.nil_append]
  have ff := aI e1 (aI e3 (aI e4 (aI ta (aI l1 (aI l2 (aI l3 l4))))))
  refine runRf3_0 (x := ?_)
  clear ff
  exact .inl ⟨by simp, _, u', x', rfl, by simp [e1], by simp, by simp, by simpa only [List.append_assoc, List.nil_append] using g1⟩
 rintro st ⟨env', u, x, rfl, e1, e3, e4, hr⟩
 rw [List.take_length] at hr
 have ff := aI e1 (aI e3 (aI e4 (aI ta (aI l1 (aI l2 (aI l3 l4))))))
 refine runRf3_0 (x := ?_)
 clear ff
 refine ⟨by simp, ?_⟩
 have ff := aI e1 (aI e3 (aI e4 (aI ta (aI l1 (aI l2 (aI l3 l4))))))
 refine runRf3_0 (x := ?_)
 clear ff
 exact ⟨x, u, by simp [oneOrTuple, e3], hr⟩
theorem ciphers_pts (s : Stt) : (ciphers s).map (·.e) = pts s := by
 simp only [ciphers, pts, sE, iE, aE, bE, List.map_append, List.map_map]; rfl
theorem pts_get {s : Stt} {i : Nat} (hi : i < (ciphers s).length) : (pts s).getD i pt0 = (ciphers s)[i].e := by
 rw [← ciphers_pts, List.getD_eq_getElem?_getD, List.getElem?_map, List.getElem?_eq_getElem hi]; rfl
theorem c38 {h : Heap} {x : AV} {s : Stt} {a b : Nat} (hx : Row tCipher h x ((ciphers s).map eCi)) (hb : b ≤ (ciphers s).length) (ha : a ≤ b) : SpecQ Tryz.prog 38 [x, nat a, nat b] h fun r => r = (.bool (adjB (pts s) a b), h) := by
 have bx := hx.bound
 rw [List.length_map] at bx
 refine SpecQ.drop1 rfl (q38 fun env g0 g1 g2 => ?_)
 have ff := aI g0 (aI g1 g2)
 refine runRf3_1 (x := ?_)
 clear ff
 refine loop_up (b - (a + 1)) (fun i st => ∃ env', st = ⟨env', h⟩ ∧ env'.get 0 = x ∧ env'.get 2 = nat b ∧ env'.get 7 = nat (a + 1 + i) ∧ ∀ j, a < j → j < a + 1 + i → adjAt (pts s) j = true) ?_ ?_ ⟨_, rfl, by simp [g0], by simp [g2], by simp, fun j h1 h2 => absurd h1 (by omega)⟩
 ·rintro i st hi ⟨env', rfl, e0, e2, e7, hgood⟩
  obtain ⟨m, hm⟩ : ∃ m, a + 1 + i = m + 1 := ⟨a + i, by omega⟩
  rw [hm] at e7 hgood
  have hlt : m + 1 < b := by omega
  obtain ⟨pb, pv, pp, bb, p1, p2, p3, p4⟩ := hx.idxE (i := m + 1) (by omega)
  obtain ⟨qb, qv, qp, cc, q1, q2, q3, q4⟩ := hx.idxE (i := m) (by omega)
  have p2' := p2 []
  have q2' := q2 []
  rw [List.append_nil] at p2' q2'
  have hadj : adjAt (pts s) (m + 1) = ltP (ciphers s)[m].e (ciphers s)[m + 1].e := by
   unfold adjAt; rw [Nat.add_sub_cancel, pts_get (by omega), pts_get (by omega)]
  have hnx : a + 1 + (i + 1) = m + 1 + 1 := by omega
  rw [hnx]
  cases hl : ltP (ciphers s)[m].e (ciphers s)[m + 1].e
  ·rw [hl] at hadj
   have ff := aI e0 (aI e2 (aI e7 (aI hlt (aI p1 (aI p2' (aI p3 (aI p4 (aI q1 (aI q2' (aI q3 (aI q4 hl)))))))))))
   refine runRf3_2 (x := ?_)
   clear ff
   refine .inr ⟨by simp, ?_⟩
   have ff := e0
   refine runRf3_1 (x := ?_)
   clear ff
   have : adjB (pts s) a b = false := all_no hlt (by rw [hadj, Bool.or_false, decide_eq_false_iff_not]; omega)
   exact ⟨[], by simp [oneOrTuple, this]⟩
  ·rw [hl] at hadj
   have ff := aI e0 (aI e2 (aI e7 (aI hlt (aI p1 (aI p2' (aI p3 (aI p4 (aI q1 (aI q2' (aI q3 (aI q4 hl)))))))))))
   refine runRf3_2 (x := ?_)
   clear ff
   refine .inl ⟨by simp, _, rfl, by simp [e0], by simp [e2], by simp, fun j h1 h2 => ?_⟩
   by_cases hj : j = m + 1
   ·rw [hj]; exact hadj
   ·exact hgood j h1 (by omega)
 ·rintro st ⟨env', rfl, e0, e2, e7, hgood⟩
  have hnl : ¬ (a + 1 + (b - (a + 1)) < b) := by omega
  have ff := aI e0 (aI e2 (aI e7 hnl))
  refine runRf3_1 (x := ?_)
  clear ff
  refine ⟨by simp, ?_⟩
  have ff := e0
  refine runRf3_1 (x := ?_)
  clear ff
  have : adjB (pts s) a b = true := all_yes fun i hi => by
   by_cases hle : i ≤ a
   ·simp [hle]
   ·simp [hgood i (by omega) (by omega)]
  exact ⟨[], by simp [oneOrTuple, this]⟩
set_option maxHeartbeats 8000000 in
set_option maxRecDepth 20000 in
theorem c23 {h : Heap} {s : Stt} {vt vp vs vi va vb : AV} (ra : StR h s vt vp vs vi va vb) (hsh : shortL s) : SpecQ Tryz.prog 23 [eSt s vt vp vs vi va vb] h fun r => r = (.bool (mayS s), h) := by
 have ta := ra.cells
 have lt := ra.ft.len
 have lp := ra.fp.len
 have l1 := ra.fs.len
 have l2 := ra.fi.len
 have l3 := ra.fa.len
 have l4 := ra.fb.len
 rw [List.length_map] at l1 l2 l3 l4
 rw [← mayR_eq]
 have hcl := ciphers_len s
 have hpl := pts_len s
 refine SpecQ.drop1 rfl (q23 fun env g0 => ?_)
 cases hs : shapeR s
 ·have hm : mayR s = false := by unfold mayR; rw [hs]; rfl
  rw [hm]
  unfold shapeR at hs
  simp only [Bool.not_eq_false'] at hs
  repeat' (first | ((with_reducible refine evs_of (a := ?_) ?_ ?_); rotate_left; (focus ((conv => lhs; simp (disch := omega) [g0, ta, lt, lp]); done)); try dsimp only) | ((with_reducible refine gW_do ?_ ?_); (focus (simp (disch := omega) [g0, ta, lt, lp]; done))) | ((with_reducible refine gW_no ?_ ?_); (focus (simp (disch := omega) [g0, ta, lt, lp]; done)); try dsimp only) | ((with_reducible refine gW_un ?_ ?_); (focus (simp (disch := omega) [g0, ta, lt, lp]; done)); try dsimp only) | ((with_reducible refine cndW_T ?_ ?_); (focus (simp (disch := omega) [g0, ta, lt, lp] <;> omega))) | ((with_reducible refine cndW_F ?_ ?_); (focus (simp (disch := omega) [g0, ta, lt, lp] <;> omega))) | (with_reducible refine wL_i ?_) | (with_reducible refine SpecQ.step (c37) ?_; rintro _ rfl; try dsimp only) | ((with_reducible refine SpecA_i (args' := ?_) ?_ ?_); rotate_left; (focus ((conv => lhs; simp (disch := omega) [g0, ta, lt, lp]); done))) | (simp (decide := true) only [sn23, sqW_nrm, sqW_exit, sqW_ret, inBlk_nrm, inBlk_ret, inBlk_same, inBlk_exit, if_true, if_false, retW_nrm, retW_ret]) | (with_reducible refine n23_42_w _ _ _ ?_) | (with_reducible refine n23_7_w _ _ _ ?_) | ((with_reducible refine cndW_splitE (b := ?_) ?_ ?_ ?_); rotate_left; (focus ((conv => lhs; simp (disch := omega) [g0, ta, lt, lp]); done)); all_goals ((intro hb; try simp only [Bool.not_true, Bool.not_false] at hb); try simp only [hb])) | ((with_reducible refine gv_splitE (b := ?_) ?_ ?_ ?_); rotate_left; (focus ((conv => lhs; simp (disch := omega) [g0, ta, lt, lp]); done)); all_goals ((intro hb; try simp only [Bool.not_true, Bool.not_false] at hb); try simp only [hb])) | ((with_reducible refine gW_splitE (b := ?_) ?_ ?_ ?_); rotate_left; (focus ((conv => lhs; simp (disch := omega) [g0, ta, lt, lp]); done)); all_goals ((intro hb; try simp only [Bool.not_true, Bool.not_false] at hb); try simp only [hb])) | (with_reducible refine gv_split ?_ ?_ <;> (intro hb; try simp only [Bool.not_true, Bool.not_false] at hb) <;> try simp only [hb]) | (with_reducible refine gW_split ?_ ?_ <;> (intro hb; try simp only [Bool.not_true, Bool.not_false] at hb) <;> try simp only [hb]) | (with_reducible refine cndW_split ?_ ?_ <;> (intro hb; try simp only [Bool.not_true, Bool.not_false] at hb) <;> try simp only [hb]))
  all_goals first
   | exact fin_b rfl
   | (exfalso; simp_all; done)
 ·have hs' := hs
  simp only [shapeR, Bool.not_eq_true', Bool.or_eq_false_iff, Bool.and_eq_false_iff, decide_eq_false_iff_not, Bool.not_eq_false', decide_eq_true_eq] at hs'
  obtain ⟨⟨s1, s2⟩, s3⟩ := hs'
  rcases s2 with s2 | s2
  all_goals
   cases hl : lensR s
   ·have hm : mayR s = false := by unfold mayR; rw [hl, Bool.false_and, Bool.and_false]
    rw [hm]
    unfold lensR at hl
    simp only [Bool.not_eq_false'] at hl
    repeat' (first | ((with_reducible refine evs_of (a := ?_) ?_ ?_); rotate_left; (focus ((conv => lhs; simp (disch := omega) [g0, ta, lt, lp, l1, l2, l3, l4, s1, s2, s3]); done)); try dsimp only) | ((with_reducible refine gW_do ?_ ?_); (focus (simp (disch := omega) [g0, ta, lt, lp, l1, l2, l3, l4, s1, s2, s3]; done))) | ((with_reducible refine gW_no ?_ ?_); (focus (simp (disch := omega) [g0, ta, lt, lp, l1, l2, l3, l4, s1, s2, s3]; done)); try dsimp only) | ((with_reducible refine gW_un ?_ ?_); (focus (simp (disch := omega) [g0, ta, lt, lp, l1, l2, l3, l4, s1, s2, s3]; done)); try dsimp only) | ((with_reducible refine cndW_T ?_ ?_); (focus (simp (disch := omega) [g0, ta, lt, lp, l1, l2, l3, l4, s1, s2, s3] <;> omega))) | ((with_reducible refine cndW_F ?_ ?_); (focus (simp (disch := omega) [g0, ta, lt, lp, l1, l2, l3, l4, s1, s2, s3] <;> omega))) | (with_reducible refine wL_i ?_) | (with_reducible refine SpecQ.step (c37) ?_; rintro _ rfl; try dsimp only) | ((with_reducible refine SpecA_i (args' := ?_) ?_ ?_); rotate_left; (focus ((conv => lhs; simp (disch := omega) [g0, ta, lt, lp, l1, l2, l3, l4, s1, s2, s3]); done))) | (simp (decide := true) only [sn23, sqW_nrm, sqW_exit, sqW_ret, inBlk_nrm, inBlk_ret, inBlk_same, inBlk_exit, if_true, if_false, retW_nrm, retW_ret]) | (with_reducible refine n23_42_w _ _ _ ?_) | (with_reducible refine n23_7_w _ _ _ ?_) | ((with_reducible refine cndW_splitE (b := ?_) ?_ ?_ ?_); rotate_left; (focus ((conv => lhs; simp (disch := omega) [g0, ta, lt, lp, l1, l2, l3, l4, s1, s2, s3]); done)); all_goals ((intro hb; try simp only [Bool.not_true, Bool.not_false] at hb); try simp only [hb])) | ((with_reducible refine gv_splitE (b := ?_) ?_ ?_ ?_); rotate_left; (focus ((conv => lhs; simp (disch := omega) [g0, ta, lt, lp, l1, l2, l3, l4, s1, s2, s3]); done)); all_goals ((intro hb; try simp only [Bool.not_true, Bool.not_false] at hb); try simp only [hb])) | ((with_reducible refine gW_splitE (b := ?_) ?_ ?_ ?_); rotate_left; (focus ((conv => lhs; simp (disch := omega) [g0, ta, lt, lp, l1, l2, l3, l4, s1, s2, s3]); done)); all_goals ((intro hb; try simp only [Bool.not_true, Bool.not_false] at hb); try simp only [hb])) | (with_reducible refine gv_split ?_ ?_ <;> (intro hb; try simp only [Bool.not_true, Bool.not_false] at hb) <;> try simp only [hb]) | (with_reducible refine gW_split ?_ ?_ <;> (intro hb; try simp only [Bool.not_true, Bool.not_false] at hb) <;> try simp only [hb]) | (with_reducible refine cndW_split ?_ ?_ <;> (intro hb; try simp only [Bool.not_true, Bool.not_false] at hb) <;> try simp only [hb]))
    all_goals first
     | exact fin_b rfl
     | (exfalso; simp_all; done)
   ·have hl' := hl
    simp only [lensR, Bool.not_eq_true', Bool.or_eq_false_iff, decide_eq_false_iff_not] at hl'
    obtain ⟨⟨⟨n1, n2⟩, n3⟩, n4⟩ := hl'
    have ff := aI g0 (aI ta (aI lt (aI lp (aI l1 (aI l2 (aI l3 (aI l4 (aI s1 (aI s2 (aI s3 (aI n1 (aI n2 (aI n3 n4)))))))))))))
    refine runRf3_3 (x := ?_)
    clear ff
    refine SpecQ.step (c25 (ra.app _) hsh) ?_
    rintro ⟨y, h2⟩ ⟨y', u, e, hr⟩
    cases e
    have hx : Row tCipher (h ++ ⟨eSt s vt vp vs vi va vb, 0, .own⟩ :: ⟨eSt s vt vp vs vi va vb, 0, .own⟩ :: u) y ((ciphers s).map eCi) := by
     have := hr.row (F := h ++ [⟨eSt s vt vp vs vi va vb, 0, .own⟩] ++ [⟨eSt s vt vp vs vi va vb, 0, .own⟩]) (l := []) tCipher_x (by simp)
     simpa using this
    simp only [List.append_assoc, List.cons_append, List.nil_append]
    have ly := hx.len
    rw [List.length_map] at ly
    have ff := aI g0 (aI ta (aI lt (aI lp (aI l1 (aI l2 (aI l3 l4))))))
    refine runRf3_4 (x := ?_)
    clear ff
    refine SpecQ.step (c38 (s := s) (a := 0) (b := s.seats.length) hx (by omega) (by omega)) ?_
    rintro _ rfl
    cases b0 : adjB (pts s) 0 s.seats.length
    ·have ff := aI g0 (aI ta (aI lt (aI lp (aI l1 (aI l2 (aI l3 l4))))))
     refine runRf3_4 (x := ?_)
     clear ff
     refine fin_b ?_
     unfold mayR adjR; rw [b0]; simp
    have ff := aI g0 (aI ta (aI lt (aI lp (aI l1 (aI l2 (aI l3 l4))))))
    refine runRf3_4 (x := ?_)
    clear ff
    refine SpecQ.step (c38 (s := s) (a := s.seats.length) (b := s.seats.length + s.invites.length) hx (by omega) (by omega)) ?_
    rintro _ rfl
    cases b1 : adjB (pts s) s.seats.length (s.seats.length + s.invites.length)
    ·have ff := aI g0 (aI ta (aI lt (aI lp (aI l1 (aI l2 (aI l3 l4))))))
     refine runRf3_4 (x := ?_)
     clear ff
     refine fin_b ?_
     unfold mayR adjR; rw [b0, b1]; simp
    have ff := aI g0 (aI ta (aI lt (aI lp (aI l1 (aI l2 (aI l3 l4))))))
    refine runRf3_4 (x := ?_)
    clear ff
    refine SpecQ.step (c38 (s := s) (a := s.seats.length + s.invites.length) (b := s.seats.length + s.invites.length + s.asks.length) hx (by omega) (by omega)) ?_
    rintro _ rfl
    cases b2 : adjB (pts s) (s.seats.length + s.invites.length) (s.seats.length + s.invites.length + s.asks.length)
    ·have ff := aI g0 (aI ta (aI lt (aI lp (aI l1 (aI l2 (aI l3 l4))))))
     refine runRf3_4 (x := ?_)
     clear ff
     refine fin_b ?_
     unfold mayR adjR; rw [b0, b1, b2]; simp
    have ff := aI g0 (aI ta (aI lt (aI lp (aI l1 (aI l2 (aI l3 l4))))))
    refine runRf3_4 (x := ?_)
    clear ff
    refine SpecQ.step (c38 (s := s) (a := s.seats.length + s.invites.length + s.asks.length) (b := s.seats.length + s.invites.length + s.asks.length + s.bans.length) hx (by omega) (by omega)) ?_
    rintro _ rfl
    cases b3 : adjB (pts s) (s.seats.length + s.invites.length + s.asks.length) (s.seats.length + s.invites.length + s.asks.length + s.bans.length)
    ·have ff := aI g0 (aI ta (aI lt (aI lp (aI l1 (aI l2 (aI l3 l4))))))
     refine runRf3_4 (x := ?_)
     clear ff
     refine fin_b ?_
     unfold mayR adjR; rw [b0, b1, b2, b3]; simp
    have hadj : adjR s = true := by unfold adjR; rw [b0, b1, b2, b3]; rfl
    have ff := aI g0 (aI ta (aI lt (aI lp (aI l1 (aI l2 (aI l3 l4))))))
    refine runRf3_4 (x := ?_)
    clear ff
    clear hr
    obtain ⟨T, hT⟩ : ∃ T, (⟨eSt s vt vp vs vi va vb, 0, .own⟩ :: ⟨eSt s vt vp vs vi va vb, 0, .own⟩ :: u : Heap) = T := ⟨_, rfl⟩
    have cst : blkAt (h ++ T) h.length 0 = some ⟨eSt s vt vp vs vi va vb, 0, .own⟩ := by rw [← hT]; simp
    rw [hT] at hx ⊢
    clear hT
    have hbound := hx.bound
    rw [List.length_map] at hbound
    refine loop_up (ciphers s).length (fun i st => ∃ env', st = ⟨env', h ++ T⟩ ∧ env'.get 1 = .ptr h.length 0 [] tState ∧ env'.get 3 = nat s.seats.length ∧ env'.get 4 = nat s.invites.length ∧ env'.get 7 = y ∧ env'.get 8 = nat i ∧ ∀ j, j < i → nodAt (pts s) j = true) ?_ ?_ ⟨_, rfl, by simp, by simp, by simp, by simp, by simp, fun j hj => absurd hj (by omega)⟩
    ·rintro i st hi ⟨env', rfl, e1, e3, e4, e7, e8, hgood⟩
     have ff := aI e1 (aI e3 (aI e4 (aI e7 (aI e8 ly))))
     refine runRf3_4 (x := ?_)
     clear ff
     refine loop_up i (fun k st => ∃ env', st = ⟨env', h ++ T⟩ ∧ env'.get 1 = .ptr h.length 0 [] tState ∧ env'.get 3 = nat s.seats.length ∧ env'.get 4 = nat s.invites.length ∧ env'.get 7 = y ∧ env'.get 8 = nat i ∧ env'.get 9 = nat k ∧ ∀ j, j < k → (pts s).getD i pt0 ≠ (pts s).getD j pt0) ?_ ?_ ⟨_, rfl, by simp [e1], by simp [e3], by simp [e4], by simp [e7], by simp [e8], by simp, fun j hj => absurd hj (by omega)⟩
     ·rintro k st hk ⟨env', rfl, e1, e3, e4, e7, e8, e9, hne⟩
      obtain ⟨pb, pv, pp, bb, p1, p2, p3, p4⟩ := hx.idxE hi
      obtain ⟨qb, qv, qp, cc, q1, q2, q3, q4⟩ := hx.idxE (i := k) (by omega)
      have p2' := p2 []
      have q2' := q2 []
      rw [List.append_nil] at p2' q2'
      by_cases hq : (ciphers s)[i].e = (ciphers s)[k].e
      ·have hno : nodB (pts s) = false := all_no (i := i) (by omega) (by
        unfold nodAt
        exact all_no hk (by rw [pts_get hi, pts_get (by omega), hq]; simp))
       have ff := aI e1 (aI e3 (aI e4 (aI e7 (aI e8 (aI e9 (aI p1 (aI p2' (aI p3 (aI p4 (aI q1 (aI q2' (aI q3 (aI q4 hq)))))))))))))
       refine runRf3_4 (x := ?_)
       clear ff
       refine .inr ⟨by simp, ?_⟩
       have ff := e1
       refine runRf3_4 (x := ?_)
       clear ff
       refine .inr ⟨by simp, ?_⟩
       have ff := e1
       refine runRf3_4 (x := ?_)
       clear ff
       refine fin_b ?_
       unfold mayR; rw [hno]; simp
      ·have ff := aI e1 (aI e3 (aI e4 (aI e7 (aI e8 (aI e9 (aI p1 (aI p2' (aI p3 (aI p4 (aI q1 (aI q2' (aI q3 (aI q4 hq)))))))))))))
       refine runRf3_4 (x := ?_)
       clear ff
       refine .inl ⟨by simp, _, rfl, by simp [e1], by simp [e3], by simp [e4], by simp [e7], by simp [e8], by simp, fun j hj => ?_⟩
       by_cases hji : j = k
       ·rw [hji, pts_get hi, pts_get (by omega)]; exact hq
       ·exact hne j (by omega)
     ·rintro st ⟨env', rfl, e1, e3, e4, e7, e8, e9, hne⟩
      have ff := aI e1 (aI e3 (aI e4 (aI e7 (aI e8 e9))))
      refine runRf3_4 (x := ?_)
      clear ff
      refine ⟨by simp, ?_⟩
      have ff := aI e1 (aI e3 (aI e4 (aI e7 (aI e8 e9))))
      refine runRf3_4 (x := ?_)
      clear ff
      refine .inl ⟨by simp, _, rfl, by simp [e1], by simp [e3], by simp [e4], by simp [e7], by simp, fun j hj => ?_⟩
      by_cases hji : j = i
      ·subst hji
       unfold nodAt
       exact all_yes fun k hk => by simpa using hne k hk
      ·exact hgood j (by omega)
    rintro st ⟨env', rfl, e1, e3, e4, e7, e8, hgood⟩
    have hnod : nodB (pts s) = true := all_yes fun i hi => hgood i (by omega)
    have ff := aI e1 (aI e3 (aI e4 (aI e7 (aI e8 ly))))
    refine runRf3_4 (x := ?_)
    clear ff
    refine ⟨by simp, ?_⟩
    have ff := aI e1 (aI e3 (aI e4 (aI e7 (aI e8 ly))))
    refine runRf3_4 (x := ?_)
    clear ff
    refine loop_up s.seats.length (fun i st => ∃ env', st = ⟨env', h ++ T⟩ ∧ env'.get 1 = .ptr h.length 0 [] tState ∧ env'.get 3 = nat s.seats.length ∧ env'.get 4 = nat s.invites.length ∧ env'.get 10 = nat i ∧ ∀ j (hj : j < s.seats.length), j < i → roleOk s.seats[j].role = true) ?_ ?_ ⟨_, rfl, by simp [e1], by simp [e3], by simp [e4], by simp, fun j _ hj => absurd hj (by omega)⟩
    ·rintro i st hi ⟨env', rfl, e1, e3, e4, e10, hgood⟩
     obtain ⟨pb, pv, pp, bb, p1, p2, p3, p4⟩ := ra.fs.idxE hi
     cases hr : roleOk s.seats[i].role
     ·have ff := aI e1 (aI e3 (aI e4 (aI e10 (aI ta (aI cst (aI p1 (aI p2 (aI p3 (aI p4 hr)))))))))
      refine runRf3_5 (x := ?_)
      clear ff
      refine .inr ⟨by simp, ?_⟩
      have ff := e1
      refine runRf3_4 (x := ?_)
      clear ff
      refine fin_b ?_
      have : (s.seats.all fun x => roleOk x.role) = false := by
       rw [List.all_eq_false]; exact ⟨_, List.getElem_mem hi, by simp [hr]⟩
      unfold mayR; rw [this]; simp
     ·have ff := aI e1 (aI e3 (aI e4 (aI e10 (aI ta (aI cst (aI p1 (aI p2 (aI p3 (aI p4 hr)))))))))
      refine runRf3_5 (x := ?_)
      clear ff
      refine .inl ⟨by simp, _, rfl, by simp [e1], by simp [e3], by simp [e4], by simp, fun j hj hji => ?_⟩
      by_cases hq : j = i
      ·subst hq; exact hr
      ·exact hgood j hj (by omega)
    rintro st ⟨env', rfl, e1, e3, e4, e10, hgood⟩
    have hr1 : (s.seats.all fun x => roleOk x.role) = true := by
     rw [List.all_eq_true]
     intro x hx
     obtain ⟨j, hj, rfl⟩ := List.getElem_of_mem hx
     exact hgood j hj hj
    have ff := aI e1 (aI e3 (aI e4 e10))
    refine runRf3_4 (x := ?_)
    clear ff
    refine ⟨by simp, ?_⟩
    have ff := aI e1 (aI e3 (aI e4 e10))
    refine runRf3_4 (x := ?_)
    clear ff
    refine loop_up s.invites.length (fun i st => ∃ env', st = ⟨env', h ++ T⟩ ∧ env'.get 1 = .ptr h.length 0 [] tState ∧ env'.get 3 = nat s.seats.length ∧ env'.get 4 = nat s.invites.length ∧ env'.get 11 = nat i ∧ ∀ j (hj : j < s.invites.length), j < i → roleOk s.invites[j].role = true) ?_ ?_ ⟨_, rfl, by simp [e1], by simp [e3], by simp [e4], by simp, fun j _ hj => absurd hj (by omega)⟩
    ·rintro i st hi ⟨env', rfl, e1, e3, e4, e10, hgood⟩
     obtain ⟨pb, pv, pp, bb, p1, p2, p3, p4⟩ := ra.fi.idxE hi
     cases hr : roleOk s.invites[i].role
     ·have ff := aI e1 (aI e3 (aI e4 (aI e10 (aI ta (aI cst (aI p1 (aI p2 (aI p3 (aI p4 hr)))))))))
      refine runRf3_5 (x := ?_)
      clear ff
      refine .inr ⟨by simp, ?_⟩
      have ff := e1
      refine runRf3_4 (x := ?_)
      clear ff
      refine fin_b ?_
      have : (s.invites.all fun x => roleOk x.role) = false := by
       rw [List.all_eq_false]; exact ⟨_, List.getElem_mem hi, by simp [hr]⟩
      unfold mayR; rw [this]; simp
     ·have ff := aI e1 (aI e3 (aI e4 (aI e10 (aI ta (aI cst (aI p1 (aI p2 (aI p3 (aI p4 hr)))))))))
      refine runRf3_5 (x := ?_)
      clear ff
      refine .inl ⟨by simp, _, rfl, by simp [e1], by simp [e3], by simp [e4], by simp, fun j hj hji => ?_⟩
      by_cases hq : j = i
      ·subst hq; exact hr
      ·exact hgood j hj (by omega)
    rintro st ⟨env', rfl, e1, e3, e4, e10, hgood⟩
    have hr2 : (s.invites.all fun x => roleOk x.role) = true := by
     rw [List.all_eq_true]
     intro x hx
     obtain ⟨j, hj, rfl⟩ := List.getElem_of_mem hx
     exact hgood j hj hj
    have ff := aI e1 (aI e3 (aI e4 e10))
    refine runRf3_4 (x := ?_)
    clear ff
    refine ⟨by simp, ?_⟩
    have ff := aI e1 (aI e3 (aI e4 e10))
    refine runRf3_4 (x := ?_)
    clear ff
    refine fin_b ?_
    unfold mayR; rw [hs, hl, hadj, hnod, hr1, hr2]; rfl
end Go.Vab

/- How the code of a function is read. Printed by wip/tools/gen2.py and gen3.py (own work). -/
namespace Go.Vab
open Go Go.Proofs
set_option maxRecDepth 20000
set_option maxHeartbeats 4000000
end Go.Vab

/-
  The document's states with a seat more, walked.
-/
namespace Go.Vab
open Go Go.Proofs
def zSt : AV := eStH 0#32 ci0 acc0 .nilslice .nilslice .nilslice .nilslice .nilslice .nilslice
@[simp] theorem hasTy_zSt : hasTy zSt tState = true := by unfold zSt; simp
end Go.Vab

/- How the code of a function is read. Printed by wip/tools/gen2.py and gen3.py (own work). -/
namespace Go.Vab
open Go Go.Proofs
set_option maxRecDepth 20000
set_option maxHeartbeats 4000000
end Go.Vab

/-
  The document's states without somebody, walked.
-/
namespace Go.Vab
open Go Go.Proofs
end Go.Vab

/-
  What the document makes of a state, first half: small things.
-/
namespace Go.Vab
open Go Go.Proofs
def MadeR (h : Heap) (L : List AV) (x : Except Nat Stt) (r : AV × Heap) : Prop := match x with
 | .error k => ∃ t, r = (.tuple [zSt, nat k], h ++ t)
 | .ok s => ∃ vt vp vs vi va vb t, r = (.tuple [eSt s vt vp vs vi va vb, nat 0], h ++ t) ∧ StR (h ++ t) s vt vp vs vi va vb ∧ ∀ y ∈ [vt, vp, vs, vi, va, vb], ∀ b, rb y = some b → (∃ v ∈ L, rb v = some b) ∨ h.length ≤ b
theorem rb_nil (b : Nat) : rb .nilslice ≠ some b := fun h => by cases h
theorem made_fin {h A B : Heap} {c c' : Blk} {L : List AV} {s : Stt} {vt vp vs vi va vb : AV} (hL : ∀ v ∈ L, ∀ b, rb v = some b → b < h.length) (r : StR (h ++ (A ++ c :: B)) s vt vp vs vi va vb)
  (lo : ∀ y ∈ [vt, vp, vs, vi, va, vb], ∀ b, rb y = some b → (∃ v ∈ L, rb v = some b) ∨ h.length + A.length < b) : MadeR h L (.ok s) (.tuple [eSt s vt vp vs vi va vb, nat 0], h ++ (A ++ c' :: B)) := by
 refine ⟨_, _, _, _, _, _, _, rfl, r.other fun y hy b hb => cell_ne ?_, fun y hy b hb => ?_⟩
 ·rcases lo y hy b hb with ⟨v, hv, h1⟩ | h1
  ·have := hL v hv b h1; omega
  ·omega
 ·rcases lo y hy b hb with h1 | h1
  ·exact .inl h1
  ·exact .inr (by omega)
theorem del_len {X : Type} (f : X → Pt) (l : List X) (e : Pt) : (del f l e).length ≤ l.length := List.length_filter_le _ _
theorem ins_len {X : Type} (f : X → Pt) (l : List X) (x : X) : (ins f l x).length = l.length + 1 := by
 have := low_le f l (f x)
 simp [ins]; omega
section
variable {h : Heap} {s : Stt} {vt vp vs vi va vb : AV} {e : Pt} (ra : StR h s vt vp vs vi va vb) (hs : shortL s)
include ra hs
end
end Go.Vab

/- How the code of a function is read. Printed by wip/tools/gen2.py and gen3.py (own work). -/
namespace Go.Vab
open Go Go.Proofs
noncomputable section
def cx21 : Ctx := ⟨fun _ _ _ => none,TT,26,[13,14,15,16,17,18,19,20,21,22,24,25]⟩
def n21_0 := bodyOf Tryz.f21
def n21_1 := cR n21_0
def n21_2 := cR n21_1
def n21_3 := cL n21_2
def n21_4 := cR n21_3
def n21_5 := cL n21_4
def n21_6 := cR n21_5
def n21_7 := cR n21_4
def n21_8 := cR n21_2
def n21_9 := cR n21_8
def q21 := zQ5 cx21 21 Tryz.f21 n21_0 fun s => (bnd (mLoad tState (s.env.get 10) s.heap) fun v => bnd (bnd (some (s.env.get 11)) fun v => bnd (some []) fun vs => some (v :: vs)) fun vs => some (v :: vs))
set_option maxRecDepth 20000
set_option maxHeartbeats 4000000
def sn21 := zAll cx21 [[n21_6],[n21_6,n21_5],[n21_7],[n21_5,n21_7,n21_4],[n21_4,n21_3],[n21_9],[n21_9,n21_8],[n21_3,n21_8,n21_2],[n21_2,n21_1],[n21_1,n21_0]]
end
end Go.Vab

/-
  A new group, in the document's way, walked.
-/
namespace Go.Vab
open Go Go.Proofs
theorem runRf16_0 {G X : Prop} (f : Hd X → G := by
 intro xX
 repeat' (first | refine stp (x := ?_) | (simp (decide := true) only [sn21, snB, if_true, if_false]))
 exact xX.get) (x : X) : G := f ⟨x⟩
set_option maxHeartbeats 8000000 in
theorem c21 {h : Heap} {k c : Ci} {t p : Bs} {ac : Acc} {vt vp : AV} (rt : BytL h vt t) (rp : BytL h vp p) : SpecQ Tryz.prog 21 [eCi k, vt, eAcc ac, vp, eCi c] h (MadeR h [vt, vp] (firstP k t ac p c)) := by
 have t1 := rt.cell
 have t2 := rp.cell
 refine q21 fun env g0 g1 g2 g3 g4 => ?_
 have ff := aI g0 (aI g1 (aI g2 (aI g3 (aI g4 (aI t1 t2)))))
 refine runRf16_0 (x := ?_)
 clear ff
 have hr : ∀ X : AV, Row tSeat (h ++ ⟨eCi k, 0, .own⟩ :: ⟨eAcc ac, 0, .own⟩ :: ⟨eCi c, 0, .own⟩ :: ⟨X, 0, .own⟩ :: ⟨.node [eSeat ⟨c, 2#8, 0#32⟩], 0, .own⟩ :: [⟨eStH 0#32 k ac vt vp (.slice (h.length + 4) 0 [] tSeat 0 1 (some 1)) .nilslice .nilslice .nilslice, 0, .own⟩]) (.slice (h.length + 4) 0 [] tSeat 0 1 (some 1)) [eSeat ⟨c, 2#8, 0#32⟩] := fun X => by
  have r : RnU tSeat (h.length + 4) [⟨.node [eSeat ⟨c, 2#8, 0#32⟩], 0, .own⟩] (.slice (h.length + 4) 0 [] tSeat 0 1 (some 1)) [eSeat ⟨c, 2#8, 0#32⟩] := ⟨by simp, .inr ⟨0, 1, [eSeat ⟨c, 2#8, 0#32⟩], rfl, rfl, rfl, by simp, rfl⟩⟩
  have := r.row (F := h ++ [⟨eCi k, 0, .own⟩, ⟨eAcc ac, 0, .own⟩, ⟨eCi c, 0, .own⟩, ⟨X, 0, .own⟩]) (l := [⟨eStH 0#32 k ac vt vp (.slice (h.length + 4) 0 [] tSeat 0 1 (some 1)) .nilslice .nilslice .nilslice, 0, .own⟩]) tSeat_x (by simp)
  simpa using this
 have hn : ∀ {T : Ty} {ts : List Ty} (_ : T = .struct ts) (H : Heap), Row T H .nilslice [] := fun hT H => by simpa using (RnU.nil _ H.length []).row (F := H) (l := []) hT rfl
 have rs : ∀ X : AV, StR (h ++ ⟨eCi k, 0, .own⟩ :: ⟨eAcc ac, 0, .own⟩ :: ⟨eCi c, 0, .own⟩ :: ⟨X, 0, .own⟩ :: ⟨.node [eSeat ⟨c, 2#8, 0#32⟩], 0, .own⟩ :: [⟨eStH 0#32 k ac vt vp (.slice (h.length + 4) 0 [] tSeat 0 1 (some 1)) .nilslice .nilslice .nilslice, 0, .own⟩]) (firstS k t ac p c) vt vp (.slice (h.length + 4) 0 [] tSeat 0 1 (some 1)) .nilslice .nilslice .nilslice := fun X => ⟨rt.app _, rp.app _, hr X, hn tInvite_x _, hn tAsk_x _, hn tBan_x _⟩
 have hs : shortL (firstS k t ac p c) := by simp [shortL]
 refine SpecQ.step (c23 (rs (eStH 0#32 ci0 acc0 .nilslice .nilslice .nilslice .nilslice .nilslice .nilslice)) hs) ?_
 rintro _ rfl
 dsimp only
 cases hm : mayS (firstS k t ac p c)
 ·have e : firstP k t ac p c = .error 2 := by simp [firstP, hm]
  rw [e]
  have ff := aI g0 (aI g1 (aI g2 (aI g3 (aI g4 (aI t1 t2)))))
  refine runRf16_0 (x := ?_)
  clear ff
  exact ⟨_, rfl⟩
 ·have e : firstP k t ac p c = .ok (firstS k t ac p c) := by simp [firstP, hm]
  rw [e]
  have ff := aI g0 (aI g1 (aI g2 (aI g3 (aI g4 (aI t1 t2)))))
  refine runRf16_0 (x := ?_)
  clear ff
  refine made_fin (A := [_, _, _]) (c := ⟨.node [], 0, .own⟩) (fun v hv b hb => by simp only [List.mem_cons, List.not_mem_nil, or_false] at hv; rcases hv with rfl | rfl; exact rt.rb_lt' b hb; exact rp.rb_lt' b hb) (rs _) fun y' hy b' hb => ?_
  simp only [List.mem_cons, List.not_mem_nil, or_false] at hy
  rcases hy with rfl | rfl | rfl | rfl | rfl | rfl
  ·exact .inl ⟨_, by simp, hb⟩
  ·exact .inl ⟨_, by simp, hb⟩
  ·cases hb; exact .inr (by simp)
  ·exact absurd hb (rb_nil _)
  ·exact absurd hb (rb_nil _)
  ·exact absurd hb (rb_nil _)
end Go.Vab

/- How the code of a function is read. Printed by wip/tools/gen2.py and gen3.py (own work). -/
namespace Go.Vab
open Go Go.Proofs
noncomputable section
def cx4 : Ctx := ⟨fun _ _ _ => none,TT,76,[17,18,19,20,21,22,23,25,26,27,28,29,30,31,32,33,34,35,36,37,38,39,40,41,42,43,44,45,46,47,48,49,50,51,52,53,54,55,56,57,59,60,61,62,63,64,65,66,67,68,69,70,71,72,73,74,75]⟩
def n4_0 := bodyOf Tryz.f4
def n4_1 := cR n4_0
def n4_2 := cL n4_1
def n4_3 := cR n4_2
def n4_4 := cL n4_3
def n4_5 := cR n4_4
def n4_6 := cR n4_3
def n4_7 := cR n4_1
def n4_8 := cR n4_7
def n4_9 := cR n4_8
def n4_10 := cR n4_9
def n4_11 := cL n4_10
def n4_12 := cR n4_11
def n4_13 := cL n4_12
def n4_14 := cR n4_13
def n4_15 := cR n4_12
def n4_16 := cR n4_10
def n4_17 := cR n4_16
def n4_18 := cR n4_17
theorem fn4 : Tryz.prog.funcs[4]? = some Tryz.f4 := by kernel_rfl
def q4 := zQ5 cx4 4 Tryz.f4 n4_0 fun s => (bnd (some (s.env.get 10)) fun v => bnd (some []) fun vs => some (v :: vs))
set_option maxRecDepth 20000
set_option maxHeartbeats 4000000
def sn4 := zAll cx4 [[n4_5],[n4_5,n4_4],[n4_6],[n4_4,n4_6,n4_3],[n4_3,n4_2],[n4_14],[n4_14,n4_13],[n4_15],[n4_13,n4_15,n4_12],[n4_12,n4_11],[n4_18],[n4_18,n4_17],[n4_17,n4_16],[n4_11,n4_16,n4_10],[n4_10,n4_9],[n4_9,n4_8],[n4_8,n4_7],[n4_2,n4_7,n4_1],[n4_1,n4_0]]
end
end Go.Vab

/-
  A new group's state is the document's; walked.
-/
namespace Go.Vab
open Go Go.Proofs
theorem runRp25_0 {G X : Prop} (f : Hd X → G := by
 intro xX
 repeat' (first | refine stp (x := ?_) | (with_reducible refine SpecQ.step (c10) ?_; rintro _ rfl; try dsimp only) | (simp (decide := true) only [sn4, snB, if_true, if_false]))
 exact xX.get) (x : X) : G := f ⟨x⟩
theorem runRp25_1 {G X : Prop} (f : Hd X → G := by
 intro xX
 repeat' (first | refine stp (x := ?_) | (simp (decide := true) only [sn4, snB, if_true, if_false]))
 exact xX.get) (x : X) : G := f ⟨x⟩
theorem Wp.app {κ : Nat → Nat} {H : Heap} {s : Stt} {vt vp vs vi va vb : AV} (w : Wp κ H s vt vp vs vi va vb) (l : Heap) : Wp κ (H ++ l) s vt vp vs vi va vb := by
 have hg : ∀ i, i < H.length → κ i = κ i ∧ (H ++ l)[i]? = H[i]? := fun i hi => ⟨rfl, List.getElem?_append_left hi⟩
 exact ⟨fun i hi => w.top i (by simp at hi; omega), w.ft.app l, w.fp.app l, w.kt, w.kp, w.fs.other fun i hi _ => hg i hi, w.fi.other fun i hi _ => hg i hi, w.fa.other fun i hi _ => hg i hi, w.fb.other fun i hi _ => hg i hi⟩
theorem nilK {X : Type} {κ : Nat → Nat} {k : Nat} {T : Ty} {ts : List Ty} {E : X → AV} (hT : T = .struct ts) (H : Heap) : KRow κ k T E H .nilslice [] := ⟨by simp, .inl ⟨rfl, nilRow hT H, rfl, fun b hb => absurd hb (rb_nil b)⟩⟩
theorem Wp.nil (H : Heap) : Wp (fun _ => 0) H st0 .nilslice .nilslice .nilslice .nilslice .nilslice .nilslice :=
 ⟨fun _ _ => rfl, ⟨BytL.nil _, fun b hb => absurd hb (rb_nil b)⟩, ⟨BytL.nil _, fun b hb => absurd hb (rb_nil b)⟩, fun b hb => absurd hb (rb_nil b), fun b hb => absurd hb (rb_nil b), nilK tSeat_x H, nilK tInvite_x H, nilK tAsk_x H, nilK tBan_x H⟩
theorem firstP_err {k c : Ci} {t p : Bs} {ac : Acc} {n : Nat} (h : firstP k t ac p c = .error n) : n ≠ 0 := by
 unfold firstP at h
 split at h
 ·cases h
 ·cases h; decide
set_option maxHeartbeats 8000000 in
theorem c4 {h : Heap} {k c : Ci} {t p : Bs} {ac : Acc} {vt vp : AV} (rt : BytL h vt t) (rp : BytL h vp p) : SpecQ Tryz.prog 4 [eCi k, vt, eAcc ac, vp, eCi c] h fun r => r.1 = .bool true := by
 have t1 := rt.cell
 have t2 := rp.cell
 have l1 := rt.len
 have l2 := rp.len
 have m1 := rt.bound
 have m2 := rp.bound
 refine q4 fun env g0 g1 g2 g3 g4 => ?_
 by_cases h1 : 5000 < t.length
 ·have ff := aI g0 (aI g1 (aI g2 (aI g3 (aI g4 (aI t1 (aI t2 (aI l1 (aI l2 (aI m1 (aI m2 h1))))))))))
  refine runRp25_0 (x := ?_)
  clear ff
  rfl
 by_cases h2 : 5000 < p.length
 ·have ff := aI g0 (aI g1 (aI g2 (aI g3 (aI g4 (aI t1 (aI t2 (aI l1 (aI l2 (aI m1 (aI m2 (aI h1 h2)))))))))))
  refine runRp25_0 (x := ?_)
  clear ff
  rfl
 have ff := aI g0 (aI g1 (aI g2 (aI g3 (aI g4 (aI t1 (aI t2 (aI l1 (aI l2 (aI m1 (aI m2 (aI h1 h2)))))))))))
 refine runRp25_1 (x := ?_)
 clear ff
 refine copyB0 (h := h) (u := [_, _, _, _]) (by simp [mElems_slc]) (rt.app _) (by omega) fun x e1 f1 => ?_
 have z1 := f1.cell
 have ff := aI g0 (aI g1 (aI g2 (aI g3 (aI g4 (aI t1 (aI t2 z1))))))
 refine runRp25_1 (x := ?_)
 clear ff
 simp only [List.append_assoc, List.cons_append, List.nil_append] at f1 ⊢
 refine copyB0 (h := h) (u := _ :: _ :: _ :: _ :: (e1 ++ [_])) (by simp [mElems_slc]) (rp.app _) (by omega) fun y e2 f2 => ?_
 have z2 := f2.cell
 simp only [List.append_assoc, List.cons_append, List.nil_append] at f2 ⊢
 obtain ⟨G, hG⟩ : ∃ G, G = h ++ ⟨eCi k, 0, .own⟩ :: ⟨eAcc ac, 0, .own⟩ :: ⟨eCi c, 0, .own⟩ :: ⟨.ints .u8 [], 0, .own⟩ :: (e1 ++ ⟨.ints .u8 [], 0, .own⟩ :: e2) := ⟨_, rfl⟩
 rw [← hG]
 have rx : BytL G x t := by
  have := f1 h (⟨.ints .u8 [], 0, .own⟩ :: e2) rfl
  rw [hG]
  simpa using this
 have ry : BytL G y p := by
  have := f2.at_ (F := h) rfl
  rw [hG]
  simpa using this
 have rt' : BytL G vt t := hG ▸ rt.app _
 have rp' : BytL G vp p := hG ▸ rp.app _
 have b5 : ∀ l, blkAt (G ++ l) h.length 0 = some ⟨eCi k, 0, .own⟩ := fun l => by rw [hG]; simp
 have b7 : ∀ l, blkAt (G ++ l) (h.length + 1) 0 = some ⟨eAcc ac, 0, .own⟩ := fun l => by rw [hG]; simp
 have b9 : ∀ l, blkAt (G ++ l) (h.length + 2) 0 = some ⟨eCi c, 0, .own⟩ := fun l => by rw [hG]; simp
 have b50 : blkAt G h.length 0 = some ⟨eCi k, 0, .own⟩ := by simpa using b5 []
 have b70 : blkAt G (h.length + 1) 0 = some ⟨eAcc ac, 0, .own⟩ := by simpa using b7 []
 have b90 : blkAt G (h.length + 2) 0 = some ⟨eCi c, 0, .own⟩ := by simpa using b9 []
 have ff := aI g1 (aI g3 (aI t1 (aI t2 (aI z1 (aI z2 (aI b50 (aI b70 b90)))))))
 refine runRp25_1 (x := ?_)
 clear ff
 refine SpecQ.step (c20 rx ry) ?_
 rintro _ hr
 cases hm : firstP k t ac p c with
 | error n =>
  rw [hm] at hr
  obtain ⟨u1, rfl⟩ := hr
  have hn := firstP_err hm
  have ff := aI g1 (aI g3 (aI t1 (aI t2 (aI z1 (aI z2 (aI b5 (aI b7 b9)))))))
  refine runRp25_1 (x := ?_)
  clear ff
  refine SpecQ.step (c21 (rt'.app _) (rp'.app _)) ?_
  rintro _ hr2
  rw [hm] at hr2
  obtain ⟨u2, rfl⟩ := hr2
  have ff := aI g1 g3
  refine runRp25_1 (x := ?_)
  clear ff
  refine SpecQ.step (c15 (a := st0) (b := st0) eSt0_st eSt0_st) ?_
  rintro _ rfl
  rw [decide_eq_true (rfl : st0 = st0)]
  have ff := aI g1 g3
  refine runRp25_1 (x := ?_)
  clear ff
  refine SpecQ.step (c19 (z := st0) (Wp.nil _)) ?_
  rintro _ ⟨H', u3, rfl, sp⟩
  have q : ∀ {v : AV} {l : Bs}, BytL G v l → ∀ l2, mStr v (H' ++ l2) = some (.str (strL l)) := fun r l2 => (((r.app _).other fun b hb => sp.keep b rfl).app l2).str
  have s1 := q rx
  have s2 := q rt'
  have s3 := q ry
  have s4 := q rp'
  have ff := aI g1 (aI g3 (aI s1 (aI s2 (aI s3 s4))))
  refine runRp25_0 (x := ?_)
  clear ff
  rfl
 | ok z =>
  rw [hm] at hr
  obtain ⟨κ, u1, ut, up, us, ui, ua, ub, rfl, w, h0⟩ := hr
  have tu := w.str.cells
  have ff := aI g1 (aI g3 (aI t1 (aI t2 (aI z1 (aI z2 (aI tu (aI b5 (aI b7 b9))))))))
  refine runRp25_1 (x := ?_)
  clear ff
  refine SpecQ.step (c21 (rt'.app _) (rp'.app _)) ?_
  rintro _ hr2
  rw [hm] at hr2
  obtain ⟨wt, wp, ws, wi, wa, wb, u2, rfl, r2, -⟩ := hr2
  have tw := r2.cells
  have ff := aI g1 (aI g3 (aI tu tw))
  refine runRp25_1 (x := ?_)
  clear ff
  refine SpecQ.step (c15 (by simpa using w.str.app _) (by simpa using r2.app _)) ?_
  rintro _ rfl
  rw [decide_eq_true (rfl : z = z)]
  have ff := aI g1 (aI g3 tu)
  refine runRp25_1 (x := ?_)
  clear ff
  refine SpecQ.step (c19 (by simpa using w.app _)) ?_
  rintro _ ⟨H', u3, rfl, sp⟩
  have q : ∀ {v : AV} {l : Bs}, BytL G v l → ∀ l2, mStr v (H' ++ l2) = some (.str (strL l)) := fun r l2 => (((r.app _).other fun b hb => sp.keep b (h0 b (r.rb_lt' b hb))).app l2).str
  have s1 := q rx
  have s2 := q rt'
  have s3 := q ry
  have s4 := q rp'
  have ff := aI g1 (aI g3 (aI s1 (aI s2 (aI s3 s4))))
  refine runRp25_0 (x := ?_)
  clear ff
  rfl
end Go.Vab
