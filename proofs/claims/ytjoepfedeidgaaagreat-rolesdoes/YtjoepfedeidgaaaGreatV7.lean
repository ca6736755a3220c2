/-
  What may be, walked: role, mayAccess, fields, MayAction.
-/
import Derived.Test.YtjoepfedeidgaaaGreatV3
import Derived.Test.YtjoepfedeidgaaaGreatV6
import Derived.Test.YtjoepfedeidgaaaGreatV4
import Derived.Test.YtjoepfedeidgaaaGreatV5
import Derived.Test.YtjoepfedeidgaaaGreatV2
set_option linter.all false
set_option linter.unusedSectionVars false
namespace Go.Vab
open Go Go.Proofs
theorem c55 {h : Heap} {r : BitVec 8} : SpecQ Tryz.prog 55 [u8 r] h fun x => x = (.bool (roleOk r), h) := by
  refine SpecQ.drop1 rfl (q55 fun env g0 => ?_)
  repeat' (first | ((with_reducible refine evs_of (a := ?_) ?_ ?_); rotate_left; (focus ((conv => lhs; simp (disch := omega) [g0]); done)); try dsimp only) | (simp (decide := true) only [sn55, sqW_nrm, sqW_exit, sqW_ret, inBlk_nrm, inBlk_ret, inBlk_same, inBlk_exit, if_true, if_false, retW_nrm, retW_ret]) | ((with_reducible refine gv_splitE (b := ?_) ?_ ?_ ?_); rotate_left; (focus ((conv => lhs; simp (disch := omega) [g0]); done)); all_goals ((intro hb; try simp only [Bool.not_true, Bool.not_false] at hb); try simp only [hb])) | (with_reducible refine gv_split ?_ ?_ <;> (intro hb; try simp only [Bool.not_true, Bool.not_false] at hb) <;> try simp only [hb]))
  all_goals refine fin_b0 ?_
  all_goals (unfold roleOk; simp_all)
theorem c44 {h : Heap} {a : Acc} : SpecQ Tryz.prog 44 [eAcc a] h fun x => x = (.bool (accOk a), h) := by
  refine SpecQ.drop1 rfl (q44 fun env g0 => ?_)
  repeat' (first | ((with_reducible refine evs_of (a := ?_) ?_ ?_); rotate_left; (focus ((conv => lhs; simp (disch := omega) [g0]); done)); try dsimp only) | ((with_reducible refine gW_do ?_ ?_); (focus (simp (disch := omega) [g0]; done))) | ((with_reducible refine gW_no ?_ ?_); (focus (simp (disch := omega) [g0]; done)); try dsimp only) | ((with_reducible refine gW_un ?_ ?_); (focus (simp (disch := omega) [g0]; done)); try dsimp only) | (with_reducible refine SpecQ.step (c55) ?_; rintro _ rfl; try dsimp only) | ((with_reducible refine SpecA_i (args' := ?_) ?_ ?_); rotate_left; (focus ((conv => lhs; simp (disch := omega) [g0]); done))) | (simp (decide := true) only [sn44, sqW_nrm, sqW_exit, sqW_ret, inBlk_nrm, inBlk_ret, inBlk_same, inBlk_exit, if_true, if_false, retW_nrm, retW_ret]) | ((with_reducible refine gv_splitE (b := ?_) ?_ ?_ ?_); rotate_left; (focus ((conv => lhs; simp (disch := omega) [g0]); done)); all_goals ((intro hb; try simp only [Bool.not_true, Bool.not_false] at hb); try simp only [hb])) | ((with_reducible refine gW_splitE (b := ?_) ?_ ?_ ?_); rotate_left; (focus ((conv => lhs; simp (disch := omega) [g0]); done)); all_goals ((intro hb; try simp only [Bool.not_true, Bool.not_false] at hb); try simp only [hb])) | (with_reducible refine gv_split ?_ ?_ <;> (intro hb; try simp only [Bool.not_true, Bool.not_false] at hb) <;> try simp only [hb]) | (with_reducible refine gW_split ?_ ?_ <;> (intro hb; try simp only [Bool.not_true, Bool.not_false] at hb) <;> try simp only [hb]))
  all_goals refine fin_b ?_
  all_goals (unfold accOk; simp_all)
set_option maxHeartbeats 2000000 in
theorem c58 {h : Heap} {k : BitVec 8} : SpecQ Tryz.prog 58 [u8 k] h fun x => x = (hasV k, h) := by
  refine SpecQ.drop1 rfl (q58 fun env g0 => ?_)
  repeat' (first | ((with_reducible refine evs_of (a := ?_) ?_ ?_); rotate_left; (focus ((conv => lhs; simp (disch := omega) [g0]); done)); try dsimp only) | ((with_reducible refine cndW_T ?_ ?_); (focus (simp (disch := omega) [g0] <;> omega))) | ((with_reducible refine cndW_F ?_ ?_); (focus (simp (disch := omega) [g0] <;> omega))) | (with_reducible refine wL_i ?_) | (simp (decide := true) only [sn58, sqW_nrm, sqW_exit, sqW_ret, inBlk_nrm, inBlk_ret, inBlk_same, inBlk_exit, if_true, if_false, retW_nrm, retW_ret]) | ((with_reducible refine cndW_splitE (b := ?_) ?_ ?_ ?_); rotate_left; (focus ((conv => lhs; simp (disch := omega) [g0]); done)); all_goals ((intro hb; try simp only [Bool.not_true, Bool.not_false] at hb); try simp only [hb])) | (with_reducible refine cndW_split ?_ ?_ <;> (intro hb; try simp only [Bool.not_true, Bool.not_false] at hb) <;> try simp only [hb]))
  all_goals refine fin_v ?_
  all_goals (unfold hasV; simp only [decide_eq_true_eq, decide_eq_false_iff_not] at *; first | (subst_vars; rfl) | (simp_all [hW, hE, hR, hT, hA, hP]; done))
set_option maxHeartbeats 2000000 in
theorem c29 {h : Heap} {a : Actn} {vt vp : AV} (ra : ActR h a vt vp) : SpecQ Tryz.prog 29 [eAct a vt vp] h fun x => x = (.bool (mayA a), h) := by
  have ta := ra.cells
  have l1 := ra.t.len
  have l2 := ra.p.len
  refine SpecQ.drop1 rfl (q29 fun env g0 => ?_)
  repeat' (first | ((with_reducible refine evs_of (a := ?_) ?_ ?_); rotate_left; (focus ((conv => lhs; simp (disch := omega) [g0, ta, l1, l2, hasV]); done)); try dsimp only) | ((with_reducible refine gW_do ?_ ?_); (focus (simp (disch := omega) [g0, ta, l1, l2, hasV]; done))) | ((with_reducible refine gW_no ?_ ?_); (focus (simp (disch := omega) [g0, ta, l1, l2, hasV]; done)); try dsimp only) | ((with_reducible refine gW_un ?_ ?_); (focus (simp (disch := omega) [g0, ta, l1, l2, hasV]; done)); try dsimp only) | ((with_reducible refine cndW_T ?_ ?_); (focus (simp (disch := omega) [g0, ta, l1, l2, hasV] <;> omega))) | ((with_reducible refine cndW_F ?_ ?_); (focus (simp (disch := omega) [g0, ta, l1, l2, hasV] <;> omega))) | (with_reducible refine wL_i ?_) | ((with_reducible refine ValW_do ?_ ?_); (focus (simp (disch := omega) [g0, ta, l1, l2, hasV]; done)); try dsimp only) | ((with_reducible refine ValW_no ?_ ?_); (focus (simp (disch := omega) [g0, ta, l1, l2, hasV]; done)); try dsimp only) | ((with_reducible refine ValW_un ?_ ?_); (focus (simp (disch := omega) [g0, ta, l1, l2, hasV]; done)); try dsimp only) | (with_reducible refine ValW_i (c58) ?_; try dsimp only) | (with_reducible refine SpecQ.step (c58) ?_; rintro _ rfl; try dsimp only) | (with_reducible refine ValW_i (c55) ?_; try dsimp only) | (with_reducible refine SpecQ.step (c55) ?_; rintro _ rfl; try dsimp only) | (with_reducible refine ValW_i (c44) ?_; try dsimp only) | (with_reducible refine SpecQ.step (c44) ?_; rintro _ rfl; try dsimp only) | ((with_reducible refine SpecA_i (args' := ?_) ?_ ?_); rotate_left; (focus ((conv => lhs; simp (disch := omega) [g0, ta, l1, l2, hasV]); done))) | ((with_reducible refine ValA_i (args' := ?_) ?_ ?_); rotate_left; (focus ((conv => lhs; simp (disch := omega) [g0, ta, l1, l2, hasV]); done))) | ((with_reducible refine ValA_fn (g := ?_) (caps := ?_) ?_ ?_); rotate_left; rotate_left; (focus ((conv => lhs; simp (disch := omega) [g0, ta, l1, l2, hasV]); done))) | (simp (decide := true) only [sn29, sqW_nrm, sqW_exit, sqW_ret, inBlk_nrm, inBlk_ret, inBlk_same, inBlk_exit, if_true, if_false, retW_nrm, retW_ret]) | (with_reducible refine n29_8_w _ _ _ ?_) | ((with_reducible refine cndW_splitE (b := ?_) ?_ ?_ ?_); rotate_left; (focus ((conv => lhs; simp (disch := omega) [g0, ta, l1, l2, hasV]); done)); all_goals ((intro hb; try simp only [Bool.not_true, Bool.not_false] at hb); try simp only [hb])) | ((with_reducible refine gv_splitE (b := ?_) ?_ ?_ ?_); rotate_left; (focus ((conv => lhs; simp (disch := omega) [g0, ta, l1, l2, hasV]); done)); all_goals ((intro hb; try simp only [Bool.not_true, Bool.not_false] at hb); try simp only [hb])) | ((with_reducible refine gW_splitE (b := ?_) ?_ ?_ ?_); rotate_left; (focus ((conv => lhs; simp (disch := omega) [g0, ta, l1, l2, hasV]); done)); all_goals ((intro hb; try simp only [Bool.not_true, Bool.not_false] at hb); try simp only [hb])) | (with_reducible refine gv_split ?_ ?_ <;> (intro hb; try simp only [Bool.not_true, Bool.not_false] at hb) <;> try simp only [hb]) | (with_reducible refine gW_split ?_ ?_ <;> (intro hb; try simp only [Bool.not_true, Bool.not_false] at hb) <;> try simp only [hb]) | (with_reducible refine cndW_split ?_ ?_ <;> (intro hb; try simp only [Bool.not_true, Bool.not_false] at hb) <;> try simp only [hb]) | (with_reducible refine ValW_split ?_ ?_ <;> (intro hb; try simp only [Bool.not_true, Bool.not_false] at hb) <;> try simp only [hb]))
  all_goals refine fin_b ?_
  all_goals (clear ra ta l1 l2 g0; unfold mayA; simp_all)
end Go.Vab

/- How the code of a function is read. Printed by wip/tools/gen2.py and gen3.py (own work). -/
namespace Go.Vab
open Go Go.Proofs
def cx54 : Ctx := ⟨fun _ _ _ => none,TT,7,[3,4,5,6]⟩
noncomputable def n54_0 := bodyOf Tryz.f54
noncomputable def n54_1 := cR n54_0
noncomputable def n54_2 := cR n54_1
def q54 := zQ1 cx54 54 Tryz.f54 n54_0 fun s => (bnd (some (s.env.get 2)) fun v => bnd (some []) fun vs => some (v :: vs))
set_option maxRecDepth 20000
set_option maxHeartbeats 4000000
def sn54 := zAll cx54 [[n54_2],[n54_2,n54_1],[n54_1,n54_0]]
-- words: SpecA
-- draws: 
end Go.Vab

/- How the code of a function is read. Printed by wip/tools/gen2.py and gen3.py (own work). -/
namespace Go.Vab
open Go Go.Proofs
def cx57 : Ctx := ⟨fun _ _ _ => none,TT,7,[3,4,5,6]⟩
noncomputable def n57_0 := bodyOf Tryz.f57
noncomputable def n57_1 := cR n57_0
noncomputable def n57_2 := cR n57_1
def q57 := zQ1 cx57 57 Tryz.f57 n57_0 fun s => (bnd (some (s.env.get 2)) fun v => bnd (some []) fun vs => some (v :: vs))
set_option maxRecDepth 20000
set_option maxHeartbeats 4000000
def sn57 := zAll cx57 [[n57_2],[n57_2,n57_1],[n57_1,n57_0]]
-- words: SpecA
-- draws: 
end Go.Vab

/- How the code of a function is read. Printed by wip/tools/gen2.py and gen3.py (own work). -/
namespace Go.Vab
open Go Go.Proofs
def cx89 : Ctx := ⟨fun _ _ _ => none,TT,19,[6,10,11,12,13,14,15,17,18]⟩
noncomputable def n89_0 := bodyOf Tryz.f89
noncomputable def n89_1 := cR n89_0
noncomputable def n89_2 := cL n89_1
noncomputable def n89_3 := cR n89_2
noncomputable def n89_4 := cB n89_3
noncomputable def n89_5 := cB n89_4
noncomputable def n89_6 := cR n89_5
noncomputable def n89_7 := cL n89_6
noncomputable def n89_8 := cL n89_7
noncomputable def n89_9 := cR n89_7
noncomputable def n89_10 := cR n89_6
noncomputable def n89_11 := cL n89_10
noncomputable def n89_12 := cB n89_11
noncomputable def n89_13 := cR n89_12
noncomputable def n89_14 := cR n89_13
noncomputable def n89_15 := cL n89_14
noncomputable def n89_16 := cR n89_15
noncomputable def n89_17 := cR n89_14
noncomputable def n89_18 := cR n89_10
noncomputable def n89_19 := cR n89_1
noncomputable def n89_20 := cR n89_19
def q89 := zQ2 cx89 89 Tryz.f89 n89_0 fun s => (bnd (some (s.env.get 4)) fun v => bnd (some []) fun vs => some (v :: vs))
set_option maxRecDepth 20000
set_option maxHeartbeats 4000000
def sn89 := zAll cx89 [[n89_8],[n89_9],[n89_8,n89_9,n89_7],[n89_16],[n89_16,n89_15],[n89_17],[n89_15,n89_17,n89_14],[n89_14,n89_13],[n89_13,n89_12],[n89_12,n89_11],[n89_18],[n89_11,n89_18,n89_10],[n89_7,n89_10,n89_6],[n89_6,n89_5],[n89_5,n89_4],[n89_4,n89_3],[n89_3,n89_2],[n89_20],[n89_20,n89_19],[n89_2,n89_19,n89_1],[n89_1,n89_0]]
-- words: cndW fnA wL
-- draws: 
end Go.Vab

/- How the code of a function is read. Printed by wip/tools/gen2.py and gen3.py (own work). -/
namespace Go.Vab
open Go Go.Proofs
def cx90 : Ctx := ⟨fun _ _ _ => none,TT,19,[6,10,11,12,13,14,15,17,18]⟩
noncomputable def n90_0 := bodyOf Tryz.f90
noncomputable def n90_1 := cR n90_0
noncomputable def n90_2 := cL n90_1
noncomputable def n90_3 := cR n90_2
noncomputable def n90_4 := cB n90_3
noncomputable def n90_5 := cB n90_4
noncomputable def n90_6 := cR n90_5
noncomputable def n90_7 := cL n90_6
noncomputable def n90_8 := cL n90_7
noncomputable def n90_9 := cR n90_7
noncomputable def n90_10 := cR n90_6
noncomputable def n90_11 := cL n90_10
noncomputable def n90_12 := cB n90_11
noncomputable def n90_13 := cR n90_12
noncomputable def n90_14 := cR n90_13
noncomputable def n90_15 := cL n90_14
noncomputable def n90_16 := cR n90_15
noncomputable def n90_17 := cR n90_14
noncomputable def n90_18 := cR n90_10
noncomputable def n90_19 := cR n90_1
noncomputable def n90_20 := cR n90_19
def q90 := zQ2 cx90 90 Tryz.f90 n90_0 fun s => (bnd (some (s.env.get 4)) fun v => bnd (some []) fun vs => some (v :: vs))
set_option maxRecDepth 20000
set_option maxHeartbeats 4000000
def sn90 := zAll cx90 [[n90_8],[n90_9],[n90_8,n90_9,n90_7],[n90_16],[n90_16,n90_15],[n90_17],[n90_15,n90_17,n90_14],[n90_14,n90_13],[n90_13,n90_12],[n90_12,n90_11],[n90_18],[n90_11,n90_18,n90_10],[n90_7,n90_10,n90_6],[n90_6,n90_5],[n90_5,n90_4],[n90_4,n90_3],[n90_3,n90_2],[n90_20],[n90_20,n90_19],[n90_2,n90_19,n90_1],[n90_1,n90_0]]
-- words: cndW fnA wL
-- draws: 
end Go.Vab

/- How the code of a function is read. Printed by wip/tools/gen2.py and gen3.py (own work). -/
namespace Go.Vab
open Go Go.Proofs
def cx53 : Ctx := ⟨fun _ _ _ => none,TT,9,[5,6,7,8]⟩
noncomputable def n53_0 := bodyOf Tryz.f53
noncomputable def n53_1 := cR n53_0
noncomputable def n53_2 := cR n53_1
def q53 := zQ2 cx53 53 Tryz.f53 n53_0 fun s => (bnd (some (s.env.get 4)) fun v => bnd (some []) fun vs => some (v :: vs))
set_option maxRecDepth 20000
set_option maxHeartbeats 4000000
def sn53 := zAll cx53 [[n53_2],[n53_2,n53_1],[n53_1,n53_0]]
-- words: SpecA
-- draws: 
end Go.Vab

/- How the code of a function is read. Printed by wip/tools/gen2.py and gen3.py (own work). -/
namespace Go.Vab
open Go Go.Proofs
def cx56 : Ctx := ⟨fun _ _ _ => none,TT,9,[5,6,7,8]⟩
noncomputable def n56_0 := bodyOf Tryz.f56
noncomputable def n56_1 := cR n56_0
noncomputable def n56_2 := cR n56_1
def q56 := zQ2 cx56 56 Tryz.f56 n56_0 fun s => (bnd (some (s.env.get 4)) fun v => bnd (some []) fun vs => some (v :: vs))
set_option maxRecDepth 20000
set_option maxHeartbeats 4000000
def sn56 := zAll cx56 [[n56_2],[n56_2,n56_1],[n56_1,n56_0]]
-- words: SpecA
-- draws: 
end Go.Vab

/- How the code of a function is read. Printed by wip/tools/gen2.py and gen3.py (own work). -/
namespace Go.Vab
open Go Go.Proofs
def cx28 : Ctx := ⟨fun _ _ _ => none,TT,62,[4,5,6,7,8,9,10,11,12,13,14,15,16,17,18,19,20,21,22,23,24,25,27,28,29,30,31,32,33,34,35,36,37,38,39,40,41,42,43,44,45,46,47,48,49,50,51,52,53,54,55,56,57,58,59,60,61]⟩
noncomputable def n28_0 := bodyOf Tryz.f28
noncomputable def n28_1 := cR n28_0
noncomputable def n28_2 := cL n28_1
noncomputable def n28_3 := cR n28_2
noncomputable def n28_4 := cL n28_3
noncomputable def n28_5 := cR n28_4
noncomputable def n28_6 := cR n28_3
noncomputable def n28_7 := cR n28_1
noncomputable def n28_8 := cR n28_7
noncomputable def n28_9 := cR n28_8
def q28 := zQ1 cx28 28 Tryz.f28 n28_0 fun s => (bnd (some (s.env.get 2)) fun v => bnd (some []) fun vs => some (v :: vs))
set_option maxRecDepth 20000
set_option maxHeartbeats 4000000
def sn28 := zAll cx28 [[n28_5],[n28_5,n28_4],[n28_6],[n28_4,n28_6,n28_3],[n28_3,n28_2],[n28_9],[n28_9,n28_8],[n28_8,n28_7],[n28_2,n28_7,n28_1],[n28_1,n28_0]]
-- words: SpecA cndW gW gv wL
-- draws: 
end Go.Vab

/-
  forms.MayState, walked.
-/
namespace Go.Vab
open Go Go.Proofs
theorem runMayS_0 {G X : Prop} (f : Hd X → G := by
  intro xX
  repeat' (first | refine stp (x := ?_) | (with_reducible refine SpecQ.step (c55) ?_; rintro _ rfl; try dsimp only) | (simp (decide := true) only [sn54, snB, if_true, if_false]))
  exact xX.get) (x : X) : G := f ⟨x⟩
theorem runMayS_1 {G X : Prop} (f : Hd X → G := by
  intro xX
  repeat' (first | refine stp (x := ?_) | (simp (decide := true) only [sn89, snB, if_true, if_false]))
  exact xX.get) (x : X) : G := f ⟨x⟩
theorem runMayS_2 {G X : Prop} (f : Hd X → G := by
  intro xX
  repeat' (first | refine stp (x := ?_) | (with_reducible refine SpecQ.step (c54) ?_; rintro _ rfl; try dsimp only) | (simp (decide := true) only [sn89, snB, if_true, if_false]))
  exact xX.get) (x : X) : G := f ⟨x⟩
theorem runMayS_3 {G X : Prop} (f : Hd X → G := by
  intro xX
  repeat' (first | refine stp (x := ?_) | (simp (decide := true) only [sn53, snB, if_true, if_false]))
  exact xX.get) (x : X) : G := f ⟨x⟩
theorem runMayS_4 {G X : Prop} (f : Hd X → G := by
  intro xX
  repeat' (first | refine stp (x := ?_) | (with_reducible refine SpecQ.step (c55) ?_; rintro _ rfl; try dsimp only) | (simp (decide := true) only [sn57, snB, if_true, if_false]))
  exact xX.get) (x : X) : G := f ⟨x⟩
theorem runMayS_5 {G X : Prop} (f : Hd X → G := by
  intro xX
  repeat' (first | refine stp (x := ?_) | (simp (decide := true) only [sn90, snB, if_true, if_false]))
  exact xX.get) (x : X) : G := f ⟨x⟩
theorem runMayS_6 {G X : Prop} (f : Hd X → G := by
  intro xX
  repeat' (first | refine stp (x := ?_) | (with_reducible refine SpecQ.step (c57) ?_; rintro _ rfl; try dsimp only) | (simp (decide := true) only [sn90, snB, if_true, if_false]))
  exact xX.get) (x : X) : G := f ⟨x⟩
theorem runMayS_7 {G X : Prop} (f : Hd X → G := by
  intro xX
  repeat' (first | refine stp (x := ?_) | (simp (decide := true) only [sn56, snB, if_true, if_false]))
  exact xX.get) (x : X) : G := f ⟨x⟩
theorem runMayS_8 {G X : Prop} (f : Hd X → G := by
  intro xX
  repeat' (first | refine stp (x := ?_) | (with_reducible refine SpecQ.step (c44) ?_; rintro _ rfl; try dsimp only) | (simp (decide := true) only [sn28, snB, if_true, if_false]))
  exact xX.get) (x : X) : G := f ⟨x⟩
theorem runMayS_9 {G X : Prop} (f : Hd X → G := by
  intro xX
  repeat' (first | refine stp (x := ?_) | (simp (decide := true) only [sn28, snB, if_true, if_false]))
  exact xX.get) (x : X) : G := f ⟨x⟩
theorem runMayS_10 {G X : Prop} (f : Hd X → G := by
  intro xX
  repeat' (first | refine stp (x := ?_) | (with_reducible refine SpecQ.step (c53 (ra.fs.app _)) ?_; rintro _ rfl; try dsimp only) | (with_reducible refine SpecQ.step (c56 (ra.fi.app _)) ?_; rintro _ rfl; try dsimp only) | (simp (decide := true) only [sn28, snB, if_true, if_false]))
  exact xX.get) (x : X) : G := f ⟨x⟩
theorem c54 {h : Heap} {s : Seat} : SpecQ Tryz.prog 54 [eSeat s] h fun r => r = (.bool (!roleOk s.role), h) := by
  refine SpecQ.drop1 rfl (q54 fun env g0 => ?_)
  have ff := g0
  refine runMayS_0 (x := ?_)
  clear ff
  exact ⟨_, rfl⟩
theorem c89 {h : Heap} {x : AV} {l : List Seat} (hx : Row tSeat h x (l.map eSeat)) : SpecQ Tryz.prog 89 [x, .fn 54 []] h fun r => ∃ n : Int, r = (.int .i64 n, h) ∧ (0 ≤ n ↔ (l.any fun s => !roleOk s.role) = true) := by
  have lx := hx.len
  have bx := hx.bound
  rw [List.length_map] at lx bx
  refine q89 fun env g0 g1 => ?_
  have ff := And.intro g0 (And.intro g1 lx)
  refine runMayS_1 (x := ?_)
  clear ff
  refine loop_up l.length (fun i st => ∃ env', st = ⟨env', h⟩ ∧ env'.get 0 = x ∧ env'.get 1 = .fn 54 [] ∧ env'.get 7 = nat l.length ∧ env'.get 8 = nat i ∧ ∀ j (hj : j < l.length), j < i → roleOk l[j].role = true) ?_ ?_ ⟨_, rfl, by simp [g0], by simp [g1], by simp, by simp, fun j _ hj => absurd hj (by omega)⟩
  · rintro i st hi ⟨env', rfl, e0, e1, e7, e8, hgood⟩
    obtain ⟨p, p1, p2⟩ := hx.idx0 (i := i) (by simpa using hi)
    rw [List.getElem?_map, List.getElem?_eq_getElem hi] at p2
    simp only [Option.map_some] at p2
    cases hr : roleOk l[i].role
    · have ff := And.intro e0 (And.intro e1 (And.intro e7 (And.intro e8 (And.intro p1 (And.intro p2 hr)))))
      refine runMayS_2 (x := ?_)
      clear ff
      refine .inr ⟨by simp, ?_⟩
      have ff := e0
      refine runMayS_1 (x := ?_)
      clear ff
      refine ⟨i, by rw [e8]; rfl, ⟨fun _ => ?_, fun _ => by omega⟩⟩
      rw [List.any_eq_true]
      exact ⟨l[i], List.getElem_mem hi, by rw [hr]; rfl⟩
    · have ff := And.intro e0 (And.intro e1 (And.intro e7 (And.intro e8 (And.intro p1 (And.intro p2 hr)))))
      refine runMayS_2 (x := ?_)
      clear ff
      refine .inl ⟨by simp, _, rfl, by simp [e0], by simp [e1], by simp [e7], by simp, fun j hj hji => ?_⟩
      by_cases hq : j = i
      · subst hq; exact hr
      · exact hgood j hj (by omega)
  · rintro st ⟨env', rfl, e0, e1, e7, e8, hgood⟩
    have ff := And.intro e7 e8
    refine runMayS_1 (x := ?_)
    clear ff
    refine ⟨by simp, ?_⟩
    have ff := And.intro e7 e8
    refine runMayS_1 (x := ?_)
    clear ff
    refine ⟨-1, rfl, ⟨fun h => absurd h (by omega), fun h => ?_⟩⟩
    rw [List.any_eq_true] at h
    obtain ⟨s, hs, hr⟩ := h
    obtain ⟨j, hj, rfl⟩ := List.getElem_of_mem hs
    rw [hgood j hj hj] at hr
    cases hr
theorem c53 {h : Heap} {x : AV} {l : List Seat} (hx : Row tSeat h x (l.map eSeat)) : SpecQ Tryz.prog 53 [x, .fn 54 []] h fun r => r = (.bool (l.any fun s => !roleOk s.role), h) := by
  refine SpecQ.drop1 rfl (q53 fun env g0 g1 => ?_)
  have ff := And.intro g0 g1
  refine runMayS_3 (x := ?_)
  clear ff
  refine SpecQ.step (c89 hx) ?_
  rintro ⟨v, h2⟩ ⟨n, e, hn⟩
  cases e
  have ff := And.intro g0 g1
  refine runMayS_3 (x := ?_)
  clear ff
  refine ⟨[], ?_⟩
  simp only [oneOrTuple, List.append_nil]
  congr 2
  rw [Bool.eq_iff_iff, decide_eq_true_eq]
  exact hn
theorem c57 {h : Heap} {s : Inv} : SpecQ Tryz.prog 57 [eInv s] h fun r => r = (.bool (!roleOk s.role), h) := by
  refine SpecQ.drop1 rfl (q57 fun env g0 => ?_)
  have ff := g0
  refine runMayS_4 (x := ?_)
  clear ff
  exact ⟨_, rfl⟩
theorem c90 {h : Heap} {x : AV} {l : List Inv} (hx : Row tInvite h x (l.map eInv)) : SpecQ Tryz.prog 90 [x, .fn 57 []] h fun r => ∃ n : Int, r = (.int .i64 n, h) ∧ (0 ≤ n ↔ (l.any fun s => !roleOk s.role) = true) := by
  have lx := hx.len
  have bx := hx.bound
  rw [List.length_map] at lx bx
  refine q90 fun env g0 g1 => ?_
  have ff := And.intro g0 (And.intro g1 lx)
  refine runMayS_5 (x := ?_)
  clear ff
  refine loop_up l.length (fun i st => ∃ env', st = ⟨env', h⟩ ∧ env'.get 0 = x ∧ env'.get 1 = .fn 57 [] ∧ env'.get 7 = nat l.length ∧ env'.get 8 = nat i ∧ ∀ j (hj : j < l.length), j < i → roleOk l[j].role = true) ?_ ?_ ⟨_, rfl, by simp [g0], by simp [g1], by simp, by simp, fun j _ hj => absurd hj (by omega)⟩
  · rintro i st hi ⟨env', rfl, e0, e1, e7, e8, hgood⟩
    obtain ⟨p, p1, p2⟩ := hx.idx0 (i := i) (by simpa using hi)
    rw [List.getElem?_map, List.getElem?_eq_getElem hi] at p2
    simp only [Option.map_some] at p2
    cases hr : roleOk l[i].role
    · have ff := And.intro e0 (And.intro e1 (And.intro e7 (And.intro e8 (And.intro p1 (And.intro p2 hr)))))
      refine runMayS_6 (x := ?_)
      clear ff
      refine .inr ⟨by simp, ?_⟩
      have ff := e0
      refine runMayS_5 (x := ?_)
      clear ff
      refine ⟨i, by rw [e8]; rfl, ⟨fun _ => ?_, fun _ => by omega⟩⟩
      rw [List.any_eq_true]
      exact ⟨l[i], List.getElem_mem hi, by rw [hr]; rfl⟩
    · have ff := And.intro e0 (And.intro e1 (And.intro e7 (And.intro e8 (And.intro p1 (And.intro p2 hr)))))
      refine runMayS_6 (x := ?_)
      clear ff
      refine .inl ⟨by simp, _, rfl, by simp [e0], by simp [e1], by simp [e7], by simp, fun j hj hji => ?_⟩
      by_cases hq : j = i
      · subst hq; exact hr
      · exact hgood j hj (by omega)
  · rintro st ⟨env', rfl, e0, e1, e7, e8, hgood⟩
    have ff := And.intro e7 e8
    refine runMayS_5 (x := ?_)
    clear ff
    refine ⟨by simp, ?_⟩
    have ff := And.intro e7 e8
    refine runMayS_5 (x := ?_)
    clear ff
    refine ⟨-1, rfl, ⟨fun h => absurd h (by omega), fun h => ?_⟩⟩
    rw [List.any_eq_true] at h
    obtain ⟨s, hs, hr⟩ := h
    obtain ⟨j, hj, rfl⟩ := List.getElem_of_mem hs
    rw [hgood j hj hj] at hr
    cases hr
theorem c56 {h : Heap} {x : AV} {l : List Inv} (hx : Row tInvite h x (l.map eInv)) : SpecQ Tryz.prog 56 [x, .fn 57 []] h fun r => r = (.bool (l.any fun s => !roleOk s.role), h) := by
  refine SpecQ.drop1 rfl (q56 fun env g0 g1 => ?_)
  have ff := And.intro g0 g1
  refine runMayS_7 (x := ?_)
  clear ff
  refine SpecQ.step (c90 hx) ?_
  rintro ⟨v, h2⟩ ⟨n, e, hn⟩
  cases e
  have ff := And.intro g0 g1
  refine runMayS_7 (x := ?_)
  clear ff
  refine ⟨[], ?_⟩
  simp only [oneOrTuple, List.append_nil]
  congr 2
  rw [Bool.eq_iff_iff, decide_eq_true_eq]
  exact hn
set_option maxHeartbeats 2000000 in
theorem c28 {h : Heap} {a : Stt} {vt vp vs vi va vb : AV} (ra : StR h a vt vp vs vi va vb) : SpecQ Tryz.prog 28 [eSt a vt vp vs vi va vb] h fun r => r = (.bool (mayS a), h) := by
  have ta := ra.cells
  have lt := ra.ft.len
  have lp := ra.fp.len
  refine SpecQ.drop1 rfl (q28 fun env g0 => ?_)
  by_cases hs : shapeS a = true
  · have hs' := hs
    simp only [shapeS, Bool.not_eq_true', Bool.or_eq_false_iff, decide_eq_false_iff_not, Bool.not_eq_false'] at hs'
    obtain ⟨⟨⟨s1, s2⟩, s3⟩, s4⟩ := hs'
    have s2 : a.pass.length % 16 = 0 := by omega
    have ff := And.intro g0 (And.intro ta (And.intro lt (And.intro lp (And.intro s1 (And.intro s2 (And.intro s3 s4))))))
    refine runMayS_8 (x := ?_)
    clear ff
    refine SpecQ.step (c45 (seen := []) (ra.fs.app _) (map_new (l := []))) ?_
    rintro ⟨v, h2⟩ ⟨seen0, e, hs0⟩
    cases e
    rw [map_put]
    replace hs0 : (decide (a.seats.length ≤ 40) && riseB ([]) (sE a)) = true → seen0 = [] ++ sE a := fun hh => by simp only [Bool.and_eq_true, decide_eq_true_eq] at hh; exact hs0 hh.1 hh.2
    rw [show a.seats.map (·.who.e) = sE a from rfl]
    cases hb0 : (decide (a.seats.length ≤ 40) && riseB ([]) (sE a))
    · have ff := And.intro g0 (And.intro ta (And.intro lt (And.intro lp (And.intro s1 (And.intro s2 (And.intro s3 s4))))))
      refine runMayS_9 (x := ?_)
      clear ff
      refine fin_b ?_
      unfold mayS; simp only [hs, hb0, Bool.and_false, Bool.false_and, Bool.true_and]
    have q0 := hs0 hb0
    subst q0
    rw [List.nil_append]
    have ff := And.intro g0 (And.intro ta (And.intro lt (And.intro lp (And.intro s1 (And.intro s2 (And.intro s3 s4))))))
    refine runMayS_9 (x := ?_)
    clear ff
    refine SpecQ.step (c47 (seen := sE a) (ra.fi.app _) (map_new (l := sE a))) ?_
    rintro ⟨v, h2⟩ ⟨seen1, e, hs1⟩
    cases e
    rw [map_put]
    replace hs1 : (decide (a.invites.length ≤ 40) && riseB (sE a) (iE a)) = true → seen1 = sE a ++ iE a := fun hh => by simp only [Bool.and_eq_true, decide_eq_true_eq] at hh; exact hs1 hh.1 hh.2
    rw [show a.invites.map (·.who.e) = iE a from rfl]
    cases hb1 : (decide (a.invites.length ≤ 40) && riseB (sE a) (iE a))
    · have ff := And.intro g0 (And.intro ta (And.intro lt (And.intro lp (And.intro s1 (And.intro s2 (And.intro s3 s4))))))
      refine runMayS_9 (x := ?_)
      clear ff
      refine fin_b ?_
      unfold mayS; simp only [hs, hb0, hb1, Bool.and_false, Bool.false_and, Bool.true_and]
    have q1 := hs1 hb1
    subst q1
    have ff := And.intro g0 (And.intro ta (And.intro lt (And.intro lp (And.intro s1 (And.intro s2 (And.intro s3 s4))))))
    refine runMayS_9 (x := ?_)
    clear ff
    refine SpecQ.step (c49 (seen := sE a ++ iE a) (ra.fa.app _) (map_new (l := sE a ++ iE a))) ?_
    rintro ⟨v, h2⟩ ⟨seen2, e, hs2⟩
    cases e
    rw [map_put]
    replace hs2 : (decide (a.asks.length ≤ 40) && riseB (sE a ++ iE a) (aE a)) = true → seen2 = sE a ++ iE a ++ aE a := fun hh => by simp only [Bool.and_eq_true, decide_eq_true_eq] at hh; exact hs2 hh.1 hh.2
    rw [show a.asks.map (·.who.e) = aE a from rfl]
    cases hb2 : (decide (a.asks.length ≤ 40) && riseB (sE a ++ iE a) (aE a))
    · have ff := And.intro g0 (And.intro ta (And.intro lt (And.intro lp (And.intro s1 (And.intro s2 (And.intro s3 s4))))))
      refine runMayS_9 (x := ?_)
      clear ff
      refine fin_b ?_
      unfold mayS; simp only [hs, hb0, hb1, hb2, Bool.and_false, Bool.false_and, Bool.true_and]
    have q2 := hs2 hb2
    subst q2
    have ff := And.intro g0 (And.intro ta (And.intro lt (And.intro lp (And.intro s1 (And.intro s2 (And.intro s3 s4))))))
    refine runMayS_9 (x := ?_)
    clear ff
    refine SpecQ.step (c51 (seen := sE a ++ iE a ++ aE a) (ra.fb.app _) (map_new (l := sE a ++ iE a ++ aE a))) ?_
    rintro ⟨v, h2⟩ ⟨seen3, e, hs3⟩
    cases e
    rw [map_put]
    replace hs3 : (decide (a.bans.length ≤ 40) && riseB (sE a ++ iE a ++ aE a) (bE a)) = true → seen3 = sE a ++ iE a ++ aE a ++ bE a := fun hh => by simp only [Bool.and_eq_true, decide_eq_true_eq] at hh; exact hs3 hh.1 hh.2
    rw [show a.bans.map (·.who.e) = bE a from rfl]
    cases hb3 : (decide (a.bans.length ≤ 40) && riseB (sE a ++ iE a ++ aE a) (bE a))
    · have ff := And.intro g0 (And.intro ta (And.intro lt (And.intro lp (And.intro s1 (And.intro s2 (And.intro s3 s4))))))
      refine runMayS_9 (x := ?_)
      clear ff
      refine fin_b ?_
      unfold mayS; simp only [hs, hb0, hb1, hb2, hb3, Bool.and_false, Bool.false_and, Bool.true_and]
    have q3 := hs3 hb3
    subst q3
    cases hA : (a.seats.any fun s => !roleOk s.role)
    · have ff := And.intro g0 (And.intro ta (And.intro lt (And.intro lp (And.intro s1 (And.intro s2 (And.intro s3 (And.intro s4 hA)))))))
      refine runMayS_10 (x := ?_)
      clear ff
      refine fin_b ?_
      unfold mayS; simp only [hs, hb0, hb1, hb2, hb3, hA, Bool.not_false, Bool.true_and]
    · have ff := And.intro g0 (And.intro ta (And.intro lt (And.intro lp (And.intro s1 (And.intro s2 (And.intro s3 (And.intro s4 hA)))))))
      refine runMayS_10 (x := ?_)
      clear ff
      refine fin_b ?_
      unfold mayS; simp only [hs, hb0, hb1, hb2, hb3, hA, Bool.not_true, Bool.true_and, Bool.false_and]
  · have hs0 : shapeS a = false := Bool.eq_false_iff.2 hs
    have hm : mayS a = false := by unfold mayS; rw [hs0]; rfl
    rw [hm]
    unfold shapeS at hs0
    simp only [Bool.not_eq_false'] at hs0
    repeat' (first | ((with_reducible refine evs_of (a := ?_) ?_ ?_); rotate_left; (focus ((conv => lhs; simp (disch := omega) [g0, ta, lt, lp]); done)); try dsimp only) | ((with_reducible refine gW_do ?_ ?_); (focus (simp (disch := omega) [g0, ta, lt, lp]; done))) | ((with_reducible refine gW_no ?_ ?_); (focus (simp (disch := omega) [g0, ta, lt, lp]; done)); try dsimp only) | ((with_reducible refine gW_un ?_ ?_); (focus (simp (disch := omega) [g0, ta, lt, lp]; done)); try dsimp only) | ((with_reducible refine cndW_T ?_ ?_); (focus (simp (disch := omega) [g0, ta, lt, lp] <;> omega))) | ((with_reducible refine cndW_F ?_ ?_); (focus (simp (disch := omega) [g0, ta, lt, lp] <;> omega))) | (with_reducible refine wL_i ?_) | (with_reducible refine SpecQ.step (c44) ?_; rintro _ rfl; try dsimp only) | ((with_reducible refine SpecA_i (args' := ?_) ?_ ?_); rotate_left; (focus ((conv => lhs; simp (disch := omega) [g0, ta, lt, lp]); done))) | (simp (decide := true) only [sn28, sqW_nrm, sqW_exit, sqW_ret, inBlk_nrm, inBlk_ret, inBlk_same, inBlk_exit, if_true, if_false, retW_nrm, retW_ret]) | ((with_reducible refine cndW_splitE (b := ?_) ?_ ?_ ?_); rotate_left; (focus ((conv => lhs; simp (disch := omega) [g0, ta, lt, lp]); done)); all_goals ((intro hb; try simp only [Bool.not_true, Bool.not_false] at hb); try simp only [hb])) | ((with_reducible refine gv_splitE (b := ?_) ?_ ?_ ?_); rotate_left; (focus ((conv => lhs; simp (disch := omega) [g0, ta, lt, lp]); done)); all_goals ((intro hb; try simp only [Bool.not_true, Bool.not_false] at hb); try simp only [hb])) | ((with_reducible refine gW_splitE (b := ?_) ?_ ?_ ?_); rotate_left; (focus ((conv => lhs; simp (disch := omega) [g0, ta, lt, lp]); done)); all_goals ((intro hb; try simp only [Bool.not_true, Bool.not_false] at hb); try simp only [hb])) | (with_reducible refine gv_split ?_ ?_ <;> (intro hb; try simp only [Bool.not_true, Bool.not_false] at hb) <;> try simp only [hb]) | (with_reducible refine gW_split ?_ ?_ <;> (intro hb; try simp only [Bool.not_true, Bool.not_false] at hb) <;> try simp only [hb]) | (with_reducible refine cndW_split ?_ ?_ <;> (intro hb; try simp only [Bool.not_true, Bool.not_false] at hb) <;> try simp only [hb]))
    all_goals first
      | exact fin_b rfl
      | (exfalso; simp_all; done)
      | trace_state
end Go.Vab

/- How the code of a function is read. Printed by wip/tools/gen2.py and gen3.py (own work). -/
namespace Go.Vab
open Go Go.Proofs
def cx13 : Ctx := ⟨fun _ _ _ => none,TT,64,[10,11,12,13,14,15,16,18,19,20,21,22,23,24,25,27,28,29,30,32,33,34,35,36,37,38,39,40,41,42,43,44,45,46,47,48,49,50,51,52,54,55,56,58,59,60,61,62,63]⟩
noncomputable def n13_0 := bodyOf Tryz.f13
noncomputable def n13_1 := cR n13_0
noncomputable def n13_2 := cL n13_1
noncomputable def n13_3 := cR n13_2
noncomputable def n13_4 := cL n13_3
noncomputable def n13_5 := cR n13_4
noncomputable def n13_6 := cR n13_3
noncomputable def n13_7 := cR n13_1
noncomputable def n13_8 := cL n13_7
noncomputable def n13_9 := cR n13_8
noncomputable def n13_10 := cL n13_9
noncomputable def n13_11 := cR n13_10
noncomputable def n13_12 := cR n13_9
noncomputable def n13_13 := cR n13_7
noncomputable def n13_14 := cL n13_13
noncomputable def n13_15 := cR n13_14
noncomputable def n13_16 := cL n13_15
noncomputable def n13_17 := cR n13_16
noncomputable def n13_18 := cR n13_15
noncomputable def n13_19 := cR n13_13
noncomputable def n13_20 := cR n13_19
noncomputable def n13_21 := cR n13_20
noncomputable def n13_22 := cR n13_21
noncomputable def n13_23 := cR n13_22
noncomputable def n13_24 := cL n13_23
noncomputable def n13_25 := cR n13_24
noncomputable def n13_26 := cL n13_25
noncomputable def n13_27 := cR n13_25
noncomputable def n13_28 := cR n13_23
noncomputable def n13_29 := cL n13_28
noncomputable def n13_30 := cR n13_29
noncomputable def n13_31 := cL n13_30
noncomputable def n13_32 := cR n13_31
noncomputable def n13_33 := cR n13_30
noncomputable def n13_34 := cR n13_28
noncomputable def n13_35 := cR n13_34
noncomputable def n13_36 := cR n13_35
def q13 := zQ3 cx13 13 Tryz.f13 n13_0 fun s => (bnd (mLoad tState (s.env.get 6) s.heap) fun v => bnd (bnd (some (s.env.get 7)) fun v => bnd (some []) fun vs => some (v :: vs)) fun vs => some (v :: vs))
set_option maxRecDepth 20000
set_option maxHeartbeats 4000000
def n13_21_w := zDr cx13 [n13_22,n13_21] [6] [0,0,0,0,12,31,63,127] [0,1,2,3,4,5] (.o 6 [7] [] .f)
def n13_20_w := zDr cx13 [n13_21,n13_20] [2,5,7,9] [0,1,3,0,8,31,31,127,255,511] [0,1,3,4] (.o 2 [6] [4] (.o 5 [] [] (.o 7 [8] [] (.o 9 [] [] .f))))
def sn13 := zAll cx13 [[n13_5],[n13_5,n13_4],[n13_6],[n13_4,n13_6,n13_3],[n13_3,n13_2],[n13_11],[n13_11,n13_10],[n13_12],[n13_10,n13_12,n13_9],[n13_9,n13_8],[n13_17],[n13_17,n13_16],[n13_18],[n13_16,n13_18,n13_15],[n13_15,n13_14],[n13_26],[n13_27],[n13_26,n13_27,n13_25],[n13_25,n13_24],[n13_32],[n13_32,n13_31],[n13_33],[n13_31,n13_33,n13_30],[n13_30,n13_29],[n13_36],[n13_36,n13_35],[n13_35,n13_34],[n13_29,n13_34,n13_28],[n13_24,n13_28,n13_23],[n13_23,n13_22],[n13_20,n13_19],[n13_14,n13_19,n13_13],[n13_8,n13_13,n13_7],[n13_2,n13_7,n13_1],[n13_1,n13_0]]
-- words: SpecA ValW cndW gW gv stabP wL
-- draws: n13_21 n13_20
end Go.Vab

/- How the code of a function is read. Printed by wip/tools/gen2.py and gen3.py (own work). -/
namespace Go.Vab
open Go Go.Proofs
def cx20 : Ctx := ⟨fun _ _ _ => none,TT,27,[13,14,15,16,17,18,19,20,21,22,24,25,26]⟩
noncomputable def n20_0 := bodyOf Tryz.f20
noncomputable def n20_1 := cR n20_0
noncomputable def n20_2 := cR n20_1
noncomputable def n20_3 := cL n20_2
noncomputable def n20_4 := cR n20_3
noncomputable def n20_5 := cL n20_4
noncomputable def n20_6 := cR n20_5
noncomputable def n20_7 := cR n20_4
noncomputable def n20_8 := cR n20_2
noncomputable def n20_9 := cR n20_8
def q20 := zQ5 cx20 20 Tryz.f20 n20_0 fun s => (bnd (mLoad tState (s.env.get 10) s.heap) fun v => bnd (bnd (some (s.env.get 11)) fun v => bnd (some []) fun vs => some (v :: vs)) fun vs => some (v :: vs))
set_option maxRecDepth 20000
set_option maxHeartbeats 4000000
def sn20 := zAll cx20 [[n20_6],[n20_6,n20_5],[n20_7],[n20_5,n20_7,n20_4],[n20_4,n20_3],[n20_9],[n20_9,n20_8],[n20_3,n20_8,n20_2],[n20_2,n20_1],[n20_1,n20_0]]
-- words: SpecA cndW wL
-- draws: 
end Go.Vab

/-
  The program's step, walked.
-/
namespace Go.Vab
open Go Go.Proofs
theorem runRp18_0 {G X : Prop} (f : Hd X → G := by
  intro xX
  repeat' (first | refine stp (x := ?_) | (with_reducible refine ValW_i (c28 (ra.app _)) ?_; try dsimp only) | (with_reducible refine SpecQ.step (c28 (ra.app _)) ?_; rintro _ rfl; try dsimp only) | (with_reducible refine stabP_i (c28 (ra.app _)) ?_) | (with_reducible refine ValW_i (c29 (rc.app _)) ?_; try dsimp only) | (with_reducible refine SpecQ.step (c29 (rc.app _)) ?_; rintro _ rfl; try dsimp only) | (with_reducible refine stabP_i (c29 (rc.app _)) ?_) | (simp (decide := true) only [sn13, snB, if_true, if_false]) | (with_reducible refine n13_21_w _ _ _ ?_) | (with_reducible refine n13_20_w _ _ _ ?_))
  exact xX.get) (x : X) : G := f ⟨x⟩
theorem runRp18_1 {G X : Prop} (f : Hd X → G := by
  intro xX
  repeat' (first | refine stp (x := ?_) | (simp (decide := true) only [sn13, snB, if_true, if_false]) | (with_reducible refine n13_21_w _ _ _ ?_) | (with_reducible refine n13_20_w _ _ _ ?_))
  exact xX.get) (x : X) : G := f ⟨x⟩
theorem runRp18_2 {G X : Prop} (f : Hd X → G := by
  intro xX
  repeat' (first | refine stp (x := ?_) | (simp (decide := true) only [sn13, snB, if_true, if_false]))
  exact xX.get) (x : X) : G := f ⟨x⟩
theorem runRp18_3 {G X : Prop} (f : Hd X → G := by
  intro xX
  repeat' (first | refine stp (x := ?_) | (with_reducible refine ValW_i (c17 w4.str) ?_; try dsimp only) | (with_reducible refine SpecQ.step (c17 w4.str) ?_; rintro _ rfl; try dsimp only) | (with_reducible refine stabP_i (c17 w4.str) ?_) | (simp (decide := true) only [sn13, snB, if_true, if_false]) | (with_reducible refine n13_21_w _ _ _ ?_))
  exact xX.get) (x : X) : G := f ⟨x⟩
abbrev eSt0 : AV := eStH 0#32 ci0 acc0 .nilslice .nilslice .nilslice .nilslice .nilslice .nilslice
/-- What the program answers: a state in new memory, or an error. -/
def PR (h : Heap) (x : Except Nat Stt) (r : AV × Heap) : Prop := match x with
  | .error k => ∃ t, r = (.tuple [eSt0, nat k], h ++ t)
  | .ok z => ∃ (κ : Nat → Nat) (t : Heap) (vt vp vs vi va vb : AV), r = (.tuple [eSt z vt vp vs vi va vb, nat 0], h ++ t) ∧ Wp κ (h ++ t) z vt vp vs vi va vb ∧ ∀ i, i < h.length → κ i = 0
@[simp] theorem fillStep {c : Nat} {b : Pt} {a : Actn} {wt wp : AV} {m : BitVec 8} :
    fillRow tLstep (.node [.nilptr, pt pt0, eActH 0#32 0#8 ci0 pt0 0#8 acc0 .nilslice .nilslice, u8 0#8]) [(0, .ptr c 0 [] tState), (1, pt b), (2, eAct a wt wp), (3, u8 m)] = if (hasTy wt .cell && hasTy wp .cell) = true then some (eStep c b a wt wp m) else none := by
  cases h1 : hasTy wt .cell <;> cases h2 : hasTy wp .cell <;> simp [fillRow, eStep, h1, h2, -fold_eStep]
@[simp] theorem hasTy_eStep {c : Nat} {b : Pt} {a : Actn} {wt wp : AV} {m : BitVec 8} : hasTy (eStep c b a wt wp m) tLstep = (hasTy wt .cell && hasTy wp .cell) := by simp [eStep, -fold_eStep]
def NzE' (x : Except Nat Stt) : Prop := ∀ k, x = .error k → k ≠ 0
theorem madeP_err {s : Stt} {b : Pt} {a : Actn} {k : Nat} (h : madeP s b a = .error k) : k ≠ 0 := by
  have nz_ite : ∀ {c : Prop} [Decidable c] {x y : Except Nat Stt}, NzE' x → NzE' y → NzE' (if c then x else y) := fun h1 h2 => by split <;> assumption
  have nz_ok : ∀ t, NzE' (.ok t) := fun t k h => by cases h
  have nz_err : ∀ {n : Nat}, n ≠ 0 → NzE' (.error n) := fun h k e => by cases e; exact h
  have q : NzE' (madeP s b a) := by
    unfold madeP
    dsimp only
    repeat' (first | exact nz_ok _ | exact nz_err (by decide) | refine nz_ite ?_ ?_ | split)
  exact q k h
set_option maxHeartbeats 8000000 in
theorem c13 {h : Heap} {s : Stt} {vt vp vs vi va vb : AV} {b : Pt} {a : Actn} {wt wp : AV} (ra : StR h s vt vp vs vi va vb) (rc : ActR h a wt wp) :
    SpecQ Tryz.prog 13 [eSt s vt vp vs vi va vb, pt b, eAct a wt wp] h (PR h (stepP s b a)) := by
  have ta := ra.cells
  have tc := rc.cells
  have l1 := ra.fs.len
  rw [List.length_map] at l1
  refine q13 fun env g0 g1 g2 => ?_
  cases h1 : mayS s
  · have hm : stepP s b a = .error 2 := by simp [stepP, h1]
    have ff := And.intro g0 (And.intro g1 (And.intro g2 (And.intro ta (And.intro tc (And.intro l1 h1)))))
    refine runRp18_0 (x := ?_)
    clear ff
    rw [hm]
    exact ⟨_, rfl⟩
  cases h2 : mayA a
  · have hm : stepP s b a = .error 2 := by simp [stepP, h2]
    have ff := And.intro g0 (And.intro g1 (And.intro g2 (And.intro ta (And.intro tc (And.intro l1 (And.intro h1 h2))))))
    refine runRp18_0 (x := ?_)
    clear ff
    rw [hm]
    exact ⟨_, rfl⟩
  by_cases h3 : a.version.setWidth 64 = s.version.setWidth 64 + 1#64
  rotate_left
  · have hm : stepP s b a = .error 190 := by
      have hc : a.version = 0#32 ∨ a.version - 1#32 ≠ s.version := Classical.byContradiction fun q => h3 ((ver_iff _ _).2 q)
      simp only [stepP, h1, h2, Bool.true_eq_false, or_self, if_false]
      rw [if_pos hc]
    have ff := And.intro g0 (And.intro g1 (And.intro g2 (And.intro ta (And.intro tc (And.intro l1 (And.intro h1 (And.intro h2 h3)))))))
    refine runRp18_0 (x := ?_)
    clear ff
    rw [hm]
    exact ⟨_, rfl⟩
  have h3' := (ver_iff _ _).1 h3
  by_cases h5 : s.seats.length = 0
  · have hm : stepP s b a = .error 197 := by simp only [stepP, h1, h2, Bool.true_eq_false, or_self, if_false, if_neg h3', h5, if_true]
    have ff := And.intro g0 (And.intro g1 (And.intro g2 (And.intro ta (And.intro tc (And.intro l1 (And.intro h1 (And.intro h2 (And.intro h3 h5))))))))
    refine runRp18_0 (x := ?_)
    clear ff
    rw [hm]
    exact ⟨_, rfl⟩
  have hst : stepP s b a = match madeP s b a with
    | .error e => .error e
    | .ok t => .ok { t with version := a.version } := by simp only [stepP, h1, h2, Bool.true_eq_false, or_self, if_false, if_neg h3', h5]; cases madeP s b a <;> rfl
  have ff := And.intro g0 (And.intro g1 (And.intro g2 (And.intro ta (And.intro tc (And.intro l1 (And.intro h1 (And.intro h2 (And.intro h3 h5))))))))
  refine runRp18_0 (x := ?_)
  clear ff
  obtain ⟨n, hn⟩ : ∃ n, n = h.length := ⟨_, rfl⟩
  obtain ⟨κ0, hκ⟩ : ∃ κ0 : Nat → Nat, κ0 = fun i => if i = n ∨ i = n + 2 ∨ i = n + 3 then 6 else 0 := ⟨_, rfl⟩
  obtain ⟨m1, m2, m3, m4⟩ := may_lens h1
  have hz0 : ∀ i, κ0 i = 0 ∨ κ0 i = 6 := fun i => by rw [hκ]; simp only; split <;> simp
  have kn : κ0 n = 6 := by rw [hκ]; simp
  have kn1 : κ0 (n + 1) = 0 := by rw [hκ]; simp
  have kn2 : κ0 (n + 2) = 6 := by rw [hκ]; simp
  have kn3 : κ0 (n + 3) = 6 := by rw [hκ]; simp
  have klo : ∀ i, i < n → κ0 i = 0 := fun i hi => by rw [hκ]; simp only; rw [if_neg (by omega)]
  refine SpecQ.step (c30 (κ := κ0) (ra.app _) (fun i hi => by rw [hκ]; simp only [List.length_append, List.length_cons, List.length_nil] at hi ⊢; rw [if_neg (by omega)]) (fun i _ => (hz0 i).imp id fun e => by omega) (by omega) (by omega) (by omega) (by omega)) ?_
  rintro _ ⟨κ1, H1, ut, up, us, ui, ua, ub, rfl, wp1, f1⟩
  have F0 : Fr (fun _ => 0) h κ0 (h ++ [⟨eSt s vt vp vs vi va vb, 0, .own⟩, ⟨pt b, 0, .own⟩, ⟨eAct a wt wp, 0, .own⟩, ⟨eSt0, 0, .own⟩]) := ⟨by simp, fun i hi => klo i (by omega), fun i hi _ => List.getElem?_append_left hi⟩
  have F1 := F0.trans f1
  have lc : (h ++ [⟨eSt s vt vp vs vi va vb, 0, .own⟩, ⟨pt b, 0, .own⟩, ⟨eAct a wt wp, 0, .own⟩, ⟨eSt0, 0, .own⟩] : Heap).length = n + 4 := by simp [hn]
  have cs := f1.blk (i := n) (b := ⟨eSt s vt vp vs vi va vb, 0, .own⟩) (by rw [hn]; simp) (.inr (by rw [kn]; decide))
  have cb := f1.blk (i := n + 1) (b := ⟨pt b, 0, .own⟩) (by rw [hn, List.getElem?_append_right (by omega)]; simp) (.inl kn1)
  have ca := f1.blk (i := n + 2) (b := ⟨eAct a wt wp, 0, .own⟩) (by rw [hn, List.getElem?_append_right (by omega)]; simp) (.inr (by rw [kn2]; decide))
  have cr := f1.blk (i := n + 3) (b := ⟨eSt0, 0, .own⟩) (by rw [hn, List.getElem?_append_right (by omega)]; simp) (.inr (by rw [kn3]; decide))
  have k10 : κ1 n = 6 := (f1.old _ (by rw [lc]; omega)).trans kn
  have k11 : κ1 (n + 1) = 0 := (f1.old _ (by rw [lc]; omega)).trans kn1
  have k12 : κ1 (n + 2) = 6 := (f1.old _ (by rw [lc]; omega)).trans kn2
  have k13 : κ1 (n + 3) = 6 := (f1.old _ (by rw [lc]; omega)).trans kn3
  have tu := wp1.str.cells
  have w2 := wp1.wk (c := n) (List.getElem?_eq_some_iff.1 cs).1 k10
  have F2 : Fr (fun _ => 0) h (fun i => if i = n then 1 else κ1 i) (H1.set n ⟨eSt s ut up us ui ua ub, 0, .own⟩) := (F1.wr (by omega) _).kap fun i hi => if_neg (by omega)
  have cb2 := get_ne cb (j := n) (by omega) ⟨eSt s ut up us ui ua ub, 0, .own⟩
  have ca2 := get_ne ca (j := n) (by omega) ⟨eSt s ut up us ui ua ub, 0, .own⟩
  have cr2 := get_ne cr (j := n) (by omega) ⟨eSt s ut up us ui ua ub, 0, .own⟩
  obtain ⟨κ2, hκ2⟩ : ∃ κ2 : Nat → Nat, κ2 = fun i => if i = n then 1 else κ1 i := ⟨_, rfl⟩
  have k21 : κ2 (n + 1) = 0 := by rw [hκ2]; simp only; rw [if_neg (by omega)]; exact k11
  have k22 : κ2 (n + 2) = 6 := by rw [hκ2]; simp only; rw [if_neg (by omega)]; exact k12
  have k23 : κ2 (n + 3) = 6 := by rw [hκ2]; simp only; rw [if_neg (by omega)]; exact k13
  rw [← hκ2] at w2 F2
  obtain ⟨H2, hH2⟩ : ∃ G, H1.set n ⟨eSt s ut up us ui ua ub, 0, .own⟩ = G := ⟨_, rfl⟩
  rw [hH2] at w2 F2 cb2 ca2 cr2
  have bs1 := blk_of cs
  have ba2 : ∀ l, blkAt (H2 ++ l) (n + 2) 0 = some ⟨eAct a wt wp, 0, .own⟩ := fun l => blkAt_app (blk_of ca2) l
  have ba20 := blk_of ca2
  rw [← hn]
  have ff := And.intro bs1 (And.intro ba2 (And.intro ba20 (And.intro hH2 (And.intro tu tc))))
  refine runRp18_1 (x := ?_)
  clear ff
  refine SpecQ.step (c31 (rc.t.fr F2 fun _ _ => .inl rfl)) ?_
  rintro _ ⟨xt, t1, rfl, g1, r1⟩
  have y1 := g1.cell
  have ff := And.intro ba2 (And.intro ba20 (And.intro y1 tc))
  refine runRp18_2 (x := ?_)
  clear ff
  refine SpecQ.step (c31 ((rc.p.fr F2 fun _ _ => .inl rfl).app _)) ?_
  rintro _ ⟨xp, t2, rfl, g2, r2⟩
  have y2 := g2.cell
  simp only [List.append_assoc] at g2 ⊢
  have st2 : ∀ l v, (H2 ++ l).set (n + 2) v = H2.set (n + 2) v ++ l := fun l v => set_appL ca2 l v
  have st3 : ∀ l v w, (H2.set (n + 2) w ++ l).set (n + 2) v = H2.set (n + 2) v ++ l := fun l v w => by rw [set_appL (get_eq ca2 w), List.set_set]
  have ba3 : ∀ (v : AV) l, blkAt (H2.set (n + 2) ⟨v, 0, .own⟩ ++ l) (n + 2) 0 = some ⟨v, 0, .own⟩ := fun v l => blkAt_app (blk_of (get_eq ca2 _)) l
  have ff := And.intro ba2 (And.intro st2 (And.intro st3 (And.intro ba3 (And.intro y1 (And.intro y2 tc)))))
  refine runRp18_2 (x := ?_)
  clear ff
  obtain ⟨H3, hH3⟩ : ∃ G, G = H2.set (n + 2) (⟨eAct a xt xp, 0, .own⟩ : Blk) := ⟨_, rfl⟩
  have w3 := w2.wr (p := n + 2) k22 ⟨eAct a xt xp, 0, .own⟩
  have F3 := F2.wr (p := n + 2) (by omega) ⟨eAct a xt xp, 0, .own⟩
  have cb3 := get_ne cb2 (j := n + 2) (by omega) (⟨eAct a xt xp, 0, .own⟩ : Blk)
  have ca3 := get_eq ca2 (⟨eAct a xt xp, 0, .own⟩ : Blk)
  have cr3 := get_ne cr2 (j := n + 2) (by omega) (⟨eAct a xt xp, 0, .own⟩ : Blk)
  rw [← hH3] at w3 F3 cb3 ca3 cr3 ⊢
  have l32 : H3.length = H2.length := by rw [hH3, List.length_set]
  have ln3 : n + 3 < H3.length := (List.getElem?_eq_some_iff.1 cr3).1
  have w4 := w3.byt (t1 ++ t2)
  have F4 := F3.trans (Fr.byt (t1 ++ t2))
  have cb4 := get_app cb3 (t1 ++ t2)
  have ca4 := get_app ca3 (t1 ++ t2)
  have cr4 := get_app cr3 (t1 ++ t2)
  obtain ⟨κ4, hκ4⟩ : ∃ κ4, κ4 = byt κ2 H3.length (H3 ++ (t1 ++ t2)).length := ⟨_, rfl⟩
  rw [← hκ4] at w4 F4
  obtain ⟨H4, hH4⟩ : ∃ G, G = H3 ++ (t1 ++ t2) := ⟨_, rfl⟩
  rw [← hH4] at w4 F4 cb4 ca4 cr4 hκ4 ⊢
  have k42 : κ4 (n + 2) = 6 := by rw [hκ4, byt_old (by omega)]; exact k22
  have k43 : κ4 (n + 3) = 6 := by rw [hκ4, byt_old (by omega)]; exact k23
  have gx : BytL H4 xt a.title := by
    refine (g1.app t2).other fun i hi => ?_
    have := r1 i hi
    rw [hH4, List.append_assoc, List.getElem?_append_right (l₁ := H3) (by omega), List.getElem?_append_right (l₁ := H2) (by omega), l32]
  have gp : BytL H4 xp a.pass := by
    refine g2.other fun i hi => ?_
    have := r2 i hi
    rw [List.length_append] at this
    rw [hH4, List.getElem?_append_right (l₁ := H3) (by omega), List.getElem?_append_right (l₁ := H2) (by omega), l32]
  have kx : ∀ i, rb xt = some i → κ4 i = 7 := fun i hi => by rw [hκ4]; exact byt_in (by have := r1 i hi; omega) (gx.rb_lt' i hi)
  have kp : ∀ i, rb xp = some i → κ4 i = 7 := fun i hi => by rw [hκ4]; exact byt_in (by have := r2 i hi; rw [List.length_append] at this; omega) (gp.rb_lt' i hi)
  have bn4 := blk_of w4.cell
  have bb4 := blk_of cb4
  have ba4 := blk_of ca4
  have ff := And.intro bb4 (And.intro ba4 (And.intro bn4 (And.intro y1 (And.intro y2 tu))))
  refine runRp18_3 (x := ?_)
  clear ff
  have x : Sx κ4 (H4 ++ [⟨eStep n b a xt xp (roleOf s b), 0, .own⟩]) n H4.length s b a (roleOf s b) ut up us ui ua ub xt xp := ⟨w4.app _, by simp, w4.top _ (Nat.le_refl _), ⟨gx.app _, gp.app _⟩, kx, kp⟩
  refine SpecQ.step (c32 x) ?_
  rintro _ rfl
  have br : ∀ l, blkAt (H4 ++ l) (n + 3) 0 = some ⟨eSt0, 0, .own⟩ := fun l => blkAt_app (blk_of cr4) l
  have st4 : ∀ l v, (H4 ++ l).set (n + 3) v = H4.set (n + 3) v ++ l := fun l v => set_appL cr4 l v
  have br2 : ∀ (v : AV) l, blkAt (H4.set (n + 3) ⟨v, 0, .own⟩ ++ l) (n + 3) 0 = some ⟨v, 0, .own⟩ := fun v l => blkAt_app (blk_of (get_eq cr4 _)) l
  have k0 : ∀ i, i < h.length → (fun _ => 0 : Nat → Nat) i = 0 := fun _ _ => rfl
  have F5 : ∀ l, Fr (fun _ => 0) h κ4 (H4 ++ l) := fun l => F4.trans (Fr.refl _ _).app
  rcases may_split (b := b) h1 h2 with ⟨hw, ok⟩ | ⟨hw, hmd⟩
  rotate_left
  · rw [hmd] at hst
    rw [hst]
    have ff := And.intro hw (And.intro br (And.intro st4 br2))
    refine runRp18_1 (x := ?_)
    clear ff
    obtain ⟨t, ht⟩ := ((F4.wr (p := n + 3) (by omega) (⟨eSt0, 0, .own⟩ : Blk)).trans (Fr.refl _ _).app).pre (H := h) k0
    exact ⟨t, by rw [← ht]; rfl⟩
  have ff := hw
  refine runRp18_1 (x := ?_)
  clear ff
  refine SpecQ.step (c33 x (srt_may h1) h1 h2 ok rfl) ?_
  rintro ⟨v, H9'⟩ ⟨κ9, H9, fr9, hm⟩
  have F9 := (F5 _).trans fr9
  have cr9 := fr9.blk (get_app cr4 _) (.inr (by rw [k43]; decide))
  have ca9 := fr9.blk (get_app ca4 _) (.inr (by rw [k42]; decide))
  cases hmd : madeP s b a with
  | error k =>
    have hk := madeP_err hmd
    rw [hmd] at hst hm
    simp only at hst hm
    cases hm
    rw [hst]
    have b9 := blk_of cr9
    have b9' : ∀ v : AV, blkAt (H9'.set (n + 3) ⟨v, 0, .own⟩) (n + 3) 0 = some ⟨v, 0, .own⟩ := fun v => blk_of (get_eq cr9 _)
    have ff := And.intro hk (And.intro b9 b9')
    refine runRp18_1 (x := ?_)
    clear ff
    obtain ⟨t, ht⟩ := (F9.wr (p := n + 3) (by omega) (⟨eSt0, 0, .own⟩ : Blk)).pre (H := h) k0
    exact ⟨t, by rw [← ht]; rfl⟩
  | ok z =>
    rw [hmd] at hst hm
    simp only at hst hm
    obtain ⟨hv, v1, v2, v3, v4, v5, v6, w9⟩ := hm
    cases hv
    rw [hst]
    have bn := blk_of w9.cell
    have ba := blk_of ca9
    have bnv : ∀ v : AV, blkAt (H9'.set n ⟨v, 0, .own⟩) n 0 = some ⟨v, 0, .own⟩ := fun v => blk_of (get_eq w9.cell _)
    have bnr : ∀ v : Blk, blkAt (H9'.set n v) (n + 3) 0 = some ⟨eSt0, 0, .own⟩ := fun v => blk_of (get_ne cr9 (by omega) _)
    have bnw : ∀ (v : Blk) (w : AV), blkAt ((H9'.set n v).set (n + 3) ⟨w, 0, .own⟩) (n + 3) 0 = some ⟨w, 0, .own⟩ := fun v w => blk_of (get_eq (get_ne cr9 (by omega) _) _)
    have tv := w9.cells
    have ff := And.intro bn (And.intro ba (And.intro bnv (And.intro bnr (And.intro bnw tv))))
    refine runRp18_1 (x := ?_)
    clear ff
    obtain ⟨t, ht⟩ := ((F9.wr (p := n) (by omega) (⟨eSt { z with version := a.version } v1 v2 v3 v4 v5 v6, 0, .own⟩ : Blk)).wr (p := n + 3) (by omega) (⟨eSt { z with version := a.version } v1 v2 v3 v4 v5 v6, 0, .own⟩ : Blk)).pre (H := h) k0
    have k9n : κ9 n = 1 := w9.kc
    have k93 : κ9 (n + 3) = 6 := (fr9.old _ (by rw [List.length_append, hH4, List.length_append]; omega)).trans k43
    have wz : Wp κ9 H9' { z with version := a.version } v1 v2 v3 v4 v5 v6 := ⟨w9.top, w9.ft, w9.fp, w9.kt, w9.kp, w9.fs, w9.fi, w9.fa, w9.fb⟩
    have wf := (wz.wr (.inr k9n) (⟨eSt { z with version := a.version } v1 v2 v3 v4 v5 v6, 0, .own⟩ : Blk)).wr (p := n + 3) (.inl k93) (⟨eSt { z with version := a.version } v1 v2 v3 v4 v5 v6, 0, .own⟩ : Blk)
    exact ⟨κ9, t, v1, v2, v3, v4, v5, v6, by rw [← ht]; rfl, by rw [← ht]; exact wf, fun i hi => F9.old i hi⟩
end Go.Vab

/- How the code of a function is read. Printed by wip/tools/gen2.py and gen3.py (own work). -/
namespace Go.Vab
open Go Go.Proofs
def cx27 : Ctx := ⟨fun _ _ _ => none,TT,12,[4,5,6,7,8,9,10,11]⟩
noncomputable def n27_0 := bodyOf Tryz.f27
noncomputable def n27_1 := cR n27_0
noncomputable def n27_2 := cR n27_1
noncomputable def n27_3 := cR n27_2
noncomputable def n27_4 := cR n27_3
noncomputable def n27_5 := cR n27_4
def q27 := zQ1 cx27 27 Tryz.f27 n27_0 fun s => (bnd (mLoad tCipher (s.env.get 2) s.heap) fun v => bnd (some []) fun vs => some (v :: vs))
set_option maxRecDepth 20000
set_option maxHeartbeats 4000000
def sn27 := zAll cx27 [[n27_5],[n27_5,n27_4],[n27_4,n27_3],[n27_3,n27_2],[n27_2,n27_1],[n27_1,n27_0]]
-- words: 
-- draws: 
end Go.Vab

/- How the code of a function is read. Printed by wip/tools/gen2.py and gen3.py (own work). -/
namespace Go.Vab
open Go Go.Proofs
def cx22 : Ctx := ⟨fun _ _ _ => none,TT,16,[4,5,6,7,8,9,10,11,12,13,14,15]⟩
noncomputable def n22_0 := bodyOf Tryz.f22
noncomputable def n22_1 := cR n22_0
noncomputable def n22_2 := cR n22_1
noncomputable def n22_3 := cR n22_2
def q22 := zQ0 cx22 22 Tryz.f22 n22_0 fun s => (bnd (mLoad tState (s.env.get 0) s.heap) fun v => bnd (bnd (some (s.env.get 1)) fun v => bnd (some []) fun vs => some (v :: vs)) fun vs => some (v :: vs))
set_option maxRecDepth 20000
set_option maxHeartbeats 4000000
def sn22 := zAll cx22 [[n22_3],[n22_3,n22_2],[n22_2,n22_1],[n22_1,n22_0]]
-- words: SpecA
-- draws: 
end Go.Vab

/- How the code of a function is read. Printed by wip/tools/gen2.py and gen3.py (own work). -/
namespace Go.Vab
open Go Go.Proofs
def cx10 : Ctx := ⟨fun _ _ _ => none,TT,60,[5,7,8,9,10,11,12,13,14,15,16,17,18,19,20,21,22,23,24,25,26,27,28,29,30,31,32,33,34,35,36,37,38,39,40,41,42,43,44,45,46,47,48,49,50,51,52,53,54,55,56,57,58,59]⟩
noncomputable def n10_0 := bodyOf Tryz.f10
noncomputable def n10_1 := cR n10_0
noncomputable def n10_2 := cR n10_1
noncomputable def n10_3 := cR n10_2
noncomputable def n10_4 := cR n10_3
noncomputable def n10_5 := cR n10_4
def q10 := zQ0 cx10 10 Tryz.f10 n10_0 fun s => (bnd (some (s.env.get 0)) fun v => bnd (some []) fun vs => some (v :: vs))
set_option maxRecDepth 20000
set_option maxHeartbeats 4000000
def n10_4_w := zDr cx10 [n10_5,n10_4] [] [0,1,3,7,15,31,63,127,255,511,1023,2047,4095,8191,16383,32767,65535,131071,4095,266239,1048575,2097151,4194303,8388607,16777215,33554431,67108863,134217727,268435455,536870911,1073741823,2147483647] [0,1,2,3,4,5,6,7,8,9,10,11,12,13,14,15,16,17,18,19,20,21,22,23,24,25,26,27,28,29,30,31] .f
def n10_3_w := zDr cx10 [n10_4,n10_3] [5,9,10] [0,0,2,2,10,31,63,127,127,0,767,2047] [0,1,2,3,4] (.b 5 [6,7,8] [] (.o 9 [] [0,1,3] (.o 10 [11] [] .f)) (.o 9 [] [0,1,3] (.o 5 [6,7,8] [] (.o 10 [11] [] .f))))
def n10_2_w := zDr cx10 [n10_3,n10_2] [5,9,10] [0,0,2,2,10,31,63,127,127,0,767,2047] [0,1,2,3,4] (.b 5 [6,7,8] [] (.o 9 [] [0,1,3] (.o 10 [11] [] .f)) (.o 9 [] [0,1,3] (.o 5 [6,7,8] [] (.o 10 [11] [] .f))))
def sn10 := zAll cx10 [[n10_5],[n10_2,n10_1],[n10_1,n10_0]]
-- words: SpecA ValW bothP gW gv stabP
-- draws: n10_4 n10_3 n10_2
end Go.Vab

/- How the code of a function is read. Printed by wip/tools/gen2.py and gen3.py (own work). -/
namespace Go.Vab
open Go Go.Proofs
def cx9 : Ctx := ⟨fun _ _ _ => none,TT,41,[6,7,8,9,10,11,12,13,14,15,16,17,18,19,20,21,22,23,24,25,26,27,28,29,30,31,32,33,34,35,36,37,38,39,40]⟩
noncomputable def n9_0 := bodyOf Tryz.f9
noncomputable def n9_1 := cR n9_0
noncomputable def n9_2 := cR n9_1
noncomputable def n9_3 := cR n9_2
def q9 := zQ2 cx9 9 Tryz.f9 n9_0 fun s => (bnd (some (s.env.get 4)) fun v => bnd (some []) fun vs => some (v :: vs))
set_option maxRecDepth 20000
set_option maxHeartbeats 4000000
def sn9 := zAll cx9 [[n9_3],[n9_3,n9_2],[n9_2,n9_1],[n9_1,n9_0]]
-- words: gv
-- draws: 
end Go.Vab

/-
  The program's first state of a group; what is known; walked.
-/
namespace Go.Vab
open Go Go.Proofs
theorem runRp19_0 {G X : Prop} (f : Hd X → G := by
  intro xX
  repeat' (first | refine stp (x := ?_) | (simp (decide := true) only [sn20, snB, if_true, if_false]))
  exact xX.get) (x : X) : G := f ⟨x⟩
theorem runRp19_1 {G X : Prop} (f : Hd X → G := by
  intro xX
  repeat' (first | refine stp (x := ?_) | (simp (decide := true) only [sn27, snB, if_true, if_false]))
  exact xX.get) (x : X) : G := f ⟨x⟩
theorem runRp19_2 {G X : Prop} (f : Hd X → G := by
  intro xX
  repeat' (first | refine stp (x := ?_) | (simp (decide := true) only [sn9, snB, if_true, if_false]))
  exact xX.get) (x : X) : G := f ⟨x⟩
theorem runRp19_3 {G X : Prop} (f : Hd X → G := by
  intro xX
  repeat' (first | refine stp (x := ?_) | (with_reducible refine SpecQ.step (c27) ?_; rintro _ rfl; try dsimp only) | (simp (decide := true) only [sn22, snB, if_true, if_false]))
  exact xX.get) (x : X) : G := f ⟨x⟩
theorem runRp19_4 {G X : Prop} (f : Hd X → G := by
  intro xX
  repeat' (first | refine stp (x := ?_) | (simp (decide := true) only [sn22, snB, if_true, if_false]))
  exact xX.get) (x : X) : G := f ⟨x⟩
theorem runRp19_5 {G X : Prop} (f : Hd X → G := by
  intro xX
  repeat' (first | refine stp (x := ?_) | (with_reducible refine bothP_i ?_ ?_) | (with_reducible refine ValW_i (c27) ?_; try dsimp only) | (with_reducible refine SpecQ.step (c27) ?_; rintro _ rfl; try dsimp only) | (with_reducible refine stabP_i (c27) ?_) | (simp (decide := true) only [sn10, snB, if_true, if_false]) | (with_reducible refine n10_4_w _ _ _ ?_) | (with_reducible refine n10_3_w _ _ _ ?_) | (with_reducible refine n10_2_w _ _ _ ?_))
  exact xX.get) (x : X) : G := f ⟨x⟩
theorem runRp19_6 {G X : Prop} (f : Hd X → G := by
  intro xX
  repeat' (first | refine stp (x := ?_) | (with_reducible refine bothP_i ?_ ?_) | (with_reducible refine ValW_i (c27) ?_; try dsimp only) | (with_reducible refine SpecQ.step (c27) ?_; rintro _ rfl; try dsimp only) | (with_reducible refine stabP_i (c27) ?_) | (simp (decide := true) only [sn10, snB, if_true, if_false]))
  exact xX.get) (x : X) : G := f ⟨x⟩
theorem runRp19_7 {G X : Prop} (f : Hd X → G := by
  intro xX
  repeat' (first | refine stp0 (x := ?_) | (with_reducible refine bothP_i ?_ ?_) | (simp (decide := true) only [sn10, snB, if_true, if_false]) | (with_reducible refine n10_4_w _ _ _ ?_) | (with_reducible refine n10_3_w _ _ _ ?_) | (with_reducible refine n10_2_w _ _ _ ?_))
  exact xX.get) (x : X) : G := f ⟨x⟩
theorem runRp19_8 {G X : Prop} (f : Hd X → G := by
  intro xX
  repeat' (first | refine stp (x := ?_) | (with_reducible refine bothP_i ?_ ?_) | (simp (decide := true) only [sn10, snB, if_true, if_false]))
  exact xX.get) (x : X) : G := f ⟨x⟩
@[simp] theorem eCi_put00 (z : Ci) (c : BitVec 8) : (eCi z).put [0, 0] (u8 c) = some (eCi ⟨set0 z.e c, z.f⟩) := by simp [eCi, -fold_eCi]
@[simp] theorem eCi_put10 (z : Ci) (c : BitVec 8) : (eCi z).put [1, 0] (u8 c) = some (eCi ⟨z.e, set0 z.f c⟩) := by simp [eCi, -fold_eCi]
@[simp] theorem ifY_bs {α : Type} (x : Option α) : ifY Tryz.prog 27 x = x := ifY_pos ⟨5, by kernel_rfl, by kernel_rfl⟩ x
@[simp] theorem fillAcc2 (a b : BitVec 8) : fillRow tAccess (eAcc acc0) [(0, u8 a), (1, u8 b)] = some (eAcc ⟨a, b, 0#8⟩) := by simp [fillRow, eAcc, acc0, -fold_eAcc, -acc0_fold]
@[simp] theorem eAct_put1 (v : BitVec 32) (k r k' : BitVec 8) (w : Ci) (e : Pt) (c : Acc) (x y : AV) : (eActH v k w e r c x y).put [1] (u8 k') = some (eActH v k' w e r c x y) := by simp [eActH, -fold_eAct]
@[simp] theorem eCi_fld0 (c : Ci) : mField tCipher (eCi c) 0 = some (pt c.e) := by simp [eCi, -fold_eCi]
@[simp] theorem fillAct4 (v : BitVec 32) (k r : BitVec 8) (w : Ci) : fillRow tAction (eActH 0#32 0#8 ci0 pt0 0#8 acc0 .nilslice .nilslice) [(0, u32 v), (1, u8 k), (2, eCi w), (4, u8 r)] = some (eActH v k w pt0 r acc0 .nilslice .nilslice) := by
  simp [fillRow]
theorem nilRow {T : Ty} {ts : List Ty} (hT : T = .struct ts) (H : Heap) : Row T H .nilslice [] := by subst hT; exact ⟨by simp [mElems], rfl, by simp⟩
theorem oneSeat {H : Heap} {b : Nat} {x : Seat} (h : H[b]? = some ⟨.node [eSeat x], 0, .own⟩) : Row tSeat H (.slice b 0 [] tSeat 0 1 (some 1)) [eSeat x] := by
  have := elems_k (t := tSeat) (E := eSeat) (b := b) (off := 0) (n := 1) (c := some 1) (xs := [x]) h (by simp)
  exact ⟨by simpa using this, ⟨rfl, by simp, rfl⟩, by simp⟩
set_option maxHeartbeats 8000000 in
theorem c20 {h : Heap} {k c : Ci} {t p : Bs} {ac : Acc} {vt vp : AV} (rt : BytL h vt t) (rp : BytL h vp p) : SpecQ Tryz.prog 20 [eCi k, vt, eAcc ac, vp, eCi c] h (PR h (firstP k t ac p c)) := by
  have t1 := rt.cell
  have t2 := rp.cell
  refine q20 fun env g0 g1 g2 g3 g4 => ?_
  have ff := And.intro g0 (And.intro g1 (And.intro g2 (And.intro g3 (And.intro g4 (And.intro t1 t2)))))
  refine runRp19_0 (x := ?_)
  clear ff
  obtain ⟨l, hl⟩ : ∃ l : Heap, l = [⟨eCi k, 0, .own⟩, ⟨eAcc ac, 0, .own⟩, ⟨eCi c, 0, .own⟩, ⟨eSt0, 0, .own⟩, ⟨.node [eSeat ⟨c, 2#8, 0#32⟩], 0, .own⟩, ⟨eStH 0#32 k ac vt vp (.slice (h.length + 4) 0 [] tSeat 0 1 (some 1)) .nilslice .nilslice .nilslice, 0, .own⟩] := ⟨_, rfl⟩
  have hb : (h ++ l)[h.length + 4]? = some ⟨.node [eSeat ⟨c, 2#8, 0#32⟩], 0, .own⟩ := by rw [List.getElem?_append_right (by omega), hl]; simp
  have rs : StR (h ++ l) (firstS k t ac p c) vt vp (.slice (h.length + 4) 0 [] tSeat 0 1 (some 1)) .nilslice .nilslice .nilslice := ⟨rt.app _, rp.app _, oneSeat hb, nilRow tInvite_x _, nilRow tAsk_x _, nilRow tBan_x _⟩
  rw [hl] at rs
  refine SpecQ.step (c28 rs) ?_
  rintro _ rfl
  dsimp only
  cases hm : mayS (firstS k t ac p c)
  · have e : firstP k t ac p c = .error 2 := by simp [firstP, hm]
    rw [e]
    have ff := And.intro g0 (And.intro t1 t2)
    refine runRp19_0 (x := ?_)
    clear ff
    exact ⟨_, rfl⟩
  · have e : firstP k t ac p c = .ok (firstS k t ac p c) := by simp [firstP, hm]
    rw [e]
    have ff := And.intro g0 (And.intro t1 t2)
    refine runRp19_0 (x := ?_)
    clear ff
    obtain ⟨n, hn⟩ : ∃ n, n = h.length + 3 := ⟨_, rfl⟩
    obtain ⟨κ0, hκ⟩ : ∃ κ0 : Nat → Nat, κ0 = fun i => if i = n then 6 else 0 := ⟨_, rfl⟩
    refine SpecQ.step (c30 (κ := κ0) rs (fun i hi => by rw [hκ]; simp only [List.length_append, List.length_cons, List.length_nil] at hi ⊢; rw [if_neg (by omega)]) (fun i _ => by rw [hκ]; simp only; split <;> simp) (by simp) (by simp) (by simp) (by simp)) ?_
    rintro _ ⟨κ1, H1, ut, up, us, ui, ua, ub, rfl, wp1, f1⟩
    have F0 : Fr (fun _ => 0) h κ0 (h ++ l) := ⟨by simp, fun i hi => by rw [hκ]; simp only; rw [if_neg (by omega)], fun i hi _ => List.getElem?_append_left hi⟩
    rw [← hl] at f1
    have F1 := F0.trans f1
    have c3 := f1.blk (i := n) (b := ⟨eSt0, 0, .own⟩) (by rw [hn, List.getElem?_append_right (by omega), hl]; simp) (.inr (by rw [hκ]; simp))
    have k1 : κ1 n = 6 := (f1.old _ (by rw [hn, hl]; simp)).trans (by rw [hκ]; simp)
    have tu := wp1.str.cells
    have b3 := blk_of c3
    have b4 : ∀ v : AV, blkAt (H1.set n ⟨v, 0, .own⟩) n 0 = some ⟨v, 0, .own⟩ := fun v => blk_of (get_eq c3 _)
    rw [← hn]
    have ff := And.intro b3 (And.intro b4 tu)
    refine runRp19_0 (x := ?_)
    clear ff
    obtain ⟨u, hu⟩ := (F1.wr (p := n) (by omega) (⟨eSt (firstS k t ac p c) ut up us ui ua ub, 0, .own⟩ : Blk)).pre (H := h) fun _ _ => rfl
    have wf := wp1.wr (.inl k1) (⟨eSt (firstS k t ac p c) ut up us ui ua ub, 0, .own⟩ : Blk)
    exact ⟨κ1, u, ut, up, us, ui, ua, ub, by rw [← hu]; rfl, by rw [← hu]; exact wf, fun i hi => F1.old i hi⟩
theorem c27 {h : Heap} {c : BitVec 8} : SpecQ Tryz.prog 27 [u8 c] h fun r => r = (eCi (personP c), h) := by
  refine SpecQ.drop1 rfl (q27 fun env g0 => ?_)
  have ff := g0
  refine runRp19_1 (x := ?_)
  clear ff
  exact ⟨_, rfl⟩
theorem c9 {h : Heap} {s : Stt} {vt vp vs vi va vb : AV} {a : Actn} {wt wp : AV} (ra : StR h s vt vp vs vi va vb) (rc : ActR h a wt wp) : SpecQ Tryz.prog 9 [eSt s vt vp vs vi va vb, eAct a wt wp] h fun r => r = (.bool (largeP s a), h) := by
  have ta := ra.cells
  have tc := rc.cells
  have l1 := ra.fs.len
  have l2 := ra.fi.len
  have l3 := ra.fa.len
  have l4 := ra.fb.len
  have l5 := ra.ft.len
  have l6 := ra.fp.len
  have l7 := rc.t.len
  have l8 := rc.p.len
  have m1 := ra.fs.bound
  have m2 := ra.fi.bound
  have m3 := ra.fa.bound
  have m4 := ra.fb.bound
  have m5 := ra.ft.bound
  have m6 := ra.fp.bound
  have m7 := rc.t.bound
  have m8 := rc.p.bound
  rw [List.length_map] at l1 l2 l3 l4 m1 m2 m3 m4
  have d1 : mBin .add (nat s.seats.length) (nat s.invites.length) = some (nat (s.seats.length + s.invites.length)) := nat_add (by omega)
  have d2 : mBin .add (nat (s.seats.length + s.invites.length)) (nat s.asks.length) = some (nat (s.seats.length + s.invites.length + s.asks.length)) := nat_add (by omega)
  have d3 : mBin .add (nat (s.seats.length + s.invites.length + s.asks.length)) (nat s.bans.length) = some (nat (s.seats.length + s.invites.length + s.asks.length + s.bans.length)) := nat_add (by omega)
  have d4 : mBin .add (nat s.title.length) (nat s.pass.length) = some (nat (s.title.length + s.pass.length)) := nat_add (by omega)
  have d5 : mBin .add (nat (s.title.length + s.pass.length)) (nat a.title.length) = some (nat (s.title.length + s.pass.length + a.title.length)) := nat_add (by omega)
  have d6 : mBin .add (nat (s.title.length + s.pass.length + a.title.length)) (nat a.pass.length) = some (nat (s.title.length + s.pass.length + a.title.length + a.pass.length)) := nat_add (by omega)
  clear m1 m2 m3 m4 m5 m6 m7 m8
  refine SpecQ.drop1 rfl (q9 fun env g0 g1 => ?_)
  by_cases h1 : 400 < s.seats.length + s.invites.length + s.asks.length + s.bans.length
  · have ff := And.intro g0 (And.intro g1 (And.intro ta (And.intro tc (And.intro l1 (And.intro l2 (And.intro l3 (And.intro l4 (And.intro l5 (And.intro l6 (And.intro l7 (And.intro l8 (And.intro d1 (And.intro d2 (And.intro d3 (And.intro d4 (And.intro d5 (And.intro d6 h1)))))))))))))))))
    refine runRp19_2 (x := ?_)
    clear ff
    exact ⟨_, by simp only [largeP, h1, decide_true, Bool.true_or]; rfl⟩
  · have ff := And.intro g0 (And.intro g1 (And.intro ta (And.intro tc (And.intro l1 (And.intro l2 (And.intro l3 (And.intro l4 (And.intro l5 (And.intro l6 (And.intro l7 (And.intro l8 (And.intro d1 (And.intro d2 (And.intro d3 (And.intro d4 (And.intro d5 (And.intro d6 h1)))))))))))))))))
    refine runRp19_2 (x := ?_)
    clear ff
    exact ⟨_, by simp only [largeP, h1, decide_false, Bool.false_or]; rfl⟩
set_option maxHeartbeats 4000000 in
theorem c22 {h : Heap} : SpecQ Tryz.prog 22 [] h fun r => ∃ t vt vp vs vi va vb, r = (.tuple [eSt gS vt vp vs vi va vb, .bool true], h ++ t) ∧ StR (h ++ t) gS vt vp vs vi va vb ∧ ∀ y ∈ [vt, vp, vs, vi, va, vb], ∀ b, rb y = some b → h.length ≤ b := by
  refine q22 fun env => ?_
  have mk : mMark (.slice (h.length + 1) 0 [] (.int .u8) 0 1 (some 1)) (h ++ [⟨eSt0, 0, .own⟩, ⟨arr 1 fun _ => 116#8, 0, .own⟩]) = some (.slice (h.length + 1) 0 [] (.int .u8) 0 1 (some 1), h ++ [⟨eSt0, 0, .own⟩, ⟨arr 1 fun _ => 116#8, 0, .ro⟩]) := by
    simp [mMark, mElems_slc, Ty.size]
  have ff := mk
  refine runRp19_3 (x := ?_)
  clear ff
  have hb : BytL (h ++ [⟨eSt0, 0, .own⟩, ⟨arr 1 fun _ => 116#8, 0, .ro⟩]) (.slice (h.length + 1) 0 [] (.int .u8) 0 1 (some 1)) [116#8] := by
    refine ⟨⟨?_, rfl, Nat.le_refl _, rfl⟩, by simp⟩
    simp [mElems_slc]
    exact arr_congr fun i hi => by have : i = 0 := by omega
                                   subst this; rfl
  refine SpecQ.step (c20 hb (BytL.nil _)) ?_
  rintro _ hr
  rw [first_g] at hr
  obtain ⟨κ, t, vt, vp, vs, vi, va, vb, rfl, w, h0⟩ := hr
  have tv := w.str.cells
  have ho := w.own h0
  have hs := w.str
  simp only [List.append_assoc, List.cons_append, List.nil_append] at hs ⊢
  have ff := tv
  refine runRp19_4 (x := ?_)
  clear ff
  refine ⟨_, vt, vp, vs, vi, va, vb, rfl, (hs.app [⟨eSt gS vt vp vs vi va vb, 0, .own⟩]).other fun y hy b hb => ?_, fun y hy b hb => ?_⟩
  · have := ho y hy b hb
    simp at this
    have e : ∀ c0 c1 c2 : Blk, h ++ c0 :: c1 :: t ++ [c2] = h ++ ([] ++ c0 :: (c1 :: (t ++ [c2]))) := fun c0 c1 c2 => by simp
    rw [e]
    exact cell_ne (A := []) (by simp; omega)
  · have := ho y hy b hb
    simp at this
    omega
theorem gT_v : gT.version = 1#32 := rfl
theorem gT_s : gT.seats = [⟨personP 97#8, 2#8, 0#32⟩, ⟨personP 98#8, 1#8, 1#32⟩] := rfl
/-- What is known, on the way. -/
structure Kn (H : Heap) (env : Env) (p : Nat) (vt vp vs vi va vb : AV) : Prop where
  e2 : env.get 2 = .bool true
  e3 : env.get 3 = .ptr p 0 [] tState
  e4 : env.get 4 = nat 0
  c : H[p]? = some ⟨eSt gT vt vp vs vi va vb, 0, .own⟩
  r : StR H gT vt vp vs vi va vb
set_option maxHeartbeats 4000000 in
theorem known_4 {H : Heap} {env : Env} {p : Nat} {vt vp vs vi va vb : AV} {Q : AV × Heap → Prop} (hQ : ∀ t, Q (.bool true, H ++ t)) (k : Kn H env p vt vp vs vi va vb) (e6 : env.get 6 = nat 191) :
    wC Tryz.prog cx10 n10_4 (retW (fun s => (bnd (some (s.env.get 0)) fun v => bnd (some []) fun vs => some (v :: vs))) Q) ⟨env, H⟩ := by
  obtain ⟨e2, e3, e4, c, r⟩ := k
  have b3 := blk_of c
  have lx := r.fs.len
  rw [gT_s] at lx
  simp only [List.map_cons, List.map_nil, List.length_cons, List.length_nil] at lx
  obtain ⟨pb, pv, pp, bb, i1, i2, i3, i4⟩ := r.fs.idxE (i := 1) (by rw [gT_s]; simp)
  have i20 : blkAt H pb pv = some bb := by simpa using i2 []
  have gv := gT_v
  have gs : gT.seats[1]'(by rw [gT_s]; simp) = ⟨personP 98#8, 1#8, 1#32⟩ := by simp [gT_s]
  rw [gs] at i3 i4
  have ff := And.intro e2 (And.intro e3 (And.intro e4 (And.intro e6 (And.intro b3 (And.intro lx (And.intro i1 (And.intro i20 (And.intro i4 gv))))))))
  refine runRp19_5 (x := ?_)
  clear ff
  have := hQ []
  rw [List.append_nil] at this
  exact this
set_option maxHeartbeats 4000000 in
theorem known_3 {H : Heap} {env : Env} {p : Nat} {vt vp vs vi va vb : AV} {Q : AV × Heap → Prop} (hQ : ∀ t, Q (.bool true, H ++ t)) (k : Kn H env p vt vp vs vi va vb) :
    wC Tryz.prog cx10 n10_3 (retW (fun s => (bnd (some (s.env.get 0)) fun v => bnd (some []) fun vs => some (v :: vs))) Q) ⟨env, H⟩ := by
  have b3 := blk_of k.c
  have b3l := fun u => blkAt_app (blk_of k.c) u
  have e2 := k.e2
  have e3 := k.e3
  have e4 := k.e4
  have tv := k.r.cells
  have hp : p < H.length := (List.getElem?_eq_some_iff.1 k.c).1
  refine n10_3_w _ _ _ ?_
  repeat' (first | ((with_reducible refine evs_of (a := ?_) ?_ ?_); rotate_left; (focus ((conv => lhs; simp (disch := omega) [e3, b3, b3l, tv]); done)); try dsimp only) | ((with_reducible refine gW_do ?_ ?_); (focus (simp (disch := omega) [e3, b3, b3l, tv]; done))) | ((with_reducible refine gW_no ?_ ?_); (focus (simp (disch := omega) [e3, b3, b3l, tv]; done)); try dsimp only) | ((with_reducible refine gW_un ?_ ?_); (focus (simp (disch := omega) [e3, b3, b3l, tv]; done)); try dsimp only) | ((with_reducible refine stabP_i ?_ ?_); (focus (simp (disch := omega) [e3, b3, b3l, tv]; done))) | (with_reducible refine bothP_i ?_ ?_) | ((with_reducible refine ValW_do ?_ ?_); (focus (simp (disch := omega) [e3, b3, b3l, tv]; done)); try dsimp only) | ((with_reducible refine ValW_no ?_ ?_); (focus (simp (disch := omega) [e3, b3, b3l, tv]; done)); try dsimp only) | ((with_reducible refine ValW_un ?_ ?_); (focus (simp (disch := omega) [e3, b3, b3l, tv]; done)); try dsimp only) | (with_reducible refine ValW_i (c27) ?_; try dsimp only) | (with_reducible refine SpecQ.step (c27) ?_; rintro _ rfl; try dsimp only) | (with_reducible refine stabP_i (c27) ?_) | ((with_reducible refine SpecA_i (args' := ?_) ?_ ?_); rotate_left; (focus ((conv => lhs; simp (disch := omega) [e3, b3, b3l, tv]); done))) | ((with_reducible refine ValA_i (args' := ?_) ?_ ?_); rotate_left; (focus ((conv => lhs; simp (disch := omega) [e3, b3, b3l, tv]); done))) | ((with_reducible refine stabA_i (args' := ?_) ?_ ?_); rotate_left; (focus ((conv => lhs; simp (disch := omega) [e3, b3, b3l, tv]); done))) | ((with_reducible refine ValA_fn (g := ?_) (caps := ?_) ?_ ?_); rotate_left; rotate_left; (focus ((conv => lhs; simp (disch := omega) [e3, b3, b3l, tv]); done))) | ((with_reducible refine stabA_fn (g := ?_) (caps := ?_) ?_ ?_); rotate_left; rotate_left; (focus ((conv => lhs; simp (disch := omega) [e3, b3, b3l, tv]); done))) | ((with_reducible refine stab_do ?_ ?_); (focus (simp (disch := omega) [e3, b3, b3l, tv]; done))) | (simp (decide := true) only [sn10, sqW_nrm, sqW_exit, sqW_ret, inBlk_nrm, inBlk_ret, inBlk_same, inBlk_exit, if_true, if_false, retW_nrm, retW_ret]) | ((with_reducible refine gv_splitE (b := ?_) ?_ ?_ ?_); rotate_left; (focus ((conv => lhs; simp (disch := omega) [e3, b3, b3l, tv]); done)); all_goals ((intro hb; try simp only [Bool.not_true, Bool.not_false] at hb); try simp only [hb])) | ((with_reducible refine gW_splitE (b := ?_) ?_ ?_ ?_); rotate_left; (focus ((conv => lhs; simp (disch := omega) [e3, b3, b3l, tv]); done)); all_goals ((intro hb; try simp only [Bool.not_true, Bool.not_false] at hb); try simp only [hb])) | (with_reducible refine gv_split ?_ ?_ <;> (intro hb; try simp only [Bool.not_true, Bool.not_false] at hb) <;> try simp only [hb]) | (with_reducible refine gW_split ?_ ?_ <;> (intro hb; try simp only [Bool.not_true, Bool.not_false] at hb) <;> try simp only [hb]) | (with_reducible refine ValW_split ?_ ?_ <;> (intro hb; try simp only [Bool.not_true, Bool.not_false] at hb) <;> try simp only [hb]))
  · refine SpecQ.step (c13 (a := kA 2#32 99#8) k.r ⟨BytL.nil _, BytL.nil _⟩) ?_
    rintro _ hr
    rw [step_2] at hr
    obtain ⟨t, rfl⟩ := hr
    have ff := And.intro e3 (And.intro b3l tv)
    refine runRp19_6 (x := ?_)
    clear ff
    refine known_4 (env := env.put 6 (nat 191)) (H := H ++ (t ++ [⟨eSt0, 0, .own⟩])) (fun t' => ?_) ⟨by simp [e2], by simp [e3], by simp [e4], get_app k.c _, k.r.app _⟩ (by simp)
    rw [List.append_assoc]
    exact hQ _
  · refine SpecQ.step (c13 (a := kA 2#32 99#8) (k.r.app [⟨eSt0, 0, .own⟩]) ⟨BytL.nil _, BytL.nil _⟩) ?_
    rintro _ hr
    rw [step_2] at hr
    obtain ⟨t, rfl⟩ := hr
    have ff := And.intro e3 (And.intro b3l tv)
    refine runRp19_6 (x := ?_)
    clear ff
    refine known_4 (env := env.put 6 (nat 191)) (H := H ++ ⟨eSt0, 0, .own⟩ :: t) (fun t' => ?_) ⟨by simp [e2], by simp [e3], by simp [e4], get_app k.c _, k.r.app _⟩ (by simp)
    rw [List.append_assoc]
    exact hQ _
set_option maxHeartbeats 4000000 in
theorem known_2 {H : Heap} {env : Env} {p : Nat} {vt vp vs vi va vb : AV} {Q : AV × Heap → Prop} (hQ : ∀ t, Q (.bool true, H ++ t)) (e1 : env.get 1 = .ptr p 0 [] tState) (e2 : env.get 2 = .bool true) (c : H[p]? = some ⟨eSt gS vt vp vs vi va vb, 0, .own⟩) (r : StR H gS vt vp vs vi va vb) :
    wC Tryz.prog cx10 n10_2 (retW (fun s => (bnd (some (s.env.get 0)) fun v => bnd (some []) fun vs => some (v :: vs))) Q) ⟨env, H⟩ := by
  have b3 := blk_of c
  have b3l := fun u => blkAt_app (blk_of c) u
  have tv := r.cells
  refine n10_2_w _ _ _ ?_
  repeat' (first | ((with_reducible refine evs_of (a := ?_) ?_ ?_); rotate_left; (focus ((conv => lhs; simp (disch := omega) [e1, e2, b3, b3l, tv]); done)); try dsimp only) | ((with_reducible refine gW_do ?_ ?_); (focus (simp (disch := omega) [e1, e2, b3, b3l, tv]; done))) | ((with_reducible refine gW_no ?_ ?_); (focus (simp (disch := omega) [e1, e2, b3, b3l, tv]; done)); try dsimp only) | ((with_reducible refine gW_un ?_ ?_); (focus (simp (disch := omega) [e1, e2, b3, b3l, tv]; done)); try dsimp only) | ((with_reducible refine stabP_i ?_ ?_); (focus (simp (disch := omega) [e1, e2, b3, b3l, tv]; done))) | (with_reducible refine bothP_i ?_ ?_) | ((with_reducible refine ValW_do ?_ ?_); (focus (simp (disch := omega) [e1, e2, b3, b3l, tv]; done)); try dsimp only) | ((with_reducible refine ValW_no ?_ ?_); (focus (simp (disch := omega) [e1, e2, b3, b3l, tv]; done)); try dsimp only) | ((with_reducible refine ValW_un ?_ ?_); (focus (simp (disch := omega) [e1, e2, b3, b3l, tv]; done)); try dsimp only) | (with_reducible refine ValW_i (c27) ?_; try dsimp only) | (with_reducible refine SpecQ.step (c27) ?_; rintro _ rfl; try dsimp only) | (with_reducible refine stabP_i (c27) ?_) | ((with_reducible refine SpecA_i (args' := ?_) ?_ ?_); rotate_left; (focus ((conv => lhs; simp (disch := omega) [e1, e2, b3, b3l, tv]); done))) | ((with_reducible refine ValA_i (args' := ?_) ?_ ?_); rotate_left; (focus ((conv => lhs; simp (disch := omega) [e1, e2, b3, b3l, tv]); done))) | ((with_reducible refine stabA_i (args' := ?_) ?_ ?_); rotate_left; (focus ((conv => lhs; simp (disch := omega) [e1, e2, b3, b3l, tv]); done))) | ((with_reducible refine ValA_fn (g := ?_) (caps := ?_) ?_ ?_); rotate_left; rotate_left; (focus ((conv => lhs; simp (disch := omega) [e1, e2, b3, b3l, tv]); done))) | ((with_reducible refine stabA_fn (g := ?_) (caps := ?_) ?_ ?_); rotate_left; rotate_left; (focus ((conv => lhs; simp (disch := omega) [e1, e2, b3, b3l, tv]); done))) | ((with_reducible refine stab_do ?_ ?_); (focus (simp (disch := omega) [e1, e2, b3, b3l, tv]; done))) | (simp (decide := true) only [sn10, sqW_nrm, sqW_exit, sqW_ret, inBlk_nrm, inBlk_ret, inBlk_same, inBlk_exit, if_true, if_false, retW_nrm, retW_ret]) | ((with_reducible refine gv_splitE (b := ?_) ?_ ?_ ?_); rotate_left; (focus ((conv => lhs; simp (disch := omega) [e1, e2, b3, b3l, tv]); done)); all_goals ((intro hb; try simp only [Bool.not_true, Bool.not_false] at hb); try simp only [hb])) | ((with_reducible refine gW_splitE (b := ?_) ?_ ?_ ?_); rotate_left; (focus ((conv => lhs; simp (disch := omega) [e1, e2, b3, b3l, tv]); done)); all_goals ((intro hb; try simp only [Bool.not_true, Bool.not_false] at hb); try simp only [hb])) | (with_reducible refine gv_split ?_ ?_ <;> (intro hb; try simp only [Bool.not_true, Bool.not_false] at hb) <;> try simp only [hb]) | (with_reducible refine gW_split ?_ ?_ <;> (intro hb; try simp only [Bool.not_true, Bool.not_false] at hb) <;> try simp only [hb]) | (with_reducible refine ValW_split ?_ ?_ <;> (intro hb; try simp only [Bool.not_true, Bool.not_false] at hb) <;> try simp only [hb]))
  · refine SpecQ.step (c13 (a := kA 1#32 98#8) r ⟨BytL.nil _, BytL.nil _⟩) ?_
    rintro _ hr
    rw [step_1] at hr
    obtain ⟨κ, t, ut, up, us, ui, ua, ub, rfl, w, h0⟩ := hr
    have tu := w.str.cells
    have hs := w.str
    have ff := And.intro e1 (And.intro b3l (And.intro tv tu))
    refine runRp19_6 (x := ?_)
    clear ff
    refine known_3 (vt := ut) (vp := up) (vs := us) (vi := ui) (va := ua) (vb := ub) (p := H.length + t.length) (H := H ++ (t ++ [⟨eSt gT ut up us ui ua ub, 0, .own⟩])) (fun t' => ?_) ⟨?_, ?_, ?_, ?_, ?_⟩
    · rw [List.append_assoc]
      exact hQ _
    · simp [e2]
    · simp
    · simp
    · rw [← List.append_assoc, List.getElem?_append_right (by simp)]
      simp
    · rw [← List.append_assoc]
      exact hs.app _
  · refine SpecQ.step (c13 (a := kA 1#32 98#8) (r.app [⟨eSt0, 0, .own⟩]) ⟨BytL.nil _, BytL.nil _⟩) ?_
    rintro _ hr
    rw [step_1] at hr
    obtain ⟨κ, t, ut, up, us, ui, ua, ub, rfl, w, h0⟩ := hr
    have tu := w.str.cells
    have hs := w.str
    have ho := w.own h0
    have ff := And.intro e1 (And.intro b3l (And.intro tv tu))
    refine runRp19_6 (x := ?_)
    clear ff
    refine known_3 (vt := ut) (vp := up) (vs := us) (vi := ui) (va := ua) (vb := ub) (p := H.length) (H := H ++ ⟨eSt gT ut up us ui ua ub, 0, .own⟩ :: t) (fun t' => ?_) ⟨?_, ?_, ?_, ?_, hs.other fun y hy b hb => ?_⟩
    · rw [List.append_assoc]
      exact hQ _
    · simp [e2]
    · simp
    · simp
    · simp
    · have := ho y hy b hb
      simp at this
      have e : ∀ c0 : Blk, H ++ c0 :: t = H ++ ([] ++ c0 :: t) := fun c0 => by simp
      rw [List.append_assoc, List.singleton_append, e, e]
      exact cell_ne (A := []) (by simp; omega)
set_option maxHeartbeats 4000000 in
theorem c10 {h : Heap} : SpecQ Tryz.prog 10 [] h fun r => r = (.bool true, h) := by
  refine SpecQ.drop1 rfl (q10 fun env => ?_)
  refine runRp19_7 (x := ?_)
  refine SpecQ.step c22 ?_
  rintro _ ⟨t, vt, vp, vs, vi, va, vb, rfl, r, -⟩
  have tv := r.cells
  have ff := tv
  refine runRp19_8 (x := ?_)
  clear ff
  refine known_2 (vt := vt) (vp := vp) (vs := vs) (vi := vi) (va := va) (vb := vb) (p := h.length + t.length) (H := h ++ (t ++ [⟨eSt gS vt vp vs vi va vb, 0, .own⟩])) (fun t' => ?_) ?_ ?_ ?_ ?_
  · rw [List.append_assoc]
    exact ⟨_, rfl⟩
  · simp
  · simp
  · rw [← List.append_assoc, List.getElem?_append_right (by simp)]
    simp
  · rw [← List.append_assoc]
    exact r.app _
end Go.Vab

/- How the code of a function is read. Printed by wip/tools/gen2.py and gen3.py (own work). -/
namespace Go.Vab
open Go Go.Proofs
def cx15 : Ctx := ⟨fun _ _ _ => none,TT,162,[13,14,15,16,17,18,19,20,21,22,23,24,25,26,27,28,29,30,31,32,33,34,35,36,37,38,39,40,41,42,43,44,45,46,47,48,49,50,51,52,53,54,55,56,57,58,59,60,61,62,63,64,65,66,67,68,69,70,71,72,73,74,75,76,77,78,79,80,81,82,83,84,86,87,88,89,91,92,93,94,95,96,97,98,99,100,101,102,103,104,106,107,108,109,111,112,113,114,115,116,117,118,119,120,121,122,123,124,126,127,128,129,131,132,133,134,135,136,137,138,139,140,141,142,144,145,146,147,149,150,151,152,153,154,155,156,157,158,159,160]⟩
noncomputable def n15_0 := bodyOf Tryz.f15
noncomputable def n15_1 := cR n15_0
noncomputable def n15_2 := cL n15_1
noncomputable def n15_3 := cR n15_2
noncomputable def n15_4 := cL n15_3
noncomputable def n15_5 := cR n15_4
noncomputable def n15_6 := cR n15_3
noncomputable def n15_7 := cR n15_1
noncomputable def n15_8 := cL n15_7
noncomputable def n15_9 := cR n15_8
noncomputable def n15_10 := cB n15_9
noncomputable def n15_11 := cB n15_10
noncomputable def n15_12 := cL n15_11
noncomputable def n15_13 := cR n15_12
noncomputable def n15_14 := cL n15_13
noncomputable def n15_15 := cR n15_13
noncomputable def n15_16 := cR n15_11
noncomputable def n15_17 := cL n15_16
noncomputable def n15_18 := cB n15_17
noncomputable def n15_19 := cR n15_18
noncomputable def n15_20 := cR n15_19
noncomputable def n15_21 := cL n15_20
noncomputable def n15_22 := cR n15_21
noncomputable def n15_23 := cR n15_20
noncomputable def n15_24 := cR n15_16
noncomputable def n15_25 := cR n15_7
noncomputable def n15_26 := cL n15_25
noncomputable def n15_27 := cR n15_26
noncomputable def n15_28 := cB n15_27
noncomputable def n15_29 := cB n15_28
noncomputable def n15_30 := cL n15_29
noncomputable def n15_31 := cR n15_30
noncomputable def n15_32 := cL n15_31
noncomputable def n15_33 := cR n15_31
noncomputable def n15_34 := cR n15_29
noncomputable def n15_35 := cL n15_34
noncomputable def n15_36 := cB n15_35
noncomputable def n15_37 := cR n15_36
noncomputable def n15_38 := cR n15_37
noncomputable def n15_39 := cL n15_38
noncomputable def n15_40 := cR n15_39
noncomputable def n15_41 := cR n15_38
noncomputable def n15_42 := cR n15_34
noncomputable def n15_43 := cR n15_25
noncomputable def n15_44 := cL n15_43
noncomputable def n15_45 := cR n15_44
noncomputable def n15_46 := cB n15_45
noncomputable def n15_47 := cB n15_46
noncomputable def n15_48 := cL n15_47
noncomputable def n15_49 := cR n15_48
noncomputable def n15_50 := cL n15_49
noncomputable def n15_51 := cR n15_49
noncomputable def n15_52 := cR n15_47
noncomputable def n15_53 := cL n15_52
noncomputable def n15_54 := cB n15_53
noncomputable def n15_55 := cR n15_54
noncomputable def n15_56 := cL n15_55
noncomputable def n15_57 := cR n15_56
noncomputable def n15_58 := cR n15_55
noncomputable def n15_59 := cR n15_52
noncomputable def n15_60 := cR n15_43
noncomputable def n15_61 := cL n15_60
noncomputable def n15_62 := cR n15_61
noncomputable def n15_63 := cB n15_62
noncomputable def n15_64 := cB n15_63
noncomputable def n15_65 := cL n15_64
noncomputable def n15_66 := cR n15_65
noncomputable def n15_67 := cL n15_66
noncomputable def n15_68 := cR n15_66
noncomputable def n15_69 := cR n15_64
noncomputable def n15_70 := cL n15_69
noncomputable def n15_71 := cB n15_70
noncomputable def n15_72 := cR n15_71
noncomputable def n15_73 := cL n15_72
noncomputable def n15_74 := cR n15_73
noncomputable def n15_75 := cR n15_72
noncomputable def n15_76 := cR n15_69
noncomputable def n15_77 := cR n15_60
noncomputable def n15_78 := cR n15_77
def q15 := zQ2 cx15 15 Tryz.f15 n15_0 fun s => (bnd (some (s.env.get 4)) fun v => bnd (some []) fun vs => some (v :: vs))
set_option maxRecDepth 20000
set_option maxHeartbeats 4000000
def n15_18_w := zDr cx15 [n15_19,n15_18] [10,11,12,13] [0,1,0,7,15,0,32,0,224,480,0,0,3103,8191] [0,1,2,3,4,5,6,7,8,9] (.b 10 [] [1,4,6,9] (.o 11 [] [1,4,6,9] (.o 12 [] [6,9] (.o 13 [] [] .f))) (.o 11 [] [1,4,6,9] (.o 10 [] [1,4,6,9] (.o 12 [] [6,9] (.o 13 [] [] .f)))))
def n15_36_w := zDr cx15 [n15_37,n15_36] [10,11,12,13] [0,1,0,7,15,0,32,0,224,480,0,0,3103,8191] [0,1,2,3,4,5,6,7,8,9] (.b 10 [] [1,4,6,9] (.o 11 [] [1,4,6,9] (.o 12 [] [6,9] (.o 13 [] [] .f))) (.o 11 [] [1,4,6,9] (.o 10 [] [1,4,6,9] (.o 12 [] [6,9] (.o 13 [] [] .f)))))
def n15_54_w := zDr cx15 [n15_55,n15_54] [] [0,1,0,7,15,0,32,0,224,480,1023] [0,1,2,3,4,5,6,7,8,9,10] .f
def n15_71_w := zDr cx15 [n15_72,n15_71] [] [0,1,0,7,15,0,32,0,224,480,1023] [0,1,2,3,4,5,6,7,8,9,10] .f
def sn15 := zAll cx15 [[n15_5],[n15_5,n15_4],[n15_6],[n15_4,n15_6,n15_3],[n15_3,n15_2],[n15_14],[n15_15],[n15_14,n15_15,n15_13],[n15_13,n15_12],[n15_22],[n15_22,n15_21],[n15_23],[n15_21,n15_23,n15_20],[n15_20,n15_19],[n15_18,n15_17],[n15_24],[n15_17,n15_24,n15_16],[n15_12,n15_16,n15_11],[n15_11,n15_10],[n15_10,n15_9],[n15_9,n15_8],[n15_32],[n15_33],[n15_32,n15_33,n15_31],[n15_31,n15_30],[n15_40],[n15_40,n15_39],[n15_41],[n15_39,n15_41,n15_38],[n15_38,n15_37],[n15_36,n15_35],[n15_42],[n15_35,n15_42,n15_34],[n15_30,n15_34,n15_29],[n15_29,n15_28],[n15_28,n15_27],[n15_27,n15_26],[n15_50],[n15_51],[n15_50,n15_51,n15_49],[n15_49,n15_48],[n15_57],[n15_57,n15_56],[n15_58],[n15_56,n15_58,n15_55],[n15_54,n15_53],[n15_59],[n15_53,n15_59,n15_52],[n15_48,n15_52,n15_47],[n15_47,n15_46],[n15_46,n15_45],[n15_45,n15_44],[n15_67],[n15_68],[n15_67,n15_68,n15_66],[n15_66,n15_65],[n15_74],[n15_74,n15_73],[n15_75],[n15_73,n15_75,n15_72],[n15_71,n15_70],[n15_76],[n15_70,n15_76,n15_69],[n15_65,n15_69,n15_64],[n15_64,n15_63],[n15_63,n15_62],[n15_62,n15_61],[n15_78],[n15_78,n15_77],[n15_61,n15_77,n15_60],[n15_44,n15_60,n15_43],[n15_26,n15_43,n15_25],[n15_8,n15_25,n15_7],[n15_2,n15_7,n15_1],[n15_1,n15_0]]
-- words: bothP cndW gv stabP wL
-- draws: n15_18 n15_36 n15_54 n15_71
end Go.Vab

/-
  The document's SameState, walked.
-/
namespace Go.Vab
open Go Go.Proofs
theorem runRSame_0 {G X Y : Prop} (f : Hd X → Hd Y → G := by
  intro xX yX
  repeat' (first | refine stp (x := ?_) | (with_reducible refine bothP_i ?_ ?_) | (simp (decide := true) only [sn15, snB, if_true, if_false]) | (with_reducible refine n15_18_w _ _ _ ?_) | (with_reducible refine n15_36_w _ _ _ ?_) | (with_reducible refine n15_54_w _ _ _ ?_) | (with_reducible refine n15_71_w _ _ _ ?_))
  · exact xX.get
  · exact yX.get) (x : X) (y : Y) : G := f ⟨x⟩ ⟨y⟩
theorem runRSame_1 {G X : Prop} (f : Hd X → G := by
  intro xX
  repeat' (first | refine stp (x := ?_) | (with_reducible refine bothP_i ?_ ?_) | (simp (decide := true) only [sn15, snB, if_true, if_false]) | (with_reducible refine n15_18_w _ _ _ ?_) | (with_reducible refine n15_36_w _ _ _ ?_) | (with_reducible refine n15_54_w _ _ _ ?_) | (with_reducible refine n15_71_w _ _ _ ?_))
  exact xX.get) (x : X) : G := f ⟨x⟩
theorem c15 {h : Heap} {a b : Stt} {at_ ap as_ ai aa ab bt bp bs bi ba bb : AV} (ra : StR h a at_ ap as_ ai aa ab) (rb : StR h b bt bp bs bi ba bb) :
    SpecQ Tryz.prog 15 [eSt a at_ ap as_ ai aa ab, eSt b bt bp bs bi ba bb] h fun r => r = (.bool (decide (a = b)), h) := by
  have ta := ra.cells
  have tb := rb.cells
  obtain ⟨A, hA⟩ : ∃ A, A = eSt a at_ ap as_ ai aa ab := ⟨_, rfl⟩
  obtain ⟨B, hB⟩ : ∃ B, B = eSt b bt bp bs bi ba bb := ⟨_, rfl⟩
  have sat := fun l => (ra.ft.app l).str
  have sap := fun l => (ra.fp.app l).str
  have sbt := fun l => (rb.ft.app l).str
  have sbp := fun l => (rb.fp.app l).str
  have las := ra.fs.len
  have lai := ra.fi.len
  have laa := ra.fa.len
  have lab := ra.fb.len
  have lbs := rb.fs.len
  have lbi := rb.fi.len
  have lba := rb.fa.len
  have lbb := rb.fb.len
  have bas := ra.fs.bound
  have bai := ra.fi.bound
  have baa := ra.fa.bound
  have bab := ra.fb.bound
  simp only [List.length_map] at las lai laa lab lbs lbi lba lbb bas bai baa bab
  refine SpecQ.drop1 rfl (q15 fun env g0 g1 => ?_)
  repeat' (first | ((with_reducible refine evs_of (a := ?_) ?_ ?_); rotate_left; (focus ((conv => lhs; simp (disch := omega) [g0, g1, ta, tb, sat, sap, sbt, sbp, las, lai, laa, lab, lbs, lbi, lba, lbb]); done)); try dsimp only) | ((with_reducible refine cndW_T ?_ ?_); (focus (simp (disch := omega) [g0, g1, ta, tb, sat, sap, sbt, sbp, las, lai, laa, lab, lbs, lbi, lba, lbb] <;> omega))) | ((with_reducible refine cndW_F ?_ ?_); (focus (simp (disch := omega) [g0, g1, ta, tb, sat, sap, sbt, sbp, las, lai, laa, lab, lbs, lbi, lba, lbb] <;> omega))) | ((with_reducible refine stabP_i ?_ ?_); (focus (simp (disch := omega) [g0, g1, ta, tb, sat, sap, sbt, sbp, las, lai, laa, lab, lbs, lbi, lba, lbb]; done))) | (with_reducible refine bothP_i ?_ ?_) | (with_reducible refine wL_i ?_) | ((with_reducible refine stabA_i (args' := ?_) ?_ ?_); rotate_left; (focus ((conv => lhs; simp (disch := omega) [g0, g1, ta, tb, sat, sap, sbt, sbp, las, lai, laa, lab, lbs, lbi, lba, lbb]); done))) | ((with_reducible refine stabA_fn (g := ?_) (caps := ?_) ?_ ?_); rotate_left; rotate_left; (focus ((conv => lhs; simp (disch := omega) [g0, g1, ta, tb, sat, sap, sbt, sbp, las, lai, laa, lab, lbs, lbi, lba, lbb]); done))) | ((with_reducible refine stab_do ?_ ?_); (focus (simp (disch := omega) [g0, g1, ta, tb, sat, sap, sbt, sbp, las, lai, laa, lab, lbs, lbi, lba, lbb]; done))) | (simp (decide := true) only [sn15, sqW_nrm, sqW_exit, sqW_ret, inBlk_nrm, inBlk_ret, inBlk_same, inBlk_exit, if_true, if_false, retW_nrm, retW_ret]) | (with_reducible refine n15_18_w _ _ _ ?_) | (with_reducible refine n15_36_w _ _ _ ?_) | (with_reducible refine n15_54_w _ _ _ ?_) | (with_reducible refine n15_71_w _ _ _ ?_) | ((with_reducible refine cndW_splitE (b := ?_) ?_ ?_ ?_); rotate_left; (focus ((conv => lhs; simp (disch := omega) [g0, g1, ta, tb, sat, sap, sbt, sbp, las, lai, laa, lab, lbs, lbi, lba, lbb]); done)); all_goals ((intro hb; try simp only [Bool.not_true, Bool.not_false] at hb); try simp only [hb])) | ((with_reducible refine gv_splitE (b := ?_) ?_ ?_ ?_); rotate_left; (focus ((conv => lhs; simp (disch := omega) [g0, g1, ta, tb, sat, sap, sbt, sbp, las, lai, laa, lab, lbs, lbi, lba, lbb]); done)); all_goals ((intro hb; try simp only [Bool.not_true, Bool.not_false] at hb); try simp only [hb])) | (with_reducible refine gv_split ?_ ?_ <;> (intro hb; try simp only [Bool.not_true, Bool.not_false] at hb) <;> try simp only [hb]) | (with_reducible refine cndW_split ?_ ?_ <;> (intro hb; try simp only [Bool.not_true, Bool.not_false] at hb) <;> try simp only [hb]))
  rotate_left
  all_goals try (refine fin_b (decide_eq_false ?_).symm; rintro rfl; simp_all; done)
  rename_i u1 u2 u3 u4 u5 u6 u7 u8
  simp only [Bool.not_eq_false', decide_eq_true_eq, Bool.or_eq_false_iff] at u1 u2 u3 u4 u5 u6 u7 u8 hb
  -- seats
  refine loop_up a.seats.length (fun i st => ∃ env' t, st = ⟨env', h ++ (⟨eSt a at_ ap as_ ai aa ab, 0, .own⟩ :: ⟨eSt b bt bp bs bi ba bb, 0, .own⟩ :: t)⟩ ∧ env'.get 2 = .ptr h.length 0 [] tState ∧ env'.get 3 = .ptr (h.length + 1) 0 [] tState ∧ env'.get 5 = nat i ∧ ∀ j, j < i → a.seats[j]? = b.seats[j]?) ?_ ?_ ⟨_, _, rfl, by simp [*], by simp [*], by simp, fun j hj => absurd hj (by omega)⟩
  · rintro i st hi ⟨env', t, rfl, e2, e3, ei, hj⟩
    obtain ⟨p, p1, p2⟩ := ra.fs.idx (i := i) (by simpa using hi)
    obtain ⟨q, q1, q2⟩ := rb.fs.idx (i := i) (by simpa [← u6] using hi)
    simp only [List.getElem?_map, List.getElem?_eq_getElem hi, Option.map_some] at p2
    simp only [List.getElem?_map, List.getElem?_eq_getElem (show i < b.seats.length by omega), Option.map_some] at q2
    by_cases hab : a.seats[i] = b.seats[i]
    · have ff := And.intro e2 (And.intro e3 (And.intro ei (And.intro p1 (And.intro p2 (And.intro q1 (And.intro q2 (And.intro hab las)))))))
      refine runRSame_0 (x := ?_) (y := ?_)
      all_goals clear ff
      all_goals
        refine .inl ⟨by simp, _, _, rfl, by simp [e2], by simp [e3], by simp, fun j hj' => ?_⟩
        by_cases hji : j = i
        · subst hji
          rw [List.getElem?_eq_getElem hi, List.getElem?_eq_getElem (by omega), hab]
        · exact hj j (by omega)
    · have ff := And.intro e2 (And.intro e3 (And.intro ei (And.intro p1 (And.intro p2 (And.intro q1 (And.intro q2 (And.intro hab las)))))))
      refine runRSame_0 (x := ?_) (y := ?_)
      all_goals clear ff
      all_goals
        refine .inr ⟨by simp, ?_⟩
        have ff := And.intro e2 (And.intro e3 ei)
        refine runRSame_1 (x := ?_)
        clear ff
        refine fin_b (decide_eq_false ?_).symm
        rintro rfl
        exact hab rfl
  rintro st ⟨env', t, rfl, e2, e3, ei, hj⟩
  have ff := And.intro e2 (And.intro e3 (And.intro ei las))
  refine runRSame_1 (x := ?_)
  clear ff
  refine ⟨by simp, ?_⟩
  have ff := And.intro e2 (And.intro e3 (And.intro ei las))
  refine runRSame_1 (x := ?_)
  clear ff
  have w_seats : a.seats = b.seats := List.ext_getElem? fun j => by
    by_cases hj' : j < a.seats.length
    · exact hj j hj'
    · rw [List.getElem?_eq_none (by omega), List.getElem?_eq_none (by omega)]
  clear hj
  -- invites
  refine loop_up a.invites.length (fun i st => ∃ env' t, st = ⟨env', h ++ (⟨eSt a at_ ap as_ ai aa ab, 0, .own⟩ :: ⟨eSt b bt bp bs bi ba bb, 0, .own⟩ :: t)⟩ ∧ env'.get 2 = .ptr h.length 0 [] tState ∧ env'.get 3 = .ptr (h.length + 1) 0 [] tState ∧ env'.get 8 = nat i ∧ ∀ j, j < i → a.invites[j]? = b.invites[j]?) ?_ ?_ ⟨_, _, rfl, by simp [*], by simp [*], by simp, fun j hj => absurd hj (by omega)⟩
  · rintro i st hi ⟨env', t, rfl, e2, e3, ei, hj⟩
    obtain ⟨p, p1, p2⟩ := ra.fi.idx (i := i) (by simpa using hi)
    obtain ⟨q, q1, q2⟩ := rb.fi.idx (i := i) (by simpa [← u7] using hi)
    simp only [List.getElem?_map, List.getElem?_eq_getElem hi, Option.map_some] at p2
    simp only [List.getElem?_map, List.getElem?_eq_getElem (show i < b.invites.length by omega), Option.map_some] at q2
    by_cases hab : a.invites[i] = b.invites[i]
    · have ff := And.intro e2 (And.intro e3 (And.intro ei (And.intro p1 (And.intro p2 (And.intro q1 (And.intro q2 (And.intro hab lai)))))))
      refine runRSame_0 (x := ?_) (y := ?_)
      all_goals clear ff
      all_goals
        refine .inl ⟨by simp, _, _, rfl, by simp [e2], by simp [e3], by simp, fun j hj' => ?_⟩
        by_cases hji : j = i
        · subst hji
          rw [List.getElem?_eq_getElem hi, List.getElem?_eq_getElem (by omega), hab]
        · exact hj j (by omega)
    · have ff := And.intro e2 (And.intro e3 (And.intro ei (And.intro p1 (And.intro p2 (And.intro q1 (And.intro q2 (And.intro hab lai)))))))
      refine runRSame_0 (x := ?_) (y := ?_)
      all_goals clear ff
      all_goals
        refine .inr ⟨by simp, ?_⟩
        have ff := And.intro e2 (And.intro e3 ei)
        refine runRSame_1 (x := ?_)
        clear ff
        refine fin_b (decide_eq_false ?_).symm
        rintro rfl
        exact hab rfl
  rintro st ⟨env', t, rfl, e2, e3, ei, hj⟩
  have ff := And.intro e2 (And.intro e3 (And.intro ei lai))
  refine runRSame_1 (x := ?_)
  clear ff
  refine ⟨by simp, ?_⟩
  have ff := And.intro e2 (And.intro e3 (And.intro ei lai))
  refine runRSame_1 (x := ?_)
  clear ff
  have w_invites : a.invites = b.invites := List.ext_getElem? fun j => by
    by_cases hj' : j < a.invites.length
    · exact hj j hj'
    · rw [List.getElem?_eq_none (by omega), List.getElem?_eq_none (by omega)]
  clear hj
  -- asks
  refine loop_up a.asks.length (fun i st => ∃ env' t, st = ⟨env', h ++ (⟨eSt a at_ ap as_ ai aa ab, 0, .own⟩ :: ⟨eSt b bt bp bs bi ba bb, 0, .own⟩ :: t)⟩ ∧ env'.get 2 = .ptr h.length 0 [] tState ∧ env'.get 3 = .ptr (h.length + 1) 0 [] tState ∧ env'.get 11 = nat i ∧ ∀ j, j < i → a.asks[j]? = b.asks[j]?) ?_ ?_ ⟨_, _, rfl, by simp [*], by simp [*], by simp, fun j hj => absurd hj (by omega)⟩
  · rintro i st hi ⟨env', t, rfl, e2, e3, ei, hj⟩
    obtain ⟨p, p1, p2⟩ := ra.fa.idx (i := i) (by simpa using hi)
    obtain ⟨q, q1, q2⟩ := rb.fa.idx (i := i) (by simpa [← u8] using hi)
    simp only [List.getElem?_map, List.getElem?_eq_getElem hi, Option.map_some] at p2
    simp only [List.getElem?_map, List.getElem?_eq_getElem (show i < b.asks.length by omega), Option.map_some] at q2
    by_cases hab : a.asks[i] = b.asks[i]
    · have ff := And.intro e2 (And.intro e3 (And.intro ei (And.intro p1 (And.intro p2 (And.intro q1 (And.intro q2 (And.intro hab laa)))))))
      refine runRSame_1 (x := ?_)
      clear ff
      all_goals
        refine .inl ⟨by simp, _, _, rfl, by simp [e2], by simp [e3], by simp, fun j hj' => ?_⟩
        by_cases hji : j = i
        · subst hji
          rw [List.getElem?_eq_getElem hi, List.getElem?_eq_getElem (by omega), hab]
        · exact hj j (by omega)
    · have ff := And.intro e2 (And.intro e3 (And.intro ei (And.intro p1 (And.intro p2 (And.intro q1 (And.intro q2 (And.intro hab laa)))))))
      refine runRSame_1 (x := ?_)
      clear ff
      all_goals
        refine .inr ⟨by simp, ?_⟩
        have ff := And.intro e2 (And.intro e3 ei)
        refine runRSame_1 (x := ?_)
        clear ff
        refine fin_b (decide_eq_false ?_).symm
        rintro rfl
        exact hab rfl
  rintro st ⟨env', t, rfl, e2, e3, ei, hj⟩
  have ff := And.intro e2 (And.intro e3 (And.intro ei laa))
  refine runRSame_1 (x := ?_)
  clear ff
  refine ⟨by simp, ?_⟩
  have ff := And.intro e2 (And.intro e3 (And.intro ei laa))
  refine runRSame_1 (x := ?_)
  clear ff
  have w_asks : a.asks = b.asks := List.ext_getElem? fun j => by
    by_cases hj' : j < a.asks.length
    · exact hj j hj'
    · rw [List.getElem?_eq_none (by omega), List.getElem?_eq_none (by omega)]
  clear hj
  -- bans
  refine loop_up a.bans.length (fun i st => ∃ env' t, st = ⟨env', h ++ (⟨eSt a at_ ap as_ ai aa ab, 0, .own⟩ :: ⟨eSt b bt bp bs bi ba bb, 0, .own⟩ :: t)⟩ ∧ env'.get 2 = .ptr h.length 0 [] tState ∧ env'.get 3 = .ptr (h.length + 1) 0 [] tState ∧ env'.get 12 = nat i ∧ ∀ j, j < i → a.bans[j]? = b.bans[j]?) ?_ ?_ ⟨_, _, rfl, by simp [*], by simp [*], by simp, fun j hj => absurd hj (by omega)⟩
  · rintro i st hi ⟨env', t, rfl, e2, e3, ei, hj⟩
    obtain ⟨p, p1, p2⟩ := ra.fb.idx (i := i) (by simpa using hi)
    obtain ⟨q, q1, q2⟩ := rb.fb.idx (i := i) (by simpa [← hb] using hi)
    simp only [List.getElem?_map, List.getElem?_eq_getElem hi, Option.map_some] at p2
    simp only [List.getElem?_map, List.getElem?_eq_getElem (show i < b.bans.length by omega), Option.map_some] at q2
    by_cases hab : a.bans[i] = b.bans[i]
    · have ff := And.intro e2 (And.intro e3 (And.intro ei (And.intro p1 (And.intro p2 (And.intro q1 (And.intro q2 (And.intro hab lab)))))))
      refine runRSame_1 (x := ?_)
      clear ff
      all_goals
        refine .inl ⟨by simp, _, _, rfl, by simp [e2], by simp [e3], by simp, fun j hj' => ?_⟩
        by_cases hji : j = i
        · subst hji
          rw [List.getElem?_eq_getElem hi, List.getElem?_eq_getElem (by omega), hab]
        · exact hj j (by omega)
    · have ff := And.intro e2 (And.intro e3 (And.intro ei (And.intro p1 (And.intro p2 (And.intro q1 (And.intro q2 (And.intro hab lab)))))))
      refine runRSame_1 (x := ?_)
      clear ff
      all_goals
        refine .inr ⟨by simp, ?_⟩
        have ff := And.intro e2 (And.intro e3 ei)
        refine runRSame_1 (x := ?_)
        clear ff
        refine fin_b (decide_eq_false ?_).symm
        rintro rfl
        exact hab rfl
  rintro st ⟨env', t, rfl, e2, e3, ei, hj⟩
  have ff := And.intro e2 (And.intro e3 (And.intro ei lab))
  refine runRSame_1 (x := ?_)
  clear ff
  refine ⟨by simp, ?_⟩
  have ff := And.intro e2 (And.intro e3 (And.intro ei lab))
  refine runRSame_1 (x := ?_)
  clear ff
  have w_bans : a.bans = b.bans := List.ext_getElem? fun j => by
    by_cases hj' : j < a.bans.length
    · exact hj j hj'
    · rw [List.getElem?_eq_none (by omega), List.getElem?_eq_none (by omega)]
  clear hj
  refine fin_b (decide_eq_true ?_).symm
  cases a
  cases b
  simp_all
end Go.Vab

/- How the code of a function is read. Printed by wip/tools/gen2.py and gen3.py (own work). -/
namespace Go.Vab
open Go Go.Proofs
def cx6 : Ctx := ⟨fun _ _ _ => none,TT,87,[8,9,12,13,15,16,17,18,19,20,21,22,23,24,25,26,27,28,29,30,31,32,33,34,35,36,37,38,40,41,42,43,44,45,46,47,48,49,50,51,52,53,54,55,56,57,58,59,60,61,62,63,64,65,66,67,68,69,70,71,72,73,74,75,76,77,78,79,80,81,82,83,84,85,86]⟩
noncomputable def n6_0 := bodyOf Tryz.f6
noncomputable def n6_1 := cR n6_0
noncomputable def n6_2 := cL n6_1
noncomputable def n6_3 := cR n6_2
noncomputable def n6_4 := cL n6_3
noncomputable def n6_5 := cR n6_4
noncomputable def n6_6 := cR n6_3
noncomputable def n6_7 := cR n6_1
noncomputable def n6_8 := cR n6_7
noncomputable def n6_9 := cR n6_8
noncomputable def n6_10 := cL n6_9
noncomputable def n6_11 := cR n6_10
noncomputable def n6_12 := cL n6_11
noncomputable def n6_13 := cR n6_12
noncomputable def n6_14 := cR n6_11
noncomputable def n6_15 := cR n6_9
noncomputable def n6_16 := cR n6_15
def q6 := zQ3 cx6 6 Tryz.f6 n6_0 fun s => (bnd (some (s.env.get 6)) fun v => bnd (some []) fun vs => some (v :: vs))
set_option maxRecDepth 20000
set_option maxHeartbeats 4000000
def sn6 := zAll cx6 [[n6_5],[n6_5,n6_4],[n6_6],[n6_4,n6_6,n6_3],[n6_3,n6_2],[n6_13],[n6_13,n6_12],[n6_14],[n6_12,n6_14,n6_11],[n6_11,n6_10],[n6_16],[n6_16,n6_15],[n6_10,n6_15,n6_9],[n6_9,n6_8],[n6_8,n6_7],[n6_2,n6_7,n6_1],[n6_1,n6_0]]
-- words: SpecA cndW gW gv wL
-- draws: 
end Go.Vab

/-
  The program's own place, and what it does for those who stand nowhere; walked.
-/
namespace Go.Vab
open Go Go.Proofs
theorem runRp20_0 {G X : Prop} (f : Hd X → G := by
  intro xX
  repeat' (first | refine stp (x := ?_) | (with_reducible refine SpecQ.step (c9 (ra.app _) (rc.app _)) ?_; rintro _ rfl; try dsimp only) | (with_reducible refine SpecQ.step (c10) ?_; rintro _ rfl; try dsimp only) | (simp (decide := true) only [sn6, snB, if_true, if_false]))
  exact xX.get) (x : X) : G := f ⟨x⟩
theorem runRp20_1 {G X : Prop} (f : Hd X → G := by
  intro xX
  repeat' (first | refine stp (x := ?_) | (with_reducible refine SpecQ.step (c9 (ra.app _) (rc.app _)) ?_; rintro _ rfl; try dsimp only) | (with_reducible refine SpecQ.step (c26 (ra.app _)) ?_; rintro _ rfl; try dsimp only) | (simp (decide := true) only [sn6, snB, if_true, if_false]))
  exact xX.get) (x : X) : G := f ⟨x⟩
theorem runRp20_2 {G X : Prop} (f : Hd X → G := by
  intro xX
  repeat' (first | refine stp (x := ?_) | (with_reducible refine SpecQ.step (c10) ?_; rintro _ rfl; try dsimp only) | (simp (decide := true) only [sn6, snB, if_true, if_false]))
  exact xX.get) (x : X) : G := f ⟨x⟩
@[simp] theorem ePlace_0 (x : Nat × BitVec 64 × Pt) : mExtract (ePlace x) 0 = some (nat x.1) := rfl
@[simp] theorem ePlace_1 (x : Nat × BitVec 64 × Pt) : mExtract (ePlace x) 1 = some (u64 x.2.1) := rfl
@[simp] theorem ePlace_2 (x : Nat × BitVec 64 × Pt) : mExtract (ePlace x) 2 = some (pt x.2.2) := rfl
theorem stepP_err {s : Stt} {b : Pt} {a : Actn} {k : Nat} (h : stepP s b a = .error k) : k ≠ 0 := by
  unfold stepP at h
  split at h
  · cases h; decide
  split at h
  · cases h; decide
  split at h
  · cases h; decide
  split at h
  · rename_i e he
    cases h
    exact madeP_err he
  · cases h
theorem placeP_le (s : Stt) (b : Pt) : (placeP s b).1 ≤ 4 := by
  unfold placeP
  repeat' split
  all_goals simp
theorem eSt0_st {H : Heap} : StR H st0 .nilslice .nilslice .nilslice .nilslice .nilslice .nilslice := ⟨BytL.nil _, BytL.nil _, nilRow tSeat_x _, nilRow tInvite_x _, nilRow tAsk_x _, nilRow tBan_x _⟩
theorem c6 {h : Heap} {s : Stt} {vt vp vs vi va vb : AV} {b : Pt} {a : Actn} {wt wp : AV} (ra : StR h s vt vp vs vi va vb) (rc : ActR h a wt wp) : SpecQ Tryz.prog 6 [eSt s vt vp vs vi va vb, pt b, eAct a wt wp] h fun r => r.1 = .bool true := by
  have ta := ra.cells
  have tc := rc.cells
  refine q6 fun env g0 g1 g2 => ?_
  cases hL : largeP s a
  rotate_left
  · have ff := And.intro g0 (And.intro g1 (And.intro g2 (And.intro ta (And.intro tc hL))))
    refine runRp20_0 (x := ?_)
    clear ff
    rfl
  have ff := And.intro g0 (And.intro g1 (And.intro g2 (And.intro ta (And.intro tc hL))))
  refine runRp20_1 (x := ?_)
  clear ff
  refine SpecQ.step (c13 (ra.app _) (rc.app _)) ?_
  rintro _ hr
  have hp := placeP_le s b
  cases hs : stepP s b a with
  | error k =>
    rw [hs] at hr
    obtain ⟨t, rfl⟩ := hr
    have hk := stepP_err hs
    have ff := And.intro g0 (And.intro g1 (And.intro g2 (And.intro ta (And.intro tc hk))))
    refine runRp20_2 (x := ?_)
    clear ff
    refine SpecQ.step (c15 eSt0_st eSt0_st) ?_
    rintro _ rfl
    rw [decide_eq_true (rfl : st0 = st0)]
    have ff := g0
    refine runRp20_2 (x := ?_)
    clear ff
    rfl
  | ok z =>
    rw [hs] at hr
    obtain ⟨κ, t, ut, up, us, ui, ua, ub, rfl, w, h0⟩ := hr
    have tu := w.str.cells
    by_cases hq : 1 ≤ (placeP s b).1 ∧ (placeP s b).1 ≤ 3
    · obtain ⟨hq1, hq2⟩ := hq
      have ff := And.intro g0 (And.intro g1 (And.intro g2 (And.intro ta (And.intro tc (And.intro tu (And.intro hq1 (And.intro hq2 hp)))))))
      refine runRp20_2 (x := ?_)
      clear ff
      rfl
    · obtain ⟨a1, a2, a3, a4, a5⟩ := apart_law hs hq
      have sp := fun l => (ra.fp.app l).str
      have sq := fun l => (rc.p.app l).str
      have lp := ra.fp.len
      have bp := ra.fp.bound
      rcases a2 with a2 | a2
      · have ff := And.intro g0 (And.intro g1 (And.intro g2 (And.intro ta (And.intro tc (And.intro tu (And.intro a1 (And.intro a2 (And.intro a3 (And.intro a4 (And.intro a5 (And.intro sp (And.intro sq (And.intro lp bp)))))))))))))
        refine runRp20_2 (x := ?_)
        clear ff
        rfl
      · have ff := And.intro g0 (And.intro g1 (And.intro g2 (And.intro ta (And.intro tc (And.intro tu (And.intro a1 (And.intro a2 (And.intro a3 (And.intro a4 (And.intro a5 (And.intro sp (And.intro sq (And.intro lp bp)))))))))))))
        refine runRp20_2 (x := ?_)
        clear ff
        rfl
end Go.Vab

/- How the code of a function is read. Printed by wip/tools/gen2.py and gen3.py (own work). -/
namespace Go.Vab
open Go Go.Proofs
def cx7 : Ctx := ⟨fun _ _ _ => none,TT,313,[12,18,19,21,22,23,24,25,26,27,28,29,31,32,33,36,37,38,39,40,41,42,44,45,46,47,48,49,50,51,52,53,54,55,56,57,58,59,60,61,62,63,64,65,66,67,68,69,70,73,74,75,76,77,78,79,80,81,82,83,84,85,86,87,88,89,90,92,93,94,95,96,97,98,99,100,101,102,103,104,106,107,108,109,110,111,112,113,114,115,116,117,118,119,120,122,123,124,125,126,127,128,129,130,131,132,133,134,135,136,137,138,139,140,141,142,143,144,146,147,148,149,150,151,152,153,154,155,156,157,159,160,161,162,163,164,165,166,167,168,169,170,171,172,173,174,176,177,178,179,180,181,182,183,184,185,186,187,188,189,190,191,192,193,194,195,196,197,198,200,201,202,203,204,205,206,207,209,210,211,212,213,214,215,216,218,219,220,221,222,223,224,225,227,228,229,230,231,232,233,235,236,237,238,239,240,241,242,243,244,245,246,247,248,249,250,251,252,253,254,255,256,257,258,260,261,262,263,264,265,266,267,268,269,270,271,272,273,274,275,276,277,278,279,280,281,282,283,285,286,287,288,289,290,291,292,293,294,295,296,297,298,299,300,301,302,303,304,305,306,307,308,309,310,311,312]⟩
noncomputable def n7_0 := bodyOf Tryz.f7
noncomputable def n7_1 := cR n7_0
noncomputable def n7_2 := cL n7_1
noncomputable def n7_3 := cR n7_2
noncomputable def n7_4 := cL n7_3
noncomputable def n7_5 := cR n7_4
noncomputable def n7_6 := cR n7_3
noncomputable def n7_7 := cR n7_1
noncomputable def n7_8 := cR n7_7
noncomputable def n7_9 := cL n7_8
noncomputable def n7_10 := cR n7_9
noncomputable def n7_11 := cL n7_10
noncomputable def n7_12 := cR n7_11
noncomputable def n7_13 := cR n7_10
noncomputable def n7_14 := cR n7_8
noncomputable def n7_15 := cR n7_14
noncomputable def n7_16 := cL n7_15
noncomputable def n7_17 := cR n7_16
noncomputable def n7_18 := cB n7_17
noncomputable def n7_19 := cL n7_18
noncomputable def n7_20 := cR n7_19
noncomputable def n7_21 := cL n7_20
noncomputable def n7_22 := cR n7_20
noncomputable def n7_23 := cR n7_22
noncomputable def n7_24 := cL n7_23
noncomputable def n7_25 := cR n7_23
noncomputable def n7_26 := cR n7_25
noncomputable def n7_27 := cL n7_26
noncomputable def n7_28 := cR n7_26
noncomputable def n7_29 := cR n7_18
noncomputable def n7_30 := cL n7_29
noncomputable def n7_31 := cR n7_29
noncomputable def n7_32 := cL n7_31
noncomputable def n7_33 := cR n7_32
noncomputable def n7_34 := cL n7_33
noncomputable def n7_35 := cR n7_33
noncomputable def n7_36 := cR n7_35
noncomputable def n7_37 := cL n7_36
noncomputable def n7_38 := cR n7_36
noncomputable def n7_39 := cR n7_38
noncomputable def n7_40 := cL n7_39
noncomputable def n7_41 := cR n7_39
noncomputable def n7_42 := cR n7_41
noncomputable def n7_43 := cL n7_42
noncomputable def n7_44 := cR n7_42
noncomputable def n7_45 := cR n7_44
noncomputable def n7_46 := cL n7_45
noncomputable def n7_47 := cR n7_45
noncomputable def n7_48 := cR n7_47
noncomputable def n7_49 := cL n7_48
noncomputable def n7_50 := cR n7_48
noncomputable def n7_51 := cR n7_31
noncomputable def n7_52 := cL n7_51
noncomputable def n7_53 := cR n7_51
noncomputable def n7_54 := cR n7_15
noncomputable def n7_55 := cR n7_54
noncomputable def n7_56 := cR n7_55
noncomputable def n7_57 := cR n7_56
noncomputable def n7_58 := cR n7_57
noncomputable def n7_59 := cL n7_58
noncomputable def n7_60 := cR n7_59
noncomputable def n7_61 := cB n7_60
noncomputable def n7_62 := cL n7_61
noncomputable def n7_63 := cR n7_62
noncomputable def n7_64 := cL n7_63
noncomputable def n7_65 := cR n7_63
noncomputable def n7_66 := cR n7_61
noncomputable def n7_67 := cL n7_66
noncomputable def n7_68 := cR n7_66
noncomputable def n7_69 := cR n7_68
noncomputable def n7_70 := cL n7_69
noncomputable def n7_71 := cR n7_69
noncomputable def n7_72 := cR n7_71
noncomputable def n7_73 := cL n7_72
noncomputable def n7_74 := cR n7_72
noncomputable def n7_75 := cR n7_74
noncomputable def n7_76 := cL n7_75
noncomputable def n7_77 := cR n7_75
noncomputable def n7_78 := cR n7_77
noncomputable def n7_79 := cL n7_78
noncomputable def n7_80 := cR n7_78
noncomputable def n7_81 := cR n7_80
noncomputable def n7_82 := cL n7_81
noncomputable def n7_83 := cR n7_81
noncomputable def n7_84 := cR n7_83
noncomputable def n7_85 := cL n7_84
noncomputable def n7_86 := cR n7_84
noncomputable def n7_87 := cL n7_86
noncomputable def n7_88 := cR n7_87
noncomputable def n7_89 := cL n7_88
noncomputable def n7_90 := cR n7_88
noncomputable def n7_91 := cR n7_86
noncomputable def n7_92 := cL n7_91
noncomputable def n7_93 := cR n7_91
noncomputable def n7_94 := cL n7_93
noncomputable def n7_95 := cR n7_94
noncomputable def n7_96 := cL n7_95
noncomputable def n7_97 := cR n7_95
noncomputable def n7_98 := cR n7_93
noncomputable def n7_99 := cL n7_98
noncomputable def n7_100 := cR n7_98
noncomputable def n7_101 := cL n7_100
noncomputable def n7_102 := cR n7_101
noncomputable def n7_103 := cL n7_102
noncomputable def n7_104 := cR n7_102
noncomputable def n7_105 := cR n7_100
noncomputable def n7_106 := cL n7_105
noncomputable def n7_107 := cR n7_105
noncomputable def n7_108 := cR n7_107
noncomputable def n7_109 := cL n7_108
noncomputable def n7_110 := cR n7_108
noncomputable def n7_111 := cR n7_110
noncomputable def n7_112 := cL n7_111
noncomputable def n7_113 := cR n7_111
noncomputable def n7_114 := cR n7_113
noncomputable def n7_115 := cL n7_114
noncomputable def n7_116 := cR n7_114
noncomputable def n7_117 := cR n7_116
noncomputable def n7_118 := cL n7_117
noncomputable def n7_119 := cR n7_117
noncomputable def n7_120 := cR n7_58
noncomputable def n7_121 := cR n7_120
theorem fn7 : Tryz.prog.funcs[7]? = some Tryz.f7 := by kernel_rfl
def q7 := zQ3 cx7 7 Tryz.f7 n7_0 fun s => (bnd (some (s.env.get 6)) fun v => bnd (some []) fun vs => some (v :: vs))
set_option maxRecDepth 20000
set_option maxHeartbeats 4000000
def sn7 := zAll cx7 [[n7_5],[n7_5,n7_4],[n7_6],[n7_4,n7_6,n7_3],[n7_3,n7_2],[n7_12],[n7_12,n7_11],[n7_13],[n7_11,n7_13,n7_10],[n7_10,n7_9],[n7_21],[n7_24],[n7_27],[n7_28],[n7_27,n7_28,n7_26],[n7_26,n7_25],[n7_24,n7_25,n7_23],[n7_23,n7_22],[n7_21,n7_22,n7_20],[n7_20,n7_19],[n7_30],[n7_34],[n7_37],[n7_40],[n7_43],[n7_46],[n7_49],[n7_50],[n7_49,n7_50,n7_48],[n7_48,n7_47],[n7_46,n7_47,n7_45],[n7_45,n7_44],[n7_43,n7_44,n7_42],[n7_42,n7_41],[n7_40,n7_41,n7_39],[n7_39,n7_38],[n7_37,n7_38,n7_36],[n7_36,n7_35],[n7_34,n7_35,n7_33],[n7_33,n7_32],[n7_52],[n7_53],[n7_52,n7_53,n7_51],[n7_32,n7_51,n7_31],[n7_30,n7_31,n7_29],[n7_19,n7_29,n7_18],[n7_18,n7_17],[n7_17,n7_16],[n7_64],[n7_65],[n7_64,n7_65,n7_63],[n7_63,n7_62],[n7_67],[n7_70],[n7_73],[n7_76],[n7_79],[n7_82],[n7_85],[n7_89],[n7_90],[n7_89,n7_90,n7_88],[n7_88,n7_87],[n7_92],[n7_96],[n7_97],[n7_96,n7_97,n7_95],[n7_95,n7_94],[n7_99],[n7_103],[n7_104],[n7_103,n7_104,n7_102],[n7_102,n7_101],[n7_106],[n7_109],[n7_112],[n7_115],[n7_118],[n7_119],[n7_118,n7_119,n7_117],[n7_117,n7_116],[n7_115,n7_116,n7_114],[n7_114,n7_113],[n7_112,n7_113,n7_111],[n7_111,n7_110],[n7_109,n7_110,n7_108],[n7_108,n7_107],[n7_106,n7_107,n7_105],[n7_101,n7_105,n7_100],[n7_99,n7_100,n7_98],[n7_94,n7_98,n7_93],[n7_92,n7_93,n7_91],[n7_87,n7_91,n7_86],[n7_85,n7_86,n7_84],[n7_84,n7_83],[n7_82,n7_83,n7_81],[n7_81,n7_80],[n7_79,n7_80,n7_78],[n7_78,n7_77],[n7_76,n7_77,n7_75],[n7_75,n7_74],[n7_73,n7_74,n7_72],[n7_72,n7_71],[n7_70,n7_71,n7_69],[n7_69,n7_68],[n7_67,n7_68,n7_66],[n7_62,n7_66,n7_61],[n7_61,n7_60],[n7_60,n7_59],[n7_121],[n7_121,n7_120],[n7_59,n7_120,n7_58],[n7_58,n7_57],[n7_57,n7_56],[n7_56,n7_55],[n7_55,n7_54],[n7_16,n7_54,n7_15],[n7_15,n7_14],[n7_9,n7_14,n7_8],[n7_8,n7_7],[n7_2,n7_7,n7_1],[n7_1,n7_0]]
-- words: SpecA cndW gW gv wL
-- draws: 
end Go.Vab

/-
  What an action that is done does to whom it names; walked.
-/
namespace Go.Vab
open Go Go.Proofs
theorem runRp21_0 {G X : Prop} (f : Hd X → G := by
  intro xX
  repeat' (first | ((with_reducible refine evs_of (a := ?_) ?_ ?_); rotate_left; (focus ((conv => lhs; simp (disch := omega) [ff]); done)); try dsimp only) | ((with_reducible refine gW_do ?_ ?_); (focus (simp (disch := omega) [ff]; done))) | ((with_reducible refine gW_no ?_ ?_); (focus (simp (disch := omega) [ff]; done)); try dsimp only) | ((with_reducible refine gW_un ?_ ?_); (focus (simp (disch := omega) [ff]; done)); try dsimp only) | ((with_reducible refine cndW_T ?_ ?_); (focus (simp (disch := omega) [ff] <;> omega))) | ((with_reducible refine cndW_F ?_ ?_); (focus (simp (disch := omega) [ff] <;> omega))) | (with_reducible refine wL_i ?_) | (with_reducible refine SpecQ.step (c9 (ra.app _) (rc.app _)) ?_; rintro _ rfl; try dsimp only) | (with_reducible refine SpecQ.step (c10) ?_; rintro _ rfl; try dsimp only) | ((with_reducible refine SpecA_i (args' := ?_) ?_ ?_); rotate_left; (focus ((conv => lhs; simp (disch := omega) [ff]); done))) | (simp (decide := true) only [sn7, sqW_nrm, sqW_exit, sqW_ret, inBlk_nrm, inBlk_ret, inBlk_same, inBlk_exit, if_true, if_false, retW_nrm, retW_ret]))
  exact xX.get) (x : X) : G := f ⟨x⟩
theorem runRp21_1 {G X : Prop} (f : Hd X → G := by
  intro xX
  repeat' (first | ((with_reducible refine evs_of (a := ?_) ?_ ?_); rotate_left; (focus ((conv => lhs; simp (disch := omega) [ff]); done)); try dsimp only) | ((with_reducible refine gW_do ?_ ?_); (focus (simp (disch := omega) [ff]; done))) | ((with_reducible refine gW_no ?_ ?_); (focus (simp (disch := omega) [ff]; done)); try dsimp only) | ((with_reducible refine gW_un ?_ ?_); (focus (simp (disch := omega) [ff]; done)); try dsimp only) | ((with_reducible refine cndW_T ?_ ?_); (focus (simp (disch := omega) [ff] <;> omega))) | ((with_reducible refine cndW_F ?_ ?_); (focus (simp (disch := omega) [ff] <;> omega))) | (with_reducible refine wL_i ?_) | (with_reducible refine SpecQ.step (c9 (ra.app _) (rc.app _)) ?_; rintro _ rfl; try dsimp only) | ((with_reducible refine SpecA_i (args' := ?_) ?_ ?_); rotate_left; (focus ((conv => lhs; simp (disch := omega) [ff]); done))) | (simp (decide := true) only [sn7, sqW_nrm, sqW_exit, sqW_ret, inBlk_nrm, inBlk_ret, inBlk_same, inBlk_exit, if_true, if_false, retW_nrm, retW_ret]))
  exact xX.get) (x : X) : G := f ⟨x⟩
theorem runRp21_2 {G X : Prop} (f : Hd X → G := by
  intro xX
  repeat' (first | ((with_reducible refine evs_of (a := ?_) ?_ ?_); rotate_left; (focus ((conv => lhs; simp (disch := omega) [ff]); done)); try dsimp only) | ((with_reducible refine gW_do ?_ ?_); (focus (simp (disch := omega) [ff]; done))) | ((with_reducible refine gW_no ?_ ?_); (focus (simp (disch := omega) [ff]; done)); try dsimp only) | ((with_reducible refine gW_un ?_ ?_); (focus (simp (disch := omega) [ff]; done)); try dsimp only) | ((with_reducible refine cndW_T ?_ ?_); (focus (simp (disch := omega) [ff] <;> omega))) | ((with_reducible refine cndW_F ?_ ?_); (focus (simp (disch := omega) [ff] <;> omega))) | (with_reducible refine wL_i ?_) | (with_reducible refine SpecQ.step (c10) ?_; rintro _ rfl; try dsimp only) | ((with_reducible refine SpecA_i (args' := ?_) ?_ ?_); rotate_left; (focus ((conv => lhs; simp (disch := omega) [ff]); done))) | (simp (decide := true) only [sn7, sqW_nrm, sqW_exit, sqW_ret, inBlk_nrm, inBlk_ret, inBlk_same, inBlk_exit, if_true, if_false, retW_nrm, retW_ret]))
  exact xX.get) (x : X) : G := f ⟨x⟩
theorem runRp21_3 {G X : Prop} (f : Hd X → G := by
  intro xX
  repeat' (first | ((with_reducible refine evs_of (a := ?_) ?_ ?_); rotate_left; (focus ((conv => lhs; simp (disch := omega) [ff]); done)); try dsimp only) | ((with_reducible refine gW_do ?_ ?_); (focus (simp (disch := omega) [ff]; done))) | ((with_reducible refine gW_no ?_ ?_); (focus (simp (disch := omega) [ff]; done)); try dsimp only) | ((with_reducible refine gW_un ?_ ?_); (focus (simp (disch := omega) [ff]; done)); try dsimp only) | ((with_reducible refine cndW_T ?_ ?_); (focus (simp (disch := omega) [ff] <;> omega))) | ((with_reducible refine cndW_F ?_ ?_); (focus (simp (disch := omega) [ff] <;> omega))) | (with_reducible refine wL_i ?_) | ((with_reducible refine SpecA_i (args' := ?_) ?_ ?_); rotate_left; (focus ((conv => lhs; simp (disch := omega) [ff]); done))) | (simp (decide := true) only [sn7, sqW_nrm, sqW_exit, sqW_ret, inBlk_nrm, inBlk_ret, inBlk_same, inBlk_exit, if_true, if_false, retW_nrm, retW_ret]))
  exact xX.get) (x : X) : G := f ⟨x⟩
theorem runRp21_4 {G X : Prop} (f : Hd X → G := by
  intro xX
  repeat' (first | ((with_reducible refine evs_of (a := ?_) ?_ ?_); rotate_left; (focus ((conv => lhs; simp (disch := omega) [ff]); done)); try dsimp only) | ((with_reducible refine gW_do ?_ ?_); (focus (simp (disch := omega) [ff]; done))) | ((with_reducible refine gW_no ?_ ?_); (focus (simp (disch := omega) [ff]; done)); try dsimp only) | ((with_reducible refine gW_un ?_ ?_); (focus (simp (disch := omega) [ff]; done)); try dsimp only) | ((with_reducible refine cndW_T ?_ ?_); (focus (simp (disch := omega) [ff] <;> omega))) | ((with_reducible refine cndW_F ?_ ?_); (focus (simp (disch := omega) [ff] <;> omega))) | (with_reducible refine wL_i ?_) | (with_reducible refine SpecQ.step (c26 (ra.app _)) ?_; rintro _ rfl; try dsimp only) | (with_reducible refine SpecQ.step (c26 (hz _)) ?_; rintro _ rfl; try dsimp only) | (with_reducible refine SpecQ.step (c10) ?_; rintro _ rfl; try dsimp only) | ((with_reducible refine SpecA_i (args' := ?_) ?_ ?_); rotate_left; (focus ((conv => lhs; simp (disch := omega) [ff]); done))) | (simp (decide := true) only [sn7, sqW_nrm, sqW_exit, sqW_ret, inBlk_nrm, inBlk_ret, inBlk_same, inBlk_exit, if_true, if_false, retW_nrm, retW_ret]))
  exact xX.get) (x : X) : G := f ⟨x⟩
theorem rj_nat (r : BitVec 8) (j : BitVec 32) : (r.setWidth 64 <<< 32 + j.setWidth 64).toNat = r.toNat * 4294967296 + j.toNat := by
  have h1 := r.isLt
  have h2 := j.isLt
  simp [BitVec.toNat_add, BitVec.toNat_shiftLeft, BitVec.toNat_setWidth, Nat.shiftLeft_eq]
  omega
theorem rem_lo (r : BitVec 8) (j : BitVec 32) : mBin .rem (u64 (r.setWidth 64 <<< 32 + j.setWidth 64)) (u64 4294967296#64) = some (u64 (j.setWidth 64)) := by
  have h2 := j.isLt
  have e : (((r.toNat * 4294967296 + j.toNat : Nat) : Int)).tmod ((4294967296 : Nat) : Int) = (j.toNat : Int) := by
    rw [← Int.ofNat_tmod]
    congr 1
    omega
  have e2 : (j.setWidth 64).toNat = j.toNat := by rw [BitVec.toNat_setWidth]; omega
  simp only [u64, mBin, mBinI, rj_nat, e2]
  rw [show ((4294967296#64).toNat : Int) = ((4294967296 : Nat) : Int) from rfl, e]
  simp
theorem rj_ne {r q : BitVec 8} {j : BitVec 32} (h : r ≠ q) : ¬ (q.setWidth 64 <<< 32 + j.setWidth 64 : BitVec 64) = r.setWidth 64 <<< 32 + j.setWidth 64 := fun e => h (by
  have := congrArg BitVec.toNat e
  rw [rj_nat, rj_nat] at this
  exact BitVec.eq_of_toNat_eq (by omega))
set_option maxHeartbeats 4000000 in
theorem c7 {h : Heap} {s : Stt} {vt vp vs vi va vb : AV} {b : Pt} {a : Actn} {wt wp : AV} (ra : StR h s vt vp vs vi va vb) (rc : ActR h a wt wp) : SpecQ Tryz.prog 7 [eSt s vt vp vs vi va vb, pt b, eAct a wt wp] h fun r => r.1 = .bool true := by
  have ta := ra.cells
  have tc := rc.cells
  refine q7 fun env g0 g1 g2 => ?_
  cases hL : largeP s a
  rotate_left
  · have ff := And.intro g0 (And.intro g1 (And.intro g2 (And.intro ta (And.intro tc hL))))
    refine runRp21_0 (x := ?_)
    clear ff
    rfl
  have ff := And.intro g0 (And.intro g1 (And.intro g2 (And.intro ta (And.intro tc hL))))
  refine runRp21_1 (x := ?_)
  clear ff
  refine SpecQ.step (c13 (ra.app _) (rc.app _)) ?_
  rintro _ hr
  cases hs : stepP s b a with
  | error k =>
    rw [hs] at hr
    obtain ⟨t, rfl⟩ := hr
    have hk := stepP_err hs
    have ff := And.intro g0 (And.intro g1 (And.intro g2 (And.intro ta (And.intro tc hk))))
    refine runRp21_2 (x := ?_)
    clear ff
    rfl
  | ok z =>
    rw [hs] at hr
    obtain ⟨κ, t, ut, up, us, ui, ua, ub, rfl, w, h0⟩ := hr
    have tu := w.str.cells
    have d := does_law hs
    have ff := And.intro g0 (And.intro g1 (And.intro g2 (And.intro ta (And.intro tc tu))))
    refine runRp21_3 (x := ?_)
    clear ff
    have hz : ∀ l, StR (h ++ ⟨eSt s vt vp vs vi va vb, 0, .own⟩ :: ⟨pt b, 0, .own⟩ :: ⟨eAct a wt wp, 0, .own⟩ :: (t ++ l)) z ut up us ui ua ub := fun l => by simpa using w.str.app l
    obtain ⟨d1, d9, d7, d5, d10, d14, d3, d24, d68, d11, d15, d16, d17, d18⟩ := d
    rcases mayA_kind (stepP_ok hs).2.1 with hk | hk | hk | hk | hk | hk | hk | hk | hk | hk | hk | hk | hk | hk | hk | hk | hk | hk
    · have e := d1 (.inl hk)
      rw [show tgt b a = a.who.e by simp [tgt, hk]] at e
      obtain ⟨e1, e2⟩ := e
      have ff := And.intro g0 (And.intro g1 (And.intro g2 (And.intro ta (And.intro tc (And.intro tu (And.intro hk (And.intro e1 e2)))))))
      refine runRp21_4 (x := ?_)
      clear ff
      rfl
    · have e := d24 (.inl hk)
      rw [show tgt b a = a.e by simp [tgt, hk]] at e
      obtain ⟨e1, e2⟩ := e
      have ff := And.intro g0 (And.intro g1 (And.intro g2 (And.intro ta (And.intro tc (And.intro tu (And.intro hk (And.intro e1 e2)))))))
      refine runRp21_4 (x := ?_)
      clear ff
      rfl
    · have e := d3 hk
      rw [show tgt b a = a.e by simp [tgt, hk]] at e
      obtain ⟨r, j, e1, e2, e3⟩ := e
      have e4 := rem_lo r j
      have e5 := rj_ne (j := j) e3
      have ff := And.intro g0 (And.intro g1 (And.intro g2 (And.intro ta (And.intro tc (And.intro tu (And.intro hk (And.intro e1 (And.intro e2 (And.intro e4 e5)))))))))
      refine runRp21_4 (x := ?_)
      clear ff
      rfl
    · have e := d24 (.inr hk)
      rw [show tgt b a = b by simp [tgt, hk]] at e
      obtain ⟨e1, e2⟩ := e
      have ff := And.intro g0 (And.intro g1 (And.intro g2 (And.intro ta (And.intro tc (And.intro tu (And.intro hk (And.intro e1 e2)))))))
      refine runRp21_4 (x := ?_)
      clear ff
      rfl
    · have e := d5 hk
      rw [show tgt b a = a.who.e by simp [tgt, hk]] at e
      obtain ⟨e1, e2, e3⟩ := e
      have ff := And.intro g0 (And.intro g1 (And.intro g2 (And.intro ta (And.intro tc (And.intro tu (And.intro hk (And.intro e1 (And.intro e2 e3))))))))
      refine runRp21_4 (x := ?_)
      clear ff
      rfl
    · have e := d68 (.inl hk)
      rw [show tgt b a = a.e by simp [tgt, hk]] at e
      obtain ⟨e1, e2⟩ := e
      have ff := And.intro g0 (And.intro g1 (And.intro g2 (And.intro ta (And.intro tc (And.intro tu (And.intro hk (And.intro e1 e2)))))))
      refine runRp21_4 (x := ?_)
      clear ff
      rfl
    · have e := d7 hk
      rw [show tgt b a = b by simp [tgt, hk]] at e
      obtain ⟨r, p, e1, e2⟩ := e
      have ff := And.intro g0 (And.intro g1 (And.intro g2 (And.intro ta (And.intro tc (And.intro tu (And.intro hk (And.intro e1 e2)))))))
      refine runRp21_4 (x := ?_)
      clear ff
      rfl
    · have e := d68 (.inr hk)
      rw [show tgt b a = b by simp [tgt, hk]] at e
      obtain ⟨e1, e2⟩ := e
      have ff := And.intro g0 (And.intro g1 (And.intro g2 (And.intro ta (And.intro tc (And.intro tu (And.intro hk (And.intro e1 e2)))))))
      refine runRp21_4 (x := ?_)
      clear ff
      rfl
    · have e := d9 hk
      rw [show tgt b a = a.who.e by simp [tgt, hk]] at e
      obtain ⟨e1, e2⟩ := e
      have ff := And.intro g0 (And.intro g1 (And.intro g2 (And.intro ta (And.intro tc (And.intro tu (And.intro hk (And.intro e1 e2)))))))
      refine runRp21_4 (x := ?_)
      clear ff
      rfl
    · have e := d10 hk
      rw [show tgt b a = a.who.e by simp [tgt, hk]] at e
      obtain ⟨e1, e2⟩ := e
      have ff := And.intro g0 (And.intro g1 (And.intro g2 (And.intro ta (And.intro tc (And.intro tu (And.intro hk (And.intro e1 e2)))))))
      refine runRp21_4 (x := ?_)
      clear ff
      rfl
    · have e := d11 (.inl hk)
      rw [show tgt b a = b by simp [tgt, hk]] at e
      obtain ⟨e1, e2⟩ := e
      have ff := And.intro g0 (And.intro g1 (And.intro g2 (And.intro ta (And.intro tc (And.intro tu (And.intro hk (And.intro e1 e2)))))))
      refine runRp21_4 (x := ?_)
      clear ff
      rfl
    · have e := d1 (.inr hk)
      rw [show tgt b a = a.e by simp [tgt, hk]] at e
      obtain ⟨e1, e2⟩ := e
      have ff := And.intro g0 (And.intro g1 (And.intro g2 (And.intro ta (And.intro tc (And.intro tu (And.intro hk (And.intro e1 e2)))))))
      refine runRp21_4 (x := ?_)
      clear ff
      rfl
    · have e := d11 (.inr hk)
      rw [show tgt b a = a.e by simp [tgt, hk]] at e
      obtain ⟨e1, e2⟩ := e
      have ff := And.intro g0 (And.intro g1 (And.intro g2 (And.intro ta (And.intro tc (And.intro tu (And.intro hk (And.intro e1 e2)))))))
      refine runRp21_4 (x := ?_)
      clear ff
      rfl
    · have e := d14 hk
      rw [show tgt b a = a.e by simp [tgt, hk]] at e
      obtain ⟨⟨e1, e3⟩, e2⟩ := e
      have ff := And.intro g0 (And.intro g1 (And.intro g2 (And.intro ta (And.intro tc (And.intro tu (And.intro hk (And.intro e1 (And.intro e3 e2))))))))
      refine runRp21_4 (x := ?_)
      clear ff
      rfl
    · have e := d15 hk
      rw [show tgt b a = a.e by simp [tgt, hk]] at e
      obtain ⟨e1, e2⟩ := e
      have ff := And.intro g0 (And.intro g1 (And.intro g2 (And.intro ta (And.intro tc (And.intro tu (And.intro hk (And.intro e1 e2)))))))
      refine runRp21_4 (x := ?_)
      clear ff
      rfl
    · obtain ⟨e1, e2, e3⟩ := d16 hk
      have s1 := fun l => (ra.ft.app l).str
      have s2 := fun l => (ra.fp.app l).str
      have s3 := fun l => (hz l).ft.str
      have s4 := fun l => (hz l).fp.str
      have s5 := fun l => (rc.t.app l).str
      have s6 := fun l => (rc.p.app l).str
      have ff := And.intro g0 (And.intro g1 (And.intro g2 (And.intro ta (And.intro tc (And.intro tu (And.intro hk (And.intro e1 (And.intro e2 (And.intro e3 (And.intro s1 (And.intro s2 (And.intro s3 (And.intro s4 (And.intro s5 s6))))))))))))))
      refine runRp21_4 (x := ?_)
      clear ff
      rfl
    · obtain ⟨e1, e2, e3⟩ := d17 hk
      have s1 := fun l => (ra.ft.app l).str
      have s2 := fun l => (ra.fp.app l).str
      have s3 := fun l => (hz l).ft.str
      have s4 := fun l => (hz l).fp.str
      have s5 := fun l => (rc.t.app l).str
      have s6 := fun l => (rc.p.app l).str
      have ff := And.intro g0 (And.intro g1 (And.intro g2 (And.intro ta (And.intro tc (And.intro tu (And.intro hk (And.intro e1 (And.intro e2 (And.intro e3 (And.intro s1 (And.intro s2 (And.intro s3 (And.intro s4 (And.intro s5 s6))))))))))))))
      refine runRp21_4 (x := ?_)
      clear ff
      rfl
    · obtain ⟨e1, e2, e3⟩ := d18 hk
      have s1 := fun l => (ra.ft.app l).str
      have s2 := fun l => (ra.fp.app l).str
      have s3 := fun l => (hz l).ft.str
      have s4 := fun l => (hz l).fp.str
      have s5 := fun l => (rc.t.app l).str
      have s6 := fun l => (rc.p.app l).str
      have ff := And.intro g0 (And.intro g1 (And.intro g2 (And.intro ta (And.intro tc (And.intro tu (And.intro hk (And.intro e1 (And.intro e2 (And.intro e3 (And.intro s1 (And.intro s2 (And.intro s3 (And.intro s4 (And.intro s5 s6))))))))))))))
      refine runRp21_4 (x := ?_)
      clear ff
      rfl
end Go.Vab
