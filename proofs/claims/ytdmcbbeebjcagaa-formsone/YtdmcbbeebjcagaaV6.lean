/-
  forms.SameAction and 'large', walked.
-/
import Derived.Test.YtdmcbbeebjcagaaV5
import Derived.Test.YtdmcbbeebjcagaaV3
import Derived.Test.YtdmcbbeebjcagaaV4
import Derived.Lib.Bytealg
import Derived.Laws.Externs
import Derived.DeepKeys4
set_option linter.all false
set_option linter.unusedSectionVars false
namespace Go.Vab
open Go Go.Proofs

theorem c10 {h : Heap} {a b : Actn} {at_ ap bt bp : AV} (ra : ActR h a at_ ap) (rb : ActR h b bt bp) :
    SpecQ Try.prog 10 [eAct a at_ ap, eAct b bt bp] h fun r => r = (.bool (decide (a = b)), h) := by
  have ta := ra.cells
  have tb := rb.cells
  refine SpecQ.drop1 rfl (q10 fun env g0 g1 => ?_)
  repeat' (first | ((with_reducible apply evs_of); (focus ((conv => lhs; simp (disch := omega) [g0, g1, ta, tb]); done)); try dsimp only) | ((with_reducible apply gW_do); (focus (simp (disch := omega) [g0, g1, ta, tb]; done))) | ((with_reducible apply gW_no); (focus (simp (disch := omega) [g0, g1, ta, tb]; done)); try dsimp only) | ((with_reducible apply gW_un); (focus (simp (disch := omega) [g0, g1, ta, tb]; done)); try dsimp only) | (with_reducible refine SpecQ.step (c23 (ra.t.app _) (rb.t.app _)) ?_; rintro _ rfl; try dsimp only) | (with_reducible refine SpecQ.step (c23 (ra.p.app _) (rb.p.app _)) ?_; rintro _ rfl; try dsimp only) | ((with_reducible apply SpecA_i); (focus ((conv => lhs; simp (disch := omega) [g0, g1, ta, tb]); done))) | (simp (decide := true) only [sn10, sqW_nrm, sqW_exit, sqW_ret, inBlk_nrm, inBlk_ret, inBlk_same, inBlk_exit, if_true, if_false, retW_nrm, retW_ret]) | (with_reducible refine gv_split ?_ ?_ <;> (intro hb; try simp only [Bool.not_true, Bool.not_false] at hb) <;> try simp only [hb]) | (with_reducible refine gW_split ?_ ?_ <;> (intro hb; try simp only [Bool.not_true, Bool.not_false] at hb) <;> try simp only [hb]))
  all_goals refine fin_b ?_
  all_goals (clear ra rb ta tb; cases a; cases b; simp_all)

def largeS (s : Stt) : Bool := decide (400 < s.seats.length + s.invites.length + s.asks.length + s.bans.length) || decide (5000 < s.title.length) || decide (5000 < s.pass.length)
theorem c6 {h : Heap} {a : Stt} {at_ ap as_ ai aa ab : AV} (ra : StR h a at_ ap as_ ai aa ab) :
    SpecQ Try.prog 6 [eSt a at_ ap as_ ai aa ab] h fun r => r = (.bool (largeS a), h) := by
  have ta := ra.cells
  have l1 := ra.ft.len
  have l2 := ra.fp.len
  have l3 := ra.fs.len
  have l4 := ra.fi.len
  have l5 := ra.fa.len
  have l6 := ra.fb.len
  have b3 := ra.fs.bound
  have b4 := ra.fi.bound
  have b5 := ra.fa.bound
  have b6 := ra.fb.bound
  simp only [List.length_map] at l3 l4 l5 l6 b3 b4 b5 b6
  refine SpecQ.drop1 rfl (q6 fun env g0 => ?_)
  repeat' (first | ((with_reducible apply evs_of); (focus ((conv => lhs; simp (disch := omega) [g0, ta, l1, l2, l3, l4, l5, l6]); done)); try dsimp only) | (simp (decide := true) only [sn6, sqW_nrm, sqW_exit, sqW_ret, inBlk_nrm, inBlk_ret, inBlk_same, inBlk_exit, if_true, if_false, retW_nrm, retW_ret]) | (with_reducible refine gv_split ?_ ?_ <;> (intro hb; try simp only [Bool.not_true, Bool.not_false] at hb) <;> try simp only [hb]))
  all_goals refine fin_b ?_
  all_goals (clear ra ta l1 l2 l3 l4 l5 l6; unfold largeS; rw [Bool.eq_iff_iff]; simp only [Bool.or_eq_true, decide_eq_true_eq, decide_eq_false_iff_not, reduceCtorEq, false_iff, true_iff] at *; omega)

end Go.Vab

/- How the code of a function is read. Printed by wip/tools/gen2.py (own work). -/
namespace Go.Vab
open Go Go.Proofs
/-! vestry/vestrylaw18.FormsOne -/
def cx5 : Ctx := ⟨fun _ _ _ => none, TT, 99, [17, 18, 19, 20, 21, 22, 23, 24, 25, 26, 27, 28, 29, 30, 31, 32, 33, 34, 35, 36, 37, 38, 39, 41, 42, 43, 44, 45, 46, 47, 48, 49, 50, 51, 52, 53, 54, 55, 56, 57, 58, 59, 60, 61, 62, 63, 64, 65, 66, 67, 68, 69, 70, 71, 72, 73, 74, 75, 76, 77, 79, 80, 81, 82, 83, 84, 85, 86, 87, 88, 89, 90, 91, 92, 93, 94, 95, 96, 97, 98]⟩
noncomputable def n5_0 : Code := bodyOf Try.f5
noncomputable def n5_1 : Code := cR n5_0
noncomputable def n5_2 : Code := cL n5_1
noncomputable def n5_3 : Code := cR n5_2
noncomputable def n5_4 : Code := cL n5_3
noncomputable def n5_5 : Code := cR n5_4
noncomputable def n5_6 : Code := cR n5_3
noncomputable def n5_7 : Code := cR n5_1
noncomputable def n5_8 : Code := cR n5_7
noncomputable def n5_9 : Code := cR n5_8
noncomputable def n5_10 : Code := cR n5_9
noncomputable def n5_11 : Code := cR n5_10
noncomputable def n5_12 : Code := cL n5_11
noncomputable def n5_13 : Code := cR n5_12
noncomputable def n5_14 : Code := cL n5_13
noncomputable def n5_15 : Code := cR n5_14
noncomputable def n5_16 : Code := cR n5_13
noncomputable def n5_17 : Code := cR n5_11
noncomputable def n5_18 : Code := cR n5_17
theorem n5_5_eq (Q : Ex × St → Prop) (s : St) : wC Try.prog cx5 n5_5 Q s = Q (.ret, s) := yE
theorem n5_4_eq (Q : Ex × St → Prop) (env : Env) (h : Heap) : wC Try.prog cx5 n5_4 Q ⟨env, h⟩ = (SpecA Try.prog 7 [] h fun r0 => wC Try.prog cx5 n5_5 Q ⟨(Env.put env 8 r0.1), r0.2⟩) := (ySR 2 (cOps (cL n5_4)) (cR n5_4)).trans (by
  refine w0 ?_
  refine wH 41 fun r0 => ?_
  refine wT 8 r0.1 ?_
  exact wE)
theorem n5_6_eq (Q : Ex × St → Prop) (s : St) : wC Try.prog cx5 n5_6 Q s = Q (.nrm, s) := yK
theorem n5_3_eq (Q : Ex × St → Prop) (s : St) : wC Try.prog cx5 n5_3 Q s = cndW (s.env.get 40) (wL Try.prog cx5 n5_4 Q s) (wL Try.prog cx5 n5_6 Q s) := yC 40 _ _
theorem n5_2_eq (Q : Ex × St → Prop) (env : Env) (h : Heap) : wC Try.prog cx5 n5_2 Q ⟨env, h⟩ = (Evs (mLoad tState (env.get 4) h) fun v0 => SpecA Try.prog 6 [v0] h fun r1 => Evs (gv r1.1 false (mLoad tState (env.get 5) r1.2)) fun v3 => gW r1.1 false (SpecA Try.prog 6 [v3] r1.2) r1.2 fun r4 => Evs (mPick r1.1 (.bool true) r4.1) fun v5 => Evs (gv v5 false (mFieldAddr tAction (env.get 6) 5)) fun v7 => Evs (gv v5 false (mLoad .cell v7 r4.2)) fun v8 => Evs (gv v5 false (mLenS v8)) fun v9 => Evs (gv v5 false (mFieldAddr tAction (env.get 6) 7)) fun v10 => Evs (gv v5 false (mLoad .cell v10 r4.2)) fun v11 => Evs (gv v5 false (mLenS v11)) fun v12 => Evs (gv v5 false (mBin .add v9 v12)) fun v13 => Evs (gv v5 false (mFieldAddr tAction (env.get 7) 5)) fun v14 => Evs (gv v5 false (mLoad .cell v14 r4.2)) fun v15 => Evs (gv v5 false (mLenS v15)) fun v16 => Evs (gv v5 false (mBin .add v13 v16)) fun v17 => Evs (gv v5 false (mFieldAddr tAction (env.get 7) 7)) fun v18 => Evs (gv v5 false (mLoad .cell v18 r4.2)) fun v19 => Evs (gv v5 false (mLenS v19)) fun v20 => Evs (gv v5 false (mBin .add v17 v20)) fun v21 => Evs (gv v5 false (mBin .gtr v21 (nat 20000))) fun v22 => Evs (mPick v5 (.bool true) v22) fun v23 => wC Try.prog cx5 n5_3 Q ⟨(Env.put env 40 v23), r4.2⟩) := (ySR 1 (cOps (cL n5_2)) (cR n5_2)).trans (by
  refine w0 ?_
  refine wP 17 fun v0 => ?_
  refine wH 18 fun r1 => ?_
  refine wT 19 r1.1 ?_
  refine wG 20 fun v3 => ?_
  refine wH 21 fun r4 => ?_
  refine wP 22 fun v5 => ?_
  refine wT 23 v5 ?_
  refine wG 24 fun v7 => ?_
  refine wG 25 fun v8 => ?_
  refine wG 26 fun v9 => ?_
  refine wG 27 fun v10 => ?_
  refine wG 28 fun v11 => ?_
  refine wG 29 fun v12 => ?_
  refine wG 30 fun v13 => ?_
  refine wG 31 fun v14 => ?_
  refine wG 32 fun v15 => ?_
  refine wG 33 fun v16 => ?_
  refine wG 34 fun v17 => ?_
  refine wG 35 fun v18 => ?_
  refine wG 36 fun v19 => ?_
  refine wG 37 fun v20 => ?_
  refine wG 38 fun v21 => ?_
  refine wG 39 fun v22 => ?_
  refine wP 40 fun v23 => ?_
  exact wE)
theorem n5_15_eq (Q : Ex × St → Prop) (s : St) : wC Try.prog cx5 n5_15 Q s = Q (.ret, s) := yE
theorem n5_14_eq (Q : Ex × St → Prop) (env : Env) (h : Heap) : wC Try.prog cx5 n5_14 Q ⟨env, h⟩ = ( wC Try.prog cx5 n5_15 Q ⟨(Env.put env 8 (.bool false)), h⟩) := (ySR 8 (cOps (cL n5_14)) (cR n5_14)).trans (by
  refine w0 ?_
  refine wT 8 (.bool false) ?_
  exact wE)
theorem n5_16_eq (Q : Ex × St → Prop) (s : St) : wC Try.prog cx5 n5_16 Q s = Q (.nrm, s) := yK
theorem n5_13_eq (Q : Ex × St → Prop) (s : St) : wC Try.prog cx5 n5_13 Q s = cndW (s.env.get 78) (wL Try.prog cx5 n5_14 Q s) (wL Try.prog cx5 n5_16 Q s) := yC 78 _ _
theorem n5_12_ok : treeOk (cOps (cL n5_12)).toList [] [0, 1, 3, 7, 15, 31, 63, 127, 255, 127, 639, 2047, 127, 127, 12415, 32767, 65535] = true := by kernel_rfl
theorem n5_12_w (Q : Ex × St → Prop) (env : Env) (h : Heap) (H : Evs (mBin .eql (env.get 10) (nat 0)) fun v1_1 => Evs (gv v1_1 true (some (env.get 12))) fun v3_2 => Evs (gv v1_1 true (mBin .eql v3_2 (nat 0))) fun v4_3 => Evs (mPick v1_1 v4_3 (.bool false)) fun v5_4 => Evs (gv v5_4 true (some (env.get 9))) fun v7_5 => Evs (gv v5_4 true (mStr v7_5 h)) fun v8_6 => Evs (gv v5_4 true (some (env.get 11))) fun v9_7 => Evs (gv v5_4 true (mStr v9_7 h)) fun v10_8 => Evs (gv v5_4 true (mBinT .eql v8_6 v10_8)) fun v11_9 => Evs (gv v5_4 true (mLoad tState (env.get 4) h)) fun v12_10 => Evs (gv v5_4 true (mLoad tState (env.get 5) h)) fun v13_11 => ValW (gW v5_4 true (SpecA Try.prog 9 [v12_10, v13_11] h) h) h fun v14_12 => Evs (gv v5_4 true (mBinB .neq v11_9 v14_12)) fun v15_13 => Evs (mPick v5_4 v15_13 (.bool false)) fun v16_14 => wC Try.prog cx5 n5_13 Q ⟨(Env.put env 78 v16_14), h⟩) : wC Try.prog cx5 n5_12 Q ⟨env, h⟩ := by
  refine ySD 7 (cOps (cL n5_12)) (cR n5_12) [] [0, 1, 3, 7, 15, 31, 63, 127, 255, 127, 639, 2047, 127, 127, 12415, 32767, 65535] [0, 1, 2, 3, 4, 5, 6, 7, 8, 9, 10, 11, 12, 13, 14, 15, 16] n5_12_ok ?_
  refine rT 62 (env.get 10) ?_
  refine rP H 63 fun v1_1 H => ?_
  refine rT 64 v1_1 ?_
  refine rG H 65 fun v3_2 H => ?_
  refine rG H 66 fun v4_3 H => ?_
  refine rP H 67 fun v5_4 H => ?_
  refine rT 68 v5_4 ?_
  refine rG H 69 fun v7_5 H => ?_
  refine rG H 70 fun v8_6 H => ?_
  refine rG H 71 fun v9_7 H => ?_
  refine rG H 72 fun v10_8 H => ?_
  refine rG H 73 fun v11_9 H => ?_
  refine rG H 74 fun v12_10 H => ?_
  refine rG H 75 fun v13_11 H => ?_
  refine rF H 76 (fun v14_12 H => ?_)
  refine rG H 77 fun v15_13 H => ?_
  refine rP H 78 fun v16_14 H => ?_
  refine rE ?_
  exact tE H
theorem n5_18_eq (Q : Ex × St → Prop) (s : St) : wC Try.prog cx5 n5_18 Q s = Q (.ret, s) := yE
theorem n5_17_ok : treeOk (cOps (cL n5_17)).toList [] [0, 1, 3, 7, 15, 31, 63, 127, 255, 127, 639, 2047, 127, 127, 12415, 32767, 65535, 131071, 262143, 524287, 1048575] = true := by kernel_rfl
theorem n5_17_w (Q : Ex × St → Prop) (env : Env) (h : Heap) (H : Evs (mBin .neq (env.get 14) (nat 0)) fun v1_1 => Evs (gv v1_1 false (some (env.get 16))) fun v3_2 => Evs (gv v1_1 false (mBin .neq v3_2 (nat 0))) fun v4_3 => Evs (mPick v1_1 (.bool true) v4_3) fun v5_4 => Evs (gv v5_4 false (some (env.get 13))) fun v7_5 => Evs (gv v5_4 false (mStr v7_5 h)) fun v8_6 => Evs (gv v5_4 false (some (env.get 15))) fun v9_7 => Evs (gv v5_4 false (mStr v9_7 h)) fun v10_8 => Evs (gv v5_4 false (mBinT .eql v8_6 v10_8)) fun v11_9 => Evs (gv v5_4 false (mLoad tAction (env.get 6) h)) fun v12_10 => Evs (gv v5_4 false (mLoad tAction (env.get 7) h)) fun v13_11 => ValW (gW v5_4 false (SpecA Try.prog 11 [v12_10, v13_11] h) h) h fun v14_12 => Evs (gv v5_4 false (mBinB .eql v11_9 v14_12)) fun v15_13 => Evs (mPick v5_4 (.bool true) v15_13) fun v16_14 => ValW (gW v16_14 true (SpecA Try.prog 7 [] h) h) h fun v18_15 => Evs (mPick v16_14 v18_15 (.bool false)) fun v19_16 => wC Try.prog cx5 n5_18 Q ⟨(Env.put env 8 v19_16), h⟩) : wC Try.prog cx5 n5_17 Q ⟨env, h⟩ := by
  refine ySD 9 (cOps (cL n5_17)) (cR n5_17) [] [0, 1, 3, 7, 15, 31, 63, 127, 255, 127, 639, 2047, 127, 127, 12415, 32767, 65535, 131071, 262143, 524287, 1048575] [0, 1, 2, 3, 4, 5, 6, 7, 8, 9, 10, 11, 12, 13, 14, 15, 16, 17, 18, 19, 20] n5_17_ok ?_
  refine rT 79 (env.get 14) ?_
  refine rP H 80 fun v1_1 H => ?_
  refine rT 81 v1_1 ?_
  refine rG H 82 fun v3_2 H => ?_
  refine rG H 83 fun v4_3 H => ?_
  refine rP H 84 fun v5_4 H => ?_
  refine rT 85 v5_4 ?_
  refine rG H 86 fun v7_5 H => ?_
  refine rG H 87 fun v8_6 H => ?_
  refine rG H 88 fun v9_7 H => ?_
  refine rG H 89 fun v10_8 H => ?_
  refine rG H 90 fun v11_9 H => ?_
  refine rG H 91 fun v12_10 H => ?_
  refine rG H 92 fun v13_11 H => ?_
  refine rF H 93 (fun v14_12 H => ?_)
  refine rG H 94 fun v15_13 H => ?_
  refine rP H 95 fun v16_14 H => ?_
  refine rT 96 v16_14 ?_
  refine rF H 97 (fun v18_15 H => ?_)
  refine rP H 98 fun v19_16 H => ?_
  refine rT 8 v19_16 ?_
  refine rE ?_
  exact tE H
theorem n5_11_eq (Q : Ex × St → Prop) (s : St) : wC Try.prog cx5 n5_11 Q s = wC Try.prog cx5 n5_12 (sqW (wC Try.prog cx5 n5_17) Q) s := yS _ _
theorem n5_10_eq (Q : Ex × St → Prop) (env : Env) (h : Heap) : wC Try.prog cx5 n5_10 Q ⟨env, h⟩ = (Evs (mLoad tAction (env.get 7) h) fun v0 => SpecA Try.prog 22 [v0] h fun r1 => Evs (mExtract r1.1 0) fun v3 => Evs (mExtract r1.1 1) fun v4 => wC Try.prog cx5 n5_11 Q ⟨(Env.put (Env.put env 15 v3) 16 v4), r1.2⟩) := (ySR 6 (cOps (cL n5_10)) (cR n5_10)).trans (by
  refine w0 ?_
  refine wP 58 fun v0 => ?_
  refine wH 59 fun r1 => ?_
  refine wT 57 r1.1 ?_
  refine wP 60 fun v3 => ?_
  refine wP 61 fun v4 => ?_
  refine wT 15 v3 ?_
  refine wT 16 v4 ?_
  exact wE)
theorem n5_9_eq (Q : Ex × St → Prop) (env : Env) (h : Heap) : wC Try.prog cx5 n5_9 Q ⟨env, h⟩ = (Evs (mLoad tAction (env.get 6) h) fun v0 => SpecA Try.prog 22 [v0] h fun r1 => Evs (mExtract r1.1 0) fun v3 => Evs (mExtract r1.1 1) fun v4 => wC Try.prog cx5 n5_10 Q ⟨(Env.put (Env.put env 13 v3) 14 v4), r1.2⟩) := (ySR 5 (cOps (cL n5_9)) (cR n5_9)).trans (by
  refine w0 ?_
  refine wP 53 fun v0 => ?_
  refine wH 54 fun r1 => ?_
  refine wT 52 r1.1 ?_
  refine wP 55 fun v3 => ?_
  refine wP 56 fun v4 => ?_
  refine wT 13 v3 ?_
  refine wT 14 v4 ?_
  exact wE)
theorem n5_8_eq (Q : Ex × St → Prop) (env : Env) (h : Heap) : wC Try.prog cx5 n5_8 Q ⟨env, h⟩ = (Evs (mLoad tState (env.get 5) h) fun v0 => SpecA Try.prog 21 [v0] h fun r1 => Evs (mExtract r1.1 0) fun v3 => Evs (mExtract r1.1 1) fun v4 => wC Try.prog cx5 n5_9 Q ⟨(Env.put (Env.put env 11 v3) 12 v4), r1.2⟩) := (ySR 4 (cOps (cL n5_8)) (cR n5_8)).trans (by
  refine w0 ?_
  refine wP 48 fun v0 => ?_
  refine wH 49 fun r1 => ?_
  refine wT 47 r1.1 ?_
  refine wP 50 fun v3 => ?_
  refine wP 51 fun v4 => ?_
  refine wT 11 v3 ?_
  refine wT 12 v4 ?_
  exact wE)
theorem n5_7_eq (Q : Ex × St → Prop) (env : Env) (h : Heap) : wC Try.prog cx5 n5_7 Q ⟨env, h⟩ = (Evs (mLoad tState (env.get 4) h) fun v0 => SpecA Try.prog 21 [v0] h fun r1 => Evs (mExtract r1.1 0) fun v3 => Evs (mExtract r1.1 1) fun v4 => wC Try.prog cx5 n5_8 Q ⟨(Env.put (Env.put env 9 v3) 10 v4), r1.2⟩) := (ySR 3 (cOps (cL n5_7)) (cR n5_7)).trans (by
  refine w0 ?_
  refine wP 43 fun v0 => ?_
  refine wH 44 fun r1 => ?_
  refine wT 42 r1.1 ?_
  refine wP 45 fun v3 => ?_
  refine wP 46 fun v4 => ?_
  refine wT 9 v3 ?_
  refine wT 10 v4 ?_
  exact wE)
theorem n5_1_eq (Q : Ex × St → Prop) (s : St) : wC Try.prog cx5 n5_1 Q s = wC Try.prog cx5 n5_2 (sqW (wC Try.prog cx5 n5_7) Q) s := yS _ _
theorem n5_0_eq (Q : Ex × St → Prop) (env : Env) (h : Heap) : wC Try.prog cx5 n5_0 Q ⟨env, h⟩ = (Evs (mNew tState (env.get 0) h) fun r0 => Evs (mNew tState (env.get 1) r0.2) fun r1 => Evs (mNew tAction (env.get 2) r1.2) fun r2 => Evs (mNew tAction (env.get 3) r2.2) fun r3 => wC Try.prog cx5 n5_1 Q ⟨(Env.put (Env.put (Env.put (Env.put (Env.put env 4 r0.1) 5 r1.1) 6 r2.1) 7 r3.1) 8 (.bool false)), r3.2⟩) := (ySR 0 (cOps (cL n5_0)) (cR n5_0)).trans (by
  refine w0 ?_
  refine wH 4 fun r0 => ?_
  refine wH 5 fun r1 => ?_
  refine wH 6 fun r2 => ?_
  refine wH 7 fun r3 => ?_
  refine wT 8 (.bool false) ?_
  exact wE)
theorem fn5 : Try.prog.funcs[5]? = some Try.f5 := by kernel_rfl
theorem q5 {a0 a1 a2 a3 : AV} {h : Heap} {K : AV × Heap → Prop} (H : ∀ env : Env, env.get 0 = a0 → env.get 1 = a1 → env.get 2 = a2 → env.get 3 = a3 → wC Try.prog cx5 n5_0 (retW (fun s => (bnd (some (s.env.get 8)) fun v => bnd (some []) fun vs => some (v :: vs))) K) ⟨env, h⟩) : SpecQ Try.prog 5 [a0, a1, a2, a3] h K :=
  bodyW_sound (C := cx5) TT_ok mixed_ok fn5 (by kernel_rfl) (show _ = some n5_0 by kernel_rfl) (by kernel_rfl) (by kernel_rfl) (of_decide_eq_true (by kernel_rfl)) ((show wC Try.prog cx5 n5_0 (retW (fun s => resAll cx5 s Try.f5.results.toList) K) ⟨env0 cx5 [a0, a1, a2, a3], h⟩ = wC Try.prog cx5 n5_0 (retW (fun s => (bnd (some (s.env.get 8)) fun v => bnd (some []) fun vs => some (v :: vs))) K) ⟨[(0, a0), (1, a1), (2, a2), (3, a3), (4, .junk), (5, .junk), (6, .junk), (7, .junk), (8, .junk), (9, .junk), (10, .junk), (11, .junk), (12, .junk), (13, .junk), (14, .junk), (15, .junk), (16, .junk), (40, .junk), (78, .junk)], h⟩ by kernel_rfl).mpr (H [(0, a0), (1, a1), (2, a2), (3, a3), (4, .junk), (5, .junk), (6, .junk), (7, .junk), (8, .junk), (9, .junk), (10, .junk), (11, .junk), (12, .junk), (13, .junk), (14, .junk), (15, .junk), (16, .junk), (40, .junk), (78, .junk)] rfl rfl rfl rfl))
def sn5 := And.intro n5_5_eq (And.intro n5_4_eq (And.intro n5_6_eq (And.intro n5_3_eq (And.intro n5_2_eq (And.intro n5_15_eq (And.intro n5_14_eq (And.intro n5_16_eq (And.intro n5_13_eq (And.intro n5_18_eq (And.intro n5_11_eq (And.intro n5_10_eq (And.intro n5_9_eq (And.intro n5_8_eq (And.intro n5_7_eq (And.intro n5_1_eq (n5_0_eq))))))))))))))))
-- draws: n5_12 n5_17
end Go.Vab

/-
  FormsOne, walked.
-/
namespace Go.Vab
open Go Go.Proofs

/-- A form, or none. -/
def OutK (h : Heap) (p : Prop) (l0 : Bs) (r : AV × Heap) : Prop := ∃ y k l t, r = (.tuple [y, nat k], h ++ t) ∧ BytL (h ++ t) y l ∧ ((k = 0 ∧ p ∧ l = l0) ∨ k = 2)
theorem s21 (hM : MayS Try.prog 37) {h : Heap} {a : Stt} {vt vp vs vi va vb : AV} (ra : StR h a vt vp vs vi va vb) : SpecQ Try.prog 21 [eSt a vt vp vs vi va vb] h (OutK h (slimS a) (stB a)) :=
  (c21 hM ra).mono fun r hr => by
    rcases hr with ⟨t, rfl⟩ | ⟨hs, y, t, rfl, hy⟩
    · exact ⟨_, 2, [], t, rfl, BytL.nil _, .inr rfl⟩
    · exact ⟨y, 0, _, t, rfl, hy, .inl ⟨rfl, hs, rfl⟩⟩
theorem s22 {h : Heap} {a : Actn} {vt vp : AV} (ra : ActR h a vt vp) : SpecQ Try.prog 22 [eAct a vt vp] h (OutK h (mayA a = true) (actB a)) := by
  cases hm : mayA a
  · exact (c22n ra hm).mono fun r hr => ⟨_, 2, [], [], by rw [hr, List.append_nil], BytL.nil _, .inr rfl⟩
  · exact (c22 ra hm).mono fun r ⟨y, t, e, hy⟩ => ⟨y, 0, _, t, e, hy, .inl ⟨rfl, rfl, rfl⟩⟩

set_option maxHeartbeats 8000000 in
set_option maxRecDepth 20000 in
theorem c5 (hM : MayS Try.prog 37) {h : Heap} {a b : Stt} {c d : Actn} {at_ ap as_ ai aa ab bt bp bs bi ba bb ct cp dt dp : AV} (ra : StR h a at_ ap as_ ai aa ab) (rb : StR h b bt bp bs bi ba bb) (rc : ActR h c ct cp) (rd : ActR h d dt dp) :
    SpecQ Try.prog 5 [eSt a at_ ap as_ ai aa ab, eSt b bt bp bs bi ba bb, eAct c ct cp, eAct d dt dp] h fun r => r.1 = .bool true := by
  have ta := ra.cells
  have tb := rb.cells
  have tc := rc.cells
  have td := rd.cells
  have l1 := rc.t.len
  have l2 := rc.p.len
  have l3 := rd.t.len
  have l4 := rd.p.len
  have m1 := rc.t.bound
  have m2 := rc.p.bound
  have m3 := rd.t.bound
  have m4 := rd.p.bound
  refine q5 fun env g0 g1 g2 g3 => ?_
  repeat' (first | ((with_reducible apply evs_of); (focus ((conv => lhs; simp (disch := omega) [g0, g1, g2, g3, ta, tb, tc, td, l1, l2, l3, l4]); done)); try dsimp only) | ((with_reducible apply gW_do); (focus (simp (disch := omega) [g0, g1, g2, g3, ta, tb, tc, td, l1, l2, l3, l4]; done))) | ((with_reducible apply gW_no); (focus (simp (disch := omega) [g0, g1, g2, g3, ta, tb, tc, td, l1, l2, l3, l4]; done)); try dsimp only) | ((with_reducible apply gW_un); (focus (simp (disch := omega) [g0, g1, g2, g3, ta, tb, tc, td, l1, l2, l3, l4]; done)); try dsimp only) | ((with_reducible apply cndW_T); (focus (simp (disch := omega) [g0, g1, g2, g3, ta, tb, tc, td, l1, l2, l3, l4] <;> omega))) | ((with_reducible apply cndW_F); (focus (simp (disch := omega) [g0, g1, g2, g3, ta, tb, tc, td, l1, l2, l3, l4] <;> omega))) | (with_reducible apply wL_i) | ((with_reducible apply ValW_do); (focus (simp (disch := omega) [g0, g1, g2, g3, ta, tb, tc, td, l1, l2, l3, l4]; done)); try dsimp only) | ((with_reducible apply ValW_no); (focus (simp (disch := omega) [g0, g1, g2, g3, ta, tb, tc, td, l1, l2, l3, l4]; done)); try dsimp only) | ((with_reducible apply ValW_un); (focus (simp (disch := omega) [g0, g1, g2, g3, ta, tb, tc, td, l1, l2, l3, l4]; done)); try dsimp only) | (with_reducible refine ValW_i (c6 (ra.app _)) ?_; try dsimp only) | (with_reducible refine SpecQ.step (c6 (ra.app _)) ?_; rintro _ rfl; try dsimp only) | (with_reducible refine ValW_i (c6 (rb.app _)) ?_; try dsimp only) | (with_reducible refine SpecQ.step (c6 (rb.app _)) ?_; rintro _ rfl; try dsimp only) | (with_reducible refine ValW_i (c7) ?_; try dsimp only) | (with_reducible refine SpecQ.step (c7) ?_; rintro _ rfl; try dsimp only) | ((with_reducible apply SpecA_i); (focus ((conv => lhs; simp (disch := omega) [g0, g1, g2, g3, ta, tb, tc, td, l1, l2, l3, l4]); done))) | ((with_reducible apply ValA_i); (focus ((conv => lhs; simp (disch := omega) [g0, g1, g2, g3, ta, tb, tc, td, l1, l2, l3, l4]); done))) | ((with_reducible apply ValA_fn); (focus ((conv => lhs; simp (disch := omega) [g0, g1, g2, g3, ta, tb, tc, td, l1, l2, l3, l4]); done))) | (simp (decide := true) only [sn5, sqW_nrm, sqW_exit, sqW_ret, inBlk_nrm, inBlk_ret, inBlk_same, inBlk_exit, if_true, if_false, retW_nrm, retW_ret]) | (with_reducible refine n5_12_w _ _ _ ?_) | (with_reducible refine n5_17_w _ _ _ ?_) | ((with_reducible apply cndW_splitE); (focus ((conv => lhs; simp (disch := omega) [g0, g1, g2, g3, ta, tb, tc, td, l1, l2, l3, l4]); done)); all_goals ((intro hb; try simp only [Bool.not_true, Bool.not_false] at hb); try simp only [hb])) | (with_reducible refine gv_split ?_ ?_ <;> (intro hb; try simp only [Bool.not_true, Bool.not_false] at hb) <;> try simp only [hb]) | (with_reducible refine gW_split ?_ ?_ <;> (intro hb; try simp only [Bool.not_true, Bool.not_false] at hb) <;> try simp only [hb]) | (with_reducible refine cndW_split ?_ ?_ <;> (intro hb; try simp only [Bool.not_true, Bool.not_false] at hb) <;> try simp only [hb]) | (with_reducible refine ValW_split ?_ ?_ <;> (intro hb; try simp only [Bool.not_true, Bool.not_false] at hb) <;> try simp only [hb]))
  all_goals try (simp only [oneOrTuple]; done)
  refine SpecQ.step (s21 hM (ra.app _)) ?_
  rintro ⟨v, h2⟩ ⟨y1, k1, w1, t1, e, z1, q1⟩
  cases e
  simp only [List.append_assoc] at z1 ⊢
  repeat' (first | ((with_reducible apply evs_of); (focus ((conv => lhs; simp (disch := omega) [g0, g1, g2, g3, ta, tb, tc, td, List.append_assoc]); done)); try dsimp only) | ((with_reducible apply gW_do); (focus (simp (disch := omega) [g0, g1, g2, g3, ta, tb, tc, td, List.append_assoc]; done))) | ((with_reducible apply gW_no); (focus (simp (disch := omega) [g0, g1, g2, g3, ta, tb, tc, td, List.append_assoc]; done)); try dsimp only) | ((with_reducible apply gW_un); (focus (simp (disch := omega) [g0, g1, g2, g3, ta, tb, tc, td, List.append_assoc]; done)); try dsimp only) | ((with_reducible apply cndW_T); (focus (simp (disch := omega) [g0, g1, g2, g3, ta, tb, tc, td, List.append_assoc] <;> omega))) | ((with_reducible apply cndW_F); (focus (simp (disch := omega) [g0, g1, g2, g3, ta, tb, tc, td, List.append_assoc] <;> omega))) | (with_reducible apply wL_i) | ((with_reducible apply ValW_do); (focus (simp (disch := omega) [g0, g1, g2, g3, ta, tb, tc, td, List.append_assoc]; done)); try dsimp only) | ((with_reducible apply ValW_no); (focus (simp (disch := omega) [g0, g1, g2, g3, ta, tb, tc, td, List.append_assoc]; done)); try dsimp only) | ((with_reducible apply ValW_un); (focus (simp (disch := omega) [g0, g1, g2, g3, ta, tb, tc, td, List.append_assoc]; done)); try dsimp only) | ((with_reducible apply SpecA_i); (focus ((conv => lhs; simp (disch := omega) [g0, g1, g2, g3, ta, tb, tc, td, List.append_assoc]); done))) | ((with_reducible apply ValA_i); (focus ((conv => lhs; simp (disch := omega) [g0, g1, g2, g3, ta, tb, tc, td, List.append_assoc]); done))) | ((with_reducible apply ValA_fn); (focus ((conv => lhs; simp (disch := omega) [g0, g1, g2, g3, ta, tb, tc, td, List.append_assoc]); done))) | (simp (decide := true) only [sn5, sqW_nrm, sqW_exit, sqW_ret, inBlk_nrm, inBlk_ret, inBlk_same, inBlk_exit, if_true, if_false, retW_nrm, retW_ret]) | (with_reducible refine n5_12_w _ _ _ ?_) | (with_reducible refine n5_17_w _ _ _ ?_))
  refine SpecQ.step (s21 hM (rb.app _)) ?_
  rintro ⟨v, h2⟩ ⟨y2, k2, w2, t2, e, z2, q2⟩
  cases e
  simp only [List.append_assoc] at z2 ⊢
  repeat' (first | ((with_reducible apply evs_of); (focus ((conv => lhs; simp (disch := omega) [g0, g1, g2, g3, ta, tb, tc, td, List.append_assoc]); done)); try dsimp only) | ((with_reducible apply gW_do); (focus (simp (disch := omega) [g0, g1, g2, g3, ta, tb, tc, td, List.append_assoc]; done))) | ((with_reducible apply gW_no); (focus (simp (disch := omega) [g0, g1, g2, g3, ta, tb, tc, td, List.append_assoc]; done)); try dsimp only) | ((with_reducible apply gW_un); (focus (simp (disch := omega) [g0, g1, g2, g3, ta, tb, tc, td, List.append_assoc]; done)); try dsimp only) | ((with_reducible apply cndW_T); (focus (simp (disch := omega) [g0, g1, g2, g3, ta, tb, tc, td, List.append_assoc] <;> omega))) | ((with_reducible apply cndW_F); (focus (simp (disch := omega) [g0, g1, g2, g3, ta, tb, tc, td, List.append_assoc] <;> omega))) | (with_reducible apply wL_i) | ((with_reducible apply ValW_do); (focus (simp (disch := omega) [g0, g1, g2, g3, ta, tb, tc, td, List.append_assoc]; done)); try dsimp only) | ((with_reducible apply ValW_no); (focus (simp (disch := omega) [g0, g1, g2, g3, ta, tb, tc, td, List.append_assoc]; done)); try dsimp only) | ((with_reducible apply ValW_un); (focus (simp (disch := omega) [g0, g1, g2, g3, ta, tb, tc, td, List.append_assoc]; done)); try dsimp only) | ((with_reducible apply SpecA_i); (focus ((conv => lhs; simp (disch := omega) [g0, g1, g2, g3, ta, tb, tc, td, List.append_assoc]); done))) | ((with_reducible apply ValA_i); (focus ((conv => lhs; simp (disch := omega) [g0, g1, g2, g3, ta, tb, tc, td, List.append_assoc]); done))) | ((with_reducible apply ValA_fn); (focus ((conv => lhs; simp (disch := omega) [g0, g1, g2, g3, ta, tb, tc, td, List.append_assoc]); done))) | (simp (decide := true) only [sn5, sqW_nrm, sqW_exit, sqW_ret, inBlk_nrm, inBlk_ret, inBlk_same, inBlk_exit, if_true, if_false, retW_nrm, retW_ret]) | (with_reducible refine n5_12_w _ _ _ ?_) | (with_reducible refine n5_17_w _ _ _ ?_))
  refine SpecQ.step (s22 (rc.app _)) ?_
  rintro ⟨v, h2⟩ ⟨y3, k3, w3, t3, e, z3, q3⟩
  cases e
  simp only [List.append_assoc] at z3 ⊢
  repeat' (first | ((with_reducible apply evs_of); (focus ((conv => lhs; simp (disch := omega) [g0, g1, g2, g3, ta, tb, tc, td, List.append_assoc]); done)); try dsimp only) | ((with_reducible apply gW_do); (focus (simp (disch := omega) [g0, g1, g2, g3, ta, tb, tc, td, List.append_assoc]; done))) | ((with_reducible apply gW_no); (focus (simp (disch := omega) [g0, g1, g2, g3, ta, tb, tc, td, List.append_assoc]; done)); try dsimp only) | ((with_reducible apply gW_un); (focus (simp (disch := omega) [g0, g1, g2, g3, ta, tb, tc, td, List.append_assoc]; done)); try dsimp only) | ((with_reducible apply cndW_T); (focus (simp (disch := omega) [g0, g1, g2, g3, ta, tb, tc, td, List.append_assoc] <;> omega))) | ((with_reducible apply cndW_F); (focus (simp (disch := omega) [g0, g1, g2, g3, ta, tb, tc, td, List.append_assoc] <;> omega))) | (with_reducible apply wL_i) | ((with_reducible apply ValW_do); (focus (simp (disch := omega) [g0, g1, g2, g3, ta, tb, tc, td, List.append_assoc]; done)); try dsimp only) | ((with_reducible apply ValW_no); (focus (simp (disch := omega) [g0, g1, g2, g3, ta, tb, tc, td, List.append_assoc]; done)); try dsimp only) | ((with_reducible apply ValW_un); (focus (simp (disch := omega) [g0, g1, g2, g3, ta, tb, tc, td, List.append_assoc]; done)); try dsimp only) | ((with_reducible apply SpecA_i); (focus ((conv => lhs; simp (disch := omega) [g0, g1, g2, g3, ta, tb, tc, td, List.append_assoc]); done))) | ((with_reducible apply ValA_i); (focus ((conv => lhs; simp (disch := omega) [g0, g1, g2, g3, ta, tb, tc, td, List.append_assoc]); done))) | ((with_reducible apply ValA_fn); (focus ((conv => lhs; simp (disch := omega) [g0, g1, g2, g3, ta, tb, tc, td, List.append_assoc]); done))) | (simp (decide := true) only [sn5, sqW_nrm, sqW_exit, sqW_ret, inBlk_nrm, inBlk_ret, inBlk_same, inBlk_exit, if_true, if_false, retW_nrm, retW_ret]) | (with_reducible refine n5_12_w _ _ _ ?_) | (with_reducible refine n5_17_w _ _ _ ?_))
  refine SpecQ.step (s22 (rd.app _)) ?_
  rintro ⟨v, h2⟩ ⟨y4, k4, w4, t4, e, z4, q4⟩
  cases e
  simp only [List.append_assoc] at z4 ⊢
  have x1 := (z1.app (t2 ++ (t3 ++ t4))).str
  have x2 := (z2.app (t3 ++ t4)).str
  have x3 := (z3.app t4).str
  have x4 := z4.str
  simp only [List.append_assoc, List.cons_append, List.nil_append] at x1 x2 x3 x4 ⊢
  have hS : (k1 = 0 ∧ k2 = 0 ∧ (w1 = w2) = (a = b)) ∨ (k1 = 2 ∧ True) ∨ (k1 = 0 ∧ k2 = 2 ∧ True) := by
    rcases q1 with ⟨e1, s1, rfl⟩ | e1
    · rcases q2 with ⟨e2, s2, rfl⟩ | e2
      · exact .inl ⟨e1, e2, propext ⟨stB_inj s1 s2, fun e => by rw [e]⟩⟩
      · exact .inr (.inr ⟨e1, e2, trivial⟩)
    · exact .inr (.inl ⟨e1, trivial⟩)
  have hA : (k3 = 0 ∧ k4 = 0 ∧ (w3 = w4) = (c = d)) ∨ (k3 = 2 ∧ True) ∨ (k3 = 0 ∧ k4 = 2 ∧ True) := by
    rcases q3 with ⟨e1, s1, rfl⟩ | e1
    · rcases q4 with ⟨e2, s2, rfl⟩ | e2
      · exact .inl ⟨e1, e2, propext ⟨actB_inj s1 s2, fun e => by rw [e]⟩⟩
      · exact .inr (.inr ⟨e1, e2, trivial⟩)
    · exact .inr (.inl ⟨e1, trivial⟩)
  clear q1 q2 q3 q4 z1 z2 z3 z4 l1 l2 l3 l4 m1 m2 m3 m4
  generalize t1 ++ (t2 ++ (t3 ++ t4)) = T at x1 x2 x3 x4 ⊢
  rcases hS with ⟨rfl, rfl, fS⟩ | ⟨rfl, fS⟩ | ⟨rfl, rfl, fS⟩ <;> rcases hA with ⟨rfl, rfl, fA⟩ | ⟨rfl, fA⟩ | ⟨rfl, rfl, fA⟩
  · repeat' (first | ((with_reducible apply evs_of); (focus ((conv => lhs; simp (disch := omega) [g0, g1, g2, g3, ta, tb, tc, td, x1, x2, x3, x4, fS, fA]); done)); try dsimp only) | ((with_reducible apply gW_do); (focus (simp (disch := omega) [g0, g1, g2, g3, ta, tb, tc, td, x1, x2, x3, x4, fS, fA]; done))) | ((with_reducible apply gW_no); (focus (simp (disch := omega) [g0, g1, g2, g3, ta, tb, tc, td, x1, x2, x3, x4, fS, fA]; done)); try dsimp only) | ((with_reducible apply gW_un); (focus (simp (disch := omega) [g0, g1, g2, g3, ta, tb, tc, td, x1, x2, x3, x4, fS, fA]; done)); try dsimp only) | ((with_reducible apply cndW_T); (focus (simp (disch := omega) [g0, g1, g2, g3, ta, tb, tc, td, x1, x2, x3, x4, fS, fA] <;> omega))) | ((with_reducible apply cndW_F); (focus (simp (disch := omega) [g0, g1, g2, g3, ta, tb, tc, td, x1, x2, x3, x4, fS, fA] <;> omega))) | (with_reducible apply wL_i) | ((with_reducible apply ValW_do); (focus (simp (disch := omega) [g0, g1, g2, g3, ta, tb, tc, td, x1, x2, x3, x4, fS, fA]; done)); try dsimp only) | ((with_reducible apply ValW_no); (focus (simp (disch := omega) [g0, g1, g2, g3, ta, tb, tc, td, x1, x2, x3, x4, fS, fA]; done)); try dsimp only) | ((with_reducible apply ValW_un); (focus (simp (disch := omega) [g0, g1, g2, g3, ta, tb, tc, td, x1, x2, x3, x4, fS, fA]; done)); try dsimp only) | (with_reducible refine ValW_i (c9 (ra.app _) (rb.app _)) ?_; try dsimp only) | (with_reducible refine SpecQ.step (c9 (ra.app _) (rb.app _)) ?_; rintro _ rfl; try dsimp only) | (with_reducible refine ValW_i (c11 (rc.app _) (rd.app _)) ?_; try dsimp only) | (with_reducible refine SpecQ.step (c11 (rc.app _) (rd.app _)) ?_; rintro _ rfl; try dsimp only) | (with_reducible refine ValW_i (c7) ?_; try dsimp only) | (with_reducible refine SpecQ.step (c7) ?_; rintro _ rfl; try dsimp only) | ((with_reducible apply SpecA_i); (focus ((conv => lhs; simp (disch := omega) [g0, g1, g2, g3, ta, tb, tc, td, x1, x2, x3, x4, fS, fA]); done))) | ((with_reducible apply ValA_i); (focus ((conv => lhs; simp (disch := omega) [g0, g1, g2, g3, ta, tb, tc, td, x1, x2, x3, x4, fS, fA]); done))) | ((with_reducible apply ValA_fn); (focus ((conv => lhs; simp (disch := omega) [g0, g1, g2, g3, ta, tb, tc, td, x1, x2, x3, x4, fS, fA]); done))) | (simp (decide := true) only [sn5, sqW_nrm, sqW_exit, sqW_ret, inBlk_nrm, inBlk_ret, inBlk_same, inBlk_exit, if_true, if_false, retW_nrm, retW_ret]) | (with_reducible refine n5_12_w _ _ _ ?_) | (with_reducible refine n5_17_w _ _ _ ?_))

    all_goals first | rfl | simp [oneOrTuple]
  · repeat' (first | ((with_reducible apply evs_of); (focus ((conv => lhs; simp (disch := omega) [g0, g1, g2, g3, ta, tb, tc, td, x1, x2, x3, x4, fS, fA]); done)); try dsimp only) | ((with_reducible apply gW_do); (focus (simp (disch := omega) [g0, g1, g2, g3, ta, tb, tc, td, x1, x2, x3, x4, fS, fA]; done))) | ((with_reducible apply gW_no); (focus (simp (disch := omega) [g0, g1, g2, g3, ta, tb, tc, td, x1, x2, x3, x4, fS, fA]; done)); try dsimp only) | ((with_reducible apply gW_un); (focus (simp (disch := omega) [g0, g1, g2, g3, ta, tb, tc, td, x1, x2, x3, x4, fS, fA]; done)); try dsimp only) | ((with_reducible apply cndW_T); (focus (simp (disch := omega) [g0, g1, g2, g3, ta, tb, tc, td, x1, x2, x3, x4, fS, fA] <;> omega))) | ((with_reducible apply cndW_F); (focus (simp (disch := omega) [g0, g1, g2, g3, ta, tb, tc, td, x1, x2, x3, x4, fS, fA] <;> omega))) | (with_reducible apply wL_i) | ((with_reducible apply ValW_do); (focus (simp (disch := omega) [g0, g1, g2, g3, ta, tb, tc, td, x1, x2, x3, x4, fS, fA]; done)); try dsimp only) | ((with_reducible apply ValW_no); (focus (simp (disch := omega) [g0, g1, g2, g3, ta, tb, tc, td, x1, x2, x3, x4, fS, fA]; done)); try dsimp only) | ((with_reducible apply ValW_un); (focus (simp (disch := omega) [g0, g1, g2, g3, ta, tb, tc, td, x1, x2, x3, x4, fS, fA]; done)); try dsimp only) | (with_reducible refine ValW_i (c9 (ra.app _) (rb.app _)) ?_; try dsimp only) | (with_reducible refine SpecQ.step (c9 (ra.app _) (rb.app _)) ?_; rintro _ rfl; try dsimp only) | (with_reducible refine ValW_i (c11 (rc.app _) (rd.app _)) ?_; try dsimp only) | (with_reducible refine SpecQ.step (c11 (rc.app _) (rd.app _)) ?_; rintro _ rfl; try dsimp only) | (with_reducible refine ValW_i (c7) ?_; try dsimp only) | (with_reducible refine SpecQ.step (c7) ?_; rintro _ rfl; try dsimp only) | ((with_reducible apply SpecA_i); (focus ((conv => lhs; simp (disch := omega) [g0, g1, g2, g3, ta, tb, tc, td, x1, x2, x3, x4, fS, fA]); done))) | ((with_reducible apply ValA_i); (focus ((conv => lhs; simp (disch := omega) [g0, g1, g2, g3, ta, tb, tc, td, x1, x2, x3, x4, fS, fA]); done))) | ((with_reducible apply ValA_fn); (focus ((conv => lhs; simp (disch := omega) [g0, g1, g2, g3, ta, tb, tc, td, x1, x2, x3, x4, fS, fA]); done))) | (simp (decide := true) only [sn5, sqW_nrm, sqW_exit, sqW_ret, inBlk_nrm, inBlk_ret, inBlk_same, inBlk_exit, if_true, if_false, retW_nrm, retW_ret]) | (with_reducible refine n5_12_w _ _ _ ?_) | (with_reducible refine n5_17_w _ _ _ ?_))

    all_goals first | rfl | simp [oneOrTuple]
  · repeat' (first | ((with_reducible apply evs_of); (focus ((conv => lhs; simp (disch := omega) [g0, g1, g2, g3, ta, tb, tc, td, x1, x2, x3, x4, fS, fA]); done)); try dsimp only) | ((with_reducible apply gW_do); (focus (simp (disch := omega) [g0, g1, g2, g3, ta, tb, tc, td, x1, x2, x3, x4, fS, fA]; done))) | ((with_reducible apply gW_no); (focus (simp (disch := omega) [g0, g1, g2, g3, ta, tb, tc, td, x1, x2, x3, x4, fS, fA]; done)); try dsimp only) | ((with_reducible apply gW_un); (focus (simp (disch := omega) [g0, g1, g2, g3, ta, tb, tc, td, x1, x2, x3, x4, fS, fA]; done)); try dsimp only) | ((with_reducible apply cndW_T); (focus (simp (disch := omega) [g0, g1, g2, g3, ta, tb, tc, td, x1, x2, x3, x4, fS, fA] <;> omega))) | ((with_reducible apply cndW_F); (focus (simp (disch := omega) [g0, g1, g2, g3, ta, tb, tc, td, x1, x2, x3, x4, fS, fA] <;> omega))) | (with_reducible apply wL_i) | ((with_reducible apply ValW_do); (focus (simp (disch := omega) [g0, g1, g2, g3, ta, tb, tc, td, x1, x2, x3, x4, fS, fA]; done)); try dsimp only) | ((with_reducible apply ValW_no); (focus (simp (disch := omega) [g0, g1, g2, g3, ta, tb, tc, td, x1, x2, x3, x4, fS, fA]; done)); try dsimp only) | ((with_reducible apply ValW_un); (focus (simp (disch := omega) [g0, g1, g2, g3, ta, tb, tc, td, x1, x2, x3, x4, fS, fA]; done)); try dsimp only) | (with_reducible refine ValW_i (c9 (ra.app _) (rb.app _)) ?_; try dsimp only) | (with_reducible refine SpecQ.step (c9 (ra.app _) (rb.app _)) ?_; rintro _ rfl; try dsimp only) | (with_reducible refine ValW_i (c11 (rc.app _) (rd.app _)) ?_; try dsimp only) | (with_reducible refine SpecQ.step (c11 (rc.app _) (rd.app _)) ?_; rintro _ rfl; try dsimp only) | (with_reducible refine ValW_i (c7) ?_; try dsimp only) | (with_reducible refine SpecQ.step (c7) ?_; rintro _ rfl; try dsimp only) | ((with_reducible apply SpecA_i); (focus ((conv => lhs; simp (disch := omega) [g0, g1, g2, g3, ta, tb, tc, td, x1, x2, x3, x4, fS, fA]); done))) | ((with_reducible apply ValA_i); (focus ((conv => lhs; simp (disch := omega) [g0, g1, g2, g3, ta, tb, tc, td, x1, x2, x3, x4, fS, fA]); done))) | ((with_reducible apply ValA_fn); (focus ((conv => lhs; simp (disch := omega) [g0, g1, g2, g3, ta, tb, tc, td, x1, x2, x3, x4, fS, fA]); done))) | (simp (decide := true) only [sn5, sqW_nrm, sqW_exit, sqW_ret, inBlk_nrm, inBlk_ret, inBlk_same, inBlk_exit, if_true, if_false, retW_nrm, retW_ret]) | (with_reducible refine n5_12_w _ _ _ ?_) | (with_reducible refine n5_17_w _ _ _ ?_))

    all_goals first | rfl | simp [oneOrTuple]
  · repeat' (first | ((with_reducible apply evs_of); (focus ((conv => lhs; simp (disch := omega) [g0, g1, g2, g3, ta, tb, tc, td, x1, x2, x3, x4, fS, fA]); done)); try dsimp only) | ((with_reducible apply gW_do); (focus (simp (disch := omega) [g0, g1, g2, g3, ta, tb, tc, td, x1, x2, x3, x4, fS, fA]; done))) | ((with_reducible apply gW_no); (focus (simp (disch := omega) [g0, g1, g2, g3, ta, tb, tc, td, x1, x2, x3, x4, fS, fA]; done)); try dsimp only) | ((with_reducible apply gW_un); (focus (simp (disch := omega) [g0, g1, g2, g3, ta, tb, tc, td, x1, x2, x3, x4, fS, fA]; done)); try dsimp only) | ((with_reducible apply cndW_T); (focus (simp (disch := omega) [g0, g1, g2, g3, ta, tb, tc, td, x1, x2, x3, x4, fS, fA] <;> omega))) | ((with_reducible apply cndW_F); (focus (simp (disch := omega) [g0, g1, g2, g3, ta, tb, tc, td, x1, x2, x3, x4, fS, fA] <;> omega))) | (with_reducible apply wL_i) | ((with_reducible apply ValW_do); (focus (simp (disch := omega) [g0, g1, g2, g3, ta, tb, tc, td, x1, x2, x3, x4, fS, fA]; done)); try dsimp only) | ((with_reducible apply ValW_no); (focus (simp (disch := omega) [g0, g1, g2, g3, ta, tb, tc, td, x1, x2, x3, x4, fS, fA]; done)); try dsimp only) | ((with_reducible apply ValW_un); (focus (simp (disch := omega) [g0, g1, g2, g3, ta, tb, tc, td, x1, x2, x3, x4, fS, fA]; done)); try dsimp only) | (with_reducible refine ValW_i (c9 (ra.app _) (rb.app _)) ?_; try dsimp only) | (with_reducible refine SpecQ.step (c9 (ra.app _) (rb.app _)) ?_; rintro _ rfl; try dsimp only) | (with_reducible refine ValW_i (c11 (rc.app _) (rd.app _)) ?_; try dsimp only) | (with_reducible refine SpecQ.step (c11 (rc.app _) (rd.app _)) ?_; rintro _ rfl; try dsimp only) | (with_reducible refine ValW_i (c7) ?_; try dsimp only) | (with_reducible refine SpecQ.step (c7) ?_; rintro _ rfl; try dsimp only) | ((with_reducible apply SpecA_i); (focus ((conv => lhs; simp (disch := omega) [g0, g1, g2, g3, ta, tb, tc, td, x1, x2, x3, x4, fS, fA]); done))) | ((with_reducible apply ValA_i); (focus ((conv => lhs; simp (disch := omega) [g0, g1, g2, g3, ta, tb, tc, td, x1, x2, x3, x4, fS, fA]); done))) | ((with_reducible apply ValA_fn); (focus ((conv => lhs; simp (disch := omega) [g0, g1, g2, g3, ta, tb, tc, td, x1, x2, x3, x4, fS, fA]); done))) | (simp (decide := true) only [sn5, sqW_nrm, sqW_exit, sqW_ret, inBlk_nrm, inBlk_ret, inBlk_same, inBlk_exit, if_true, if_false, retW_nrm, retW_ret]) | (with_reducible refine n5_12_w _ _ _ ?_) | (with_reducible refine n5_17_w _ _ _ ?_))

    all_goals first | rfl | simp [oneOrTuple]
  · repeat' (first | ((with_reducible apply evs_of); (focus ((conv => lhs; simp (disch := omega) [g0, g1, g2, g3, ta, tb, tc, td, x1, x2, x3, x4, fS, fA]); done)); try dsimp only) | ((with_reducible apply gW_do); (focus (simp (disch := omega) [g0, g1, g2, g3, ta, tb, tc, td, x1, x2, x3, x4, fS, fA]; done))) | ((with_reducible apply gW_no); (focus (simp (disch := omega) [g0, g1, g2, g3, ta, tb, tc, td, x1, x2, x3, x4, fS, fA]; done)); try dsimp only) | ((with_reducible apply gW_un); (focus (simp (disch := omega) [g0, g1, g2, g3, ta, tb, tc, td, x1, x2, x3, x4, fS, fA]; done)); try dsimp only) | ((with_reducible apply cndW_T); (focus (simp (disch := omega) [g0, g1, g2, g3, ta, tb, tc, td, x1, x2, x3, x4, fS, fA] <;> omega))) | ((with_reducible apply cndW_F); (focus (simp (disch := omega) [g0, g1, g2, g3, ta, tb, tc, td, x1, x2, x3, x4, fS, fA] <;> omega))) | (with_reducible apply wL_i) | ((with_reducible apply ValW_do); (focus (simp (disch := omega) [g0, g1, g2, g3, ta, tb, tc, td, x1, x2, x3, x4, fS, fA]; done)); try dsimp only) | ((with_reducible apply ValW_no); (focus (simp (disch := omega) [g0, g1, g2, g3, ta, tb, tc, td, x1, x2, x3, x4, fS, fA]; done)); try dsimp only) | ((with_reducible apply ValW_un); (focus (simp (disch := omega) [g0, g1, g2, g3, ta, tb, tc, td, x1, x2, x3, x4, fS, fA]; done)); try dsimp only) | (with_reducible refine ValW_i (c9 (ra.app _) (rb.app _)) ?_; try dsimp only) | (with_reducible refine SpecQ.step (c9 (ra.app _) (rb.app _)) ?_; rintro _ rfl; try dsimp only) | (with_reducible refine ValW_i (c11 (rc.app _) (rd.app _)) ?_; try dsimp only) | (with_reducible refine SpecQ.step (c11 (rc.app _) (rd.app _)) ?_; rintro _ rfl; try dsimp only) | (with_reducible refine ValW_i (c7) ?_; try dsimp only) | (with_reducible refine SpecQ.step (c7) ?_; rintro _ rfl; try dsimp only) | ((with_reducible apply SpecA_i); (focus ((conv => lhs; simp (disch := omega) [g0, g1, g2, g3, ta, tb, tc, td, x1, x2, x3, x4, fS, fA]); done))) | ((with_reducible apply ValA_i); (focus ((conv => lhs; simp (disch := omega) [g0, g1, g2, g3, ta, tb, tc, td, x1, x2, x3, x4, fS, fA]); done))) | ((with_reducible apply ValA_fn); (focus ((conv => lhs; simp (disch := omega) [g0, g1, g2, g3, ta, tb, tc, td, x1, x2, x3, x4, fS, fA]); done))) | (simp (decide := true) only [sn5, sqW_nrm, sqW_exit, sqW_ret, inBlk_nrm, inBlk_ret, inBlk_same, inBlk_exit, if_true, if_false, retW_nrm, retW_ret]) | (with_reducible refine n5_12_w _ _ _ ?_) | (with_reducible refine n5_17_w _ _ _ ?_))

    all_goals first | rfl | simp [oneOrTuple]
  · repeat' (first | ((with_reducible apply evs_of); (focus ((conv => lhs; simp (disch := omega) [g0, g1, g2, g3, ta, tb, tc, td, x1, x2, x3, x4, fS, fA]); done)); try dsimp only) | ((with_reducible apply gW_do); (focus (simp (disch := omega) [g0, g1, g2, g3, ta, tb, tc, td, x1, x2, x3, x4, fS, fA]; done))) | ((with_reducible apply gW_no); (focus (simp (disch := omega) [g0, g1, g2, g3, ta, tb, tc, td, x1, x2, x3, x4, fS, fA]; done)); try dsimp only) | ((with_reducible apply gW_un); (focus (simp (disch := omega) [g0, g1, g2, g3, ta, tb, tc, td, x1, x2, x3, x4, fS, fA]; done)); try dsimp only) | ((with_reducible apply cndW_T); (focus (simp (disch := omega) [g0, g1, g2, g3, ta, tb, tc, td, x1, x2, x3, x4, fS, fA] <;> omega))) | ((with_reducible apply cndW_F); (focus (simp (disch := omega) [g0, g1, g2, g3, ta, tb, tc, td, x1, x2, x3, x4, fS, fA] <;> omega))) | (with_reducible apply wL_i) | ((with_reducible apply ValW_do); (focus (simp (disch := omega) [g0, g1, g2, g3, ta, tb, tc, td, x1, x2, x3, x4, fS, fA]; done)); try dsimp only) | ((with_reducible apply ValW_no); (focus (simp (disch := omega) [g0, g1, g2, g3, ta, tb, tc, td, x1, x2, x3, x4, fS, fA]; done)); try dsimp only) | ((with_reducible apply ValW_un); (focus (simp (disch := omega) [g0, g1, g2, g3, ta, tb, tc, td, x1, x2, x3, x4, fS, fA]; done)); try dsimp only) | (with_reducible refine ValW_i (c9 (ra.app _) (rb.app _)) ?_; try dsimp only) | (with_reducible refine SpecQ.step (c9 (ra.app _) (rb.app _)) ?_; rintro _ rfl; try dsimp only) | (with_reducible refine ValW_i (c11 (rc.app _) (rd.app _)) ?_; try dsimp only) | (with_reducible refine SpecQ.step (c11 (rc.app _) (rd.app _)) ?_; rintro _ rfl; try dsimp only) | (with_reducible refine ValW_i (c7) ?_; try dsimp only) | (with_reducible refine SpecQ.step (c7) ?_; rintro _ rfl; try dsimp only) | ((with_reducible apply SpecA_i); (focus ((conv => lhs; simp (disch := omega) [g0, g1, g2, g3, ta, tb, tc, td, x1, x2, x3, x4, fS, fA]); done))) | ((with_reducible apply ValA_i); (focus ((conv => lhs; simp (disch := omega) [g0, g1, g2, g3, ta, tb, tc, td, x1, x2, x3, x4, fS, fA]); done))) | ((with_reducible apply ValA_fn); (focus ((conv => lhs; simp (disch := omega) [g0, g1, g2, g3, ta, tb, tc, td, x1, x2, x3, x4, fS, fA]); done))) | (simp (decide := true) only [sn5, sqW_nrm, sqW_exit, sqW_ret, inBlk_nrm, inBlk_ret, inBlk_same, inBlk_exit, if_true, if_false, retW_nrm, retW_ret]) | (with_reducible refine n5_12_w _ _ _ ?_) | (with_reducible refine n5_17_w _ _ _ ?_))

    all_goals first | rfl | simp [oneOrTuple]
  · repeat' (first | ((with_reducible apply evs_of); (focus ((conv => lhs; simp (disch := omega) [g0, g1, g2, g3, ta, tb, tc, td, x1, x2, x3, x4, fS, fA]); done)); try dsimp only) | ((with_reducible apply gW_do); (focus (simp (disch := omega) [g0, g1, g2, g3, ta, tb, tc, td, x1, x2, x3, x4, fS, fA]; done))) | ((with_reducible apply gW_no); (focus (simp (disch := omega) [g0, g1, g2, g3, ta, tb, tc, td, x1, x2, x3, x4, fS, fA]; done)); try dsimp only) | ((with_reducible apply gW_un); (focus (simp (disch := omega) [g0, g1, g2, g3, ta, tb, tc, td, x1, x2, x3, x4, fS, fA]; done)); try dsimp only) | ((with_reducible apply cndW_T); (focus (simp (disch := omega) [g0, g1, g2, g3, ta, tb, tc, td, x1, x2, x3, x4, fS, fA] <;> omega))) | ((with_reducible apply cndW_F); (focus (simp (disch := omega) [g0, g1, g2, g3, ta, tb, tc, td, x1, x2, x3, x4, fS, fA] <;> omega))) | (with_reducible apply wL_i) | ((with_reducible apply ValW_do); (focus (simp (disch := omega) [g0, g1, g2, g3, ta, tb, tc, td, x1, x2, x3, x4, fS, fA]; done)); try dsimp only) | ((with_reducible apply ValW_no); (focus (simp (disch := omega) [g0, g1, g2, g3, ta, tb, tc, td, x1, x2, x3, x4, fS, fA]; done)); try dsimp only) | ((with_reducible apply ValW_un); (focus (simp (disch := omega) [g0, g1, g2, g3, ta, tb, tc, td, x1, x2, x3, x4, fS, fA]; done)); try dsimp only) | (with_reducible refine ValW_i (c9 (ra.app _) (rb.app _)) ?_; try dsimp only) | (with_reducible refine SpecQ.step (c9 (ra.app _) (rb.app _)) ?_; rintro _ rfl; try dsimp only) | (with_reducible refine ValW_i (c11 (rc.app _) (rd.app _)) ?_; try dsimp only) | (with_reducible refine SpecQ.step (c11 (rc.app _) (rd.app _)) ?_; rintro _ rfl; try dsimp only) | (with_reducible refine ValW_i (c7) ?_; try dsimp only) | (with_reducible refine SpecQ.step (c7) ?_; rintro _ rfl; try dsimp only) | ((with_reducible apply SpecA_i); (focus ((conv => lhs; simp (disch := omega) [g0, g1, g2, g3, ta, tb, tc, td, x1, x2, x3, x4, fS, fA]); done))) | ((with_reducible apply ValA_i); (focus ((conv => lhs; simp (disch := omega) [g0, g1, g2, g3, ta, tb, tc, td, x1, x2, x3, x4, fS, fA]); done))) | ((with_reducible apply ValA_fn); (focus ((conv => lhs; simp (disch := omega) [g0, g1, g2, g3, ta, tb, tc, td, x1, x2, x3, x4, fS, fA]); done))) | (simp (decide := true) only [sn5, sqW_nrm, sqW_exit, sqW_ret, inBlk_nrm, inBlk_ret, inBlk_same, inBlk_exit, if_true, if_false, retW_nrm, retW_ret]) | (with_reducible refine n5_12_w _ _ _ ?_) | (with_reducible refine n5_17_w _ _ _ ?_))

    all_goals first | rfl | simp [oneOrTuple]
  · repeat' (first | ((with_reducible apply evs_of); (focus ((conv => lhs; simp (disch := omega) [g0, g1, g2, g3, ta, tb, tc, td, x1, x2, x3, x4, fS, fA]); done)); try dsimp only) | ((with_reducible apply gW_do); (focus (simp (disch := omega) [g0, g1, g2, g3, ta, tb, tc, td, x1, x2, x3, x4, fS, fA]; done))) | ((with_reducible apply gW_no); (focus (simp (disch := omega) [g0, g1, g2, g3, ta, tb, tc, td, x1, x2, x3, x4, fS, fA]; done)); try dsimp only) | ((with_reducible apply gW_un); (focus (simp (disch := omega) [g0, g1, g2, g3, ta, tb, tc, td, x1, x2, x3, x4, fS, fA]; done)); try dsimp only) | ((with_reducible apply cndW_T); (focus (simp (disch := omega) [g0, g1, g2, g3, ta, tb, tc, td, x1, x2, x3, x4, fS, fA] <;> omega))) | ((with_reducible apply cndW_F); (focus (simp (disch := omega) [g0, g1, g2, g3, ta, tb, tc, td, x1, x2, x3, x4, fS, fA] <;> omega))) | (with_reducible apply wL_i) | ((with_reducible apply ValW_do); (focus (simp (disch := omega) [g0, g1, g2, g3, ta, tb, tc, td, x1, x2, x3, x4, fS, fA]; done)); try dsimp only) | ((with_reducible apply ValW_no); (focus (simp (disch := omega) [g0, g1, g2, g3, ta, tb, tc, td, x1, x2, x3, x4, fS, fA]; done)); try dsimp only) | ((with_reducible apply ValW_un); (focus (simp (disch := omega) [g0, g1, g2, g3, ta, tb, tc, td, x1, x2, x3, x4, fS, fA]; done)); try dsimp only) | (with_reducible refine ValW_i (c9 (ra.app _) (rb.app _)) ?_; try dsimp only) | (with_reducible refine SpecQ.step (c9 (ra.app _) (rb.app _)) ?_; rintro _ rfl; try dsimp only) | (with_reducible refine ValW_i (c11 (rc.app _) (rd.app _)) ?_; try dsimp only) | (with_reducible refine SpecQ.step (c11 (rc.app _) (rd.app _)) ?_; rintro _ rfl; try dsimp only) | (with_reducible refine ValW_i (c7) ?_; try dsimp only) | (with_reducible refine SpecQ.step (c7) ?_; rintro _ rfl; try dsimp only) | ((with_reducible apply SpecA_i); (focus ((conv => lhs; simp (disch := omega) [g0, g1, g2, g3, ta, tb, tc, td, x1, x2, x3, x4, fS, fA]); done))) | ((with_reducible apply ValA_i); (focus ((conv => lhs; simp (disch := omega) [g0, g1, g2, g3, ta, tb, tc, td, x1, x2, x3, x4, fS, fA]); done))) | ((with_reducible apply ValA_fn); (focus ((conv => lhs; simp (disch := omega) [g0, g1, g2, g3, ta, tb, tc, td, x1, x2, x3, x4, fS, fA]); done))) | (simp (decide := true) only [sn5, sqW_nrm, sqW_exit, sqW_ret, inBlk_nrm, inBlk_ret, inBlk_same, inBlk_exit, if_true, if_false, retW_nrm, retW_ret]) | (with_reducible refine n5_12_w _ _ _ ?_) | (with_reducible refine n5_17_w _ _ _ ?_))

    all_goals first | rfl | simp [oneOrTuple]
  · repeat' (first | ((with_reducible apply evs_of); (focus ((conv => lhs; simp (disch := omega) [g0, g1, g2, g3, ta, tb, tc, td, x1, x2, x3, x4, fS, fA]); done)); try dsimp only) | ((with_reducible apply gW_do); (focus (simp (disch := omega) [g0, g1, g2, g3, ta, tb, tc, td, x1, x2, x3, x4, fS, fA]; done))) | ((with_reducible apply gW_no); (focus (simp (disch := omega) [g0, g1, g2, g3, ta, tb, tc, td, x1, x2, x3, x4, fS, fA]; done)); try dsimp only) | ((with_reducible apply gW_un); (focus (simp (disch := omega) [g0, g1, g2, g3, ta, tb, tc, td, x1, x2, x3, x4, fS, fA]; done)); try dsimp only) | ((with_reducible apply cndW_T); (focus (simp (disch := omega) [g0, g1, g2, g3, ta, tb, tc, td, x1, x2, x3, x4, fS, fA] <;> omega))) | ((with_reducible apply cndW_F); (focus (simp (disch := omega) [g0, g1, g2, g3, ta, tb, tc, td, x1, x2, x3, x4, fS, fA] <;> omega))) | (with_reducible apply wL_i) | ((with_reducible apply ValW_do); (focus (simp (disch := omega) [g0, g1, g2, g3, ta, tb, tc, td, x1, x2, x3, x4, fS, fA]; done)); try dsimp only) | ((with_reducible apply ValW_no); (focus (simp (disch := omega) [g0, g1, g2, g3, ta, tb, tc, td, x1, x2, x3, x4, fS, fA]; done)); try dsimp only) | ((with_reducible apply ValW_un); (focus (simp (disch := omega) [g0, g1, g2, g3, ta, tb, tc, td, x1, x2, x3, x4, fS, fA]; done)); try dsimp only) | (with_reducible refine ValW_i (c9 (ra.app _) (rb.app _)) ?_; try dsimp only) | (with_reducible refine SpecQ.step (c9 (ra.app _) (rb.app _)) ?_; rintro _ rfl; try dsimp only) | (with_reducible refine ValW_i (c11 (rc.app _) (rd.app _)) ?_; try dsimp only) | (with_reducible refine SpecQ.step (c11 (rc.app _) (rd.app _)) ?_; rintro _ rfl; try dsimp only) | (with_reducible refine ValW_i (c7) ?_; try dsimp only) | (with_reducible refine SpecQ.step (c7) ?_; rintro _ rfl; try dsimp only) | ((with_reducible apply SpecA_i); (focus ((conv => lhs; simp (disch := omega) [g0, g1, g2, g3, ta, tb, tc, td, x1, x2, x3, x4, fS, fA]); done))) | ((with_reducible apply ValA_i); (focus ((conv => lhs; simp (disch := omega) [g0, g1, g2, g3, ta, tb, tc, td, x1, x2, x3, x4, fS, fA]); done))) | ((with_reducible apply ValA_fn); (focus ((conv => lhs; simp (disch := omega) [g0, g1, g2, g3, ta, tb, tc, td, x1, x2, x3, x4, fS, fA]); done))) | (simp (decide := true) only [sn5, sqW_nrm, sqW_exit, sqW_ret, inBlk_nrm, inBlk_ret, inBlk_same, inBlk_exit, if_true, if_false, retW_nrm, retW_ret]) | (with_reducible refine n5_12_w _ _ _ ?_) | (with_reducible refine n5_17_w _ _ _ ?_))

    all_goals first | rfl | simp [oneOrTuple]

end Go.Vab

/-
  Functions without a body: internal/bytealg.Compare.
-/
namespace Go.Vab
open Go

/-- Which of two rows of bytes stands first. -/
def cmpB : Bs → Bs → Int
  | [], [] => 0
  | [], _ :: _ => -1
  | _ :: _, [] => 1
  | a :: xs, b :: ys => if a < b then -1 else if b < a then 1 else cmpB xs ys

def by8 (l : Bs) : List UInt8 := l.map fun c => UInt8.ofNat c.toNat
theorem by8_lt (a b : BitVec 8) : UInt8.ofNat a.toNat < UInt8.ofNat b.toNat ↔ a < b := by
  rw [UInt8.lt_iff_toNat_lt, BitVec.lt_def]
  have := a.isLt
  have := b.isLt
  simp
theorem cmpB_eq : ∀ a b : Bs, Lib.compareBytes (by8 a) (by8 b) = cmpB a b
  | [], [] => rfl
  | [], _ :: _ => rfl
  | _ :: _, [] => rfl
  | a :: xs, b :: ys => by
    simp only [by8, List.map_cons, Lib.compareBytes, cmpB]
    by_cases h : a < b
    · rw [if_pos ((by8_lt _ _).2 h), if_pos h]
    · rw [if_neg (fun q => h ((by8_lt _ _).1 q)), if_neg h]
      by_cases h2 : b < a
      · rw [if_pos ((by8_lt _ _).2 h2), if_pos h2]
      · rw [if_neg (fun q => h2 ((by8_lt _ _).1 q)), if_neg h2]
        exact cmpB_eq xs ys

def bi (l : Bs) : List Int := l.map fun x => (x.toNat : Int)
theorem arr_bi (l : Bs) : arr l.length (Bs.g l) = .ints .u8 (bi l) := by
  unfold arr bytes bi
  congr 2
  apply List.ext_getElem?
  intro i
  rw [range_map_getD]
  split
  · rename_i hi
    simp [Bs.g, List.getD_eq_getElem?_getD, List.getElem?_eq_getElem hi]
  · rename_i hi
    rw [List.getElem?_eq_none (by omega)]
theorem run_loadB {P : Program} (w : World) : ∀ (l : Bs) (a : Addr) (acc : ByteArray), (∀ j x, (bi l)[j]? = some x → w.cell? (a.add j) = some (.int .u8 x)) →
    (Extern.Bytes.loadBytes a l.length acc).run P w = .ok ⟨acc.data ++ (by8 l).toArray⟩ w
  | [], a, acc, _ => by simp [Extern.Bytes.loadBytes, by8]
  | x :: l, a, acc, h => by
    have h0 : w.cell? a = some (.int .u8 (x.toNat : Int)) := by
      have := h 0 x.toNat rfl
      simpa [Addr.add] using this
    have ih := run_loadB (P := P) w l (a.add 1) (acc.push (x.toNat : Int).toNat.toUInt8) (fun j y hy => by
      have := h (j + 1) y (by simpa [bi] using hy)
      have e : (a.add 1).add j = a.add (j + 1) := by
        unfold Addr.add
        by_cases hj : j = 0
        · subst hj; simp
        · simp [hj]; omega
      rw [e]; exact this)
    simp only [List.length_cons, Extern.Bytes.loadBytes, Sem.run_bind, run_load, h0, Result.andThen]
    rw [ih]
    congr 1
    apply ByteArray.ext
    simp [ByteArray.push, by8]

section
variable {P : Program} {E : Gh} {h : Heap} {w : World} (R : RelHeap E h w)
include R
theorem elems_cells {i ver : Nat} {path : List Nat} {t t' : Ty} {off len : Nat} {cap : Option Nat} {new : AV} {y : Value} (he : mElems t (.slice i ver path t' off len cap) h = some new) (hx : VRel E (.slice i ver path t' off len cap) y) :
    ∃ a c l, y = .slice (some a) len c ∧ VRl E new l ∧ l.length = len * t.size ∧ ∀ k x, l[k]? = some x → w.cell? (a.add k) = some x := by
  simp only [mElems] at he
  split at he
  · rename_i hbt
    have hte := Ty.beq_eq _ _ hbt
    subst hte
    obtain ⟨b, hb, he⟩ := bnd_eq_some.1 he
    obtain ⟨r, hg, he⟩ := bnd_eq_some.1 he
    simp only [VRel] at hx
    obtain ⟨a, c, rfl, hi, hv, hlen, hcap, hcn, hs⟩ := hx
    obtain ⟨hbi, hbv⟩ := blkAt_spec hb
    have hver : ver = E.ver i := by rw [← hbv]; exact (R.at_ i b hbi).ver
    obtain ⟨o, n, hsub, ha, hroom⟩ := hs hver
    obtain ⟨m, l, hm, hl, hc⟩ := cont_cells R hver hsub hb hg
    obtain ⟨k1, k2, k3⟩ := cut_spec he hm hl
    have hll := VRl.len new _ _ k1 k3
    simp only [Ty.size] at hll
    refine ⟨a, c, _, rfl, k3, hll, fun k x hk => ?_⟩
    by_cases hc0 : c = 0
    · have : len = 0 := by omega
      subst this
      have hk1 := (List.getElem?_eq_some_iff.1 hk).1
      simp at hk1
    · rw [ha hc0, add_mk]
      have hk1 := (List.getElem?_eq_some_iff.1 hk).1
      rw [List.getElem?_take_of_lt (by omega), List.getElem?_drop] at hk
      have := hc _ x hk
      rw [show E.base i + o + (off * t'.size + k) = E.base i + o + off * t'.size + k by omega] at this
      exact this
  · cases he

theorem bytesOf_spec {x : AV} {l : Bs} {y : Value} (hb : BytL h x l) (hx : VRel E x y) : (Extern.Bytes.bytesOf y).run P w = .ok ⟨(by8 l).toArray⟩ w := by
  have h1 := hb.1.1
  have h2 := hb.1.2
  cases x with
  | nilslice =>
    have hl : l = [] := List.eq_nil_of_length_eq_zero h2
    subst hl
    simp only [VRel] at hx; subst hx
    rfl
  | slice i ver path t off len cap =>
    obtain ⟨a, c, m, rfl, hm, hlen, hc⟩ := elems_cells R h1 hx
    have hL : len = l.length := by
      unfold slOk at h2
      split at h2 <;> simp_all
    have hm' : m = (bi l).map (Value.int .u8) := by
      rw [arr_bi] at hm
      simpa only [VRl] using hm
    have key := run_loadB (P := P) w l a .empty fun j x hj => hc j _ (by rw [hm', List.getElem?_map, hj]; rfl)
    rw [hL]
    simp only [Extern.Bytes.bytesOf]
    rw [key]
    congr 1
    apply ByteArray.ext
    show #[] ++ _ = _
    simp
  | _ => unfold slOk at h2; split at h2 <;> first | exact h2.elim | (rename_i e; cases e)
end

theorem cmp_spec {P : Program} {f : Nat} {fn : Func} (hf : P.funcs[f]? = some fn) (hname : (fn.name == "runtime.NumGoroutine") = false) (hb : fn.body.isNone = true) (hn : Extern.findNext fn = none) (he : Extern.find fn = some Extern.BytealgCompare.compare)
    {h : Heap} {x y : AV} {a b : Bs} (hx : BytL h x a) (hy : BytL h y b) : SpecQ P f [x, y] h fun r => r = (.int .i64 (cmpB a b), h) := by
  intro E w xs R hxs
  simp only [VRc] at hxs
  obtain ⟨vx, xs1, rfl, h1, vy, xs2, rfl, h2, rfl⟩ := hxs
  refine .inr ⟨.int .i64 (cmpB a b), w, _, E, ?_, rfl, by simp only [VRel], Moves.refl R⟩
  rw [run_callFunc_extern hf hname hb hn he]
  have q1 := bytesOf_spec (P := P) R hx h1
  have q2 := bytesOf_spec (P := P) R hy h2
  have e : ∀ p q : Value, Extern.BytealgCompare.compare #[p, q] = (do pure (goInt (Extern.BytealgCompare.cmp (← Extern.Bytes.bytesOf p) (← Extern.Bytes.bytesOf q)))) := fun p q => rfl
  rw [e]
  simp only [Sem.run_bind, q1, q2, Result.andThen_ok, Sem.run_pure]
  rw [Lib.cmp_eq]
  show Result.ok (Next.value (Value.int .i64 _)) w = _
  rw [cmpB_eq]

end Go.Vab

/-
  Which types are maps of handles.
-/
namespace Go.Vab
open Go

theorem mapT_mk {P : Program} {tt : Nat → Option TI} (T : TTok P tt) {t k e b : Nat} (hl : laidOutB P = true) (h1 : P.underlying t = some (.map k e)) (h2 : P.underlying k = some (.array 32 b)) (h3 : P.underlying b = some (.int .u8))
    {el : TI} (hel : tt e = some el) (hez : el.zero = .int .i64 0) (hrow : k < P.types.size) (hkt : P.keyTypeAt 2 k = true) (hkt' : P.keyType k = true) (hc : P.cellsOf k = 32) (hc1 : P.cellsOf b = 1) : MapT P t := by
  refine ⟨k, e, h1, Maps.Keyed.of_law (deep_law_laid hl (m := 2) (by omega) hrow hkt (by rw [h2])), fun w => ?_, fun ks hok => ?_⟩
  · obtain ⟨z, h4, h5⟩ := run_zero_tt T hel w
    have := h5 ⟨0, fun _ => 0, fun _ => 0, fun _ => 0, fun _ => 0, fun _ => false, fun _ => .cell⟩
    rw [hez] at this
    simp only [VRel] at this
    rw [h4, this]
  simp only [okKey, Bool.and_eq_true, decide_eq_true_eq, List.all_eq_true] at hok
  obtain ⟨hlen, hin⟩ := hok
  obtain ⟨m, hm⟩ : ∃ m, P.types.size = m + 1 := ⟨P.types.size - 1, by omega⟩
  unfold keyOf
  rw [h2]
  simp only [hkt', Bool.true_and]
  have hf : (keyVal ks).formed P k = true := by
    unfold Value.formed keyVal
    simp only [h2, hc]
    simp [hlen]
  rw [if_pos hf]
  have hlits : ∀ x ∈ ks, P.keyLits (m + 1) b [.int .u8 x] = some [.int .u8 x] := by
    intro x hx
    have := hin x hx
    unfold Program.keyLits
    simp only [h3]
    have hw : (Lit.int .u8 x).wf = true := by
      simp [Lit.wf, IntKind.min, IntKind.max, IntKind.signed, IntKind.bits]; omega
    simp [hw]
  have key : P.keyLits (P.types.size + 1) k (keyVal ks).cells.toList = some (ks.map (Lit.int .u8)) := by
    rw [hm]
    unfold Program.keyLits
    simp only [h2]
    have hcl : (keyVal ks).cells.toList = ks.map (Value.int .u8) := by simp [keyVal, Value.cells]
    rw [hcl, if_pos (by rw [hc]; simp [hlen])]
    have : ((List.range 32).mapM fun i => P.keyLits (m + 1) b (((ks.map (Value.int .u8)).drop (i * P.cellsOf b)).take (P.cellsOf b))) = some (ks.map fun x => [Lit.int .u8 x]) := by
      rw [hc1, ← hlen]
      clear hcl hf hin hlen
      have gen : ∀ (l pre : List Int), (∀ x ∈ l, P.keyLits (m + 1) b [.int .u8 x] = some [.int .u8 x]) →
          ((List.range' pre.length l.length).mapM fun i => P.keyLits (m + 1) b ((((pre ++ l).map (Value.int .u8)).drop (i * 1)).take 1)) = some (l.map fun x => [Lit.int .u8 x]) := by
        intro l
        induction l with
        | nil => intro pre _; rfl
        | cons x l ih =>
          intro pre hx
          rw [List.length_cons, List.range'_succ, List.mapM_cons]
          have h0 : (((pre ++ x :: l).map (Value.int .u8)).drop (pre.length * 1)).take 1 = [Value.int .u8 x] := by simp
          rw [h0, hx x (List.mem_cons_self ..)]
          have h1 := ih (pre ++ [x]) fun y hy => hx y (List.mem_cons_of_mem _ hy)
          simp only [List.length_append, List.length_singleton, List.append_assoc, List.singleton_append] at h1
          simp only [Option.bind_eq_bind, Option.bind_some]
          rw [h1]
          rfl
      have := gen ks [] hlits
      simpa [List.range_eq_range'] using this
    rw [this]
    simp only [Option.map_some, Option.some.injEq]
    clear hcl this hf hin hlen hlits
    induction ks with
    | nil => rfl
    | cons x l ih => simp only [List.map_cons, List.flatten_cons, ih]; rfl
  rw [key]
  exact ⟨_, rfl⟩

end Go.Vab

/-
  Maps of handles, and lists whose handles rise.
-/
namespace Go.Vab
open Go

/-! what is there -/
def hasPt (p : Pt) (vs : List AV) : Bool := hasKey (bi p.l) vs
theorem pt_bi (p : Pt) : pt p = .ints .u8 (bi p.l) := by
  have := arr_bi p.l
  rw [p.h] at this
  exact this
theorem okKey_pt (p : Pt) : okKey (bi p.l) = true := by
  simp only [okKey, bi, List.length_map, p.h, decide_true, Bool.true_and, List.all_eq_true, decide_eq_true_eq, List.mem_map]
  rintro x ⟨c, _, rfl⟩
  have := c.isLt
  omega
theorem bi_inj {a b : Bs} (h : bi a = bi b) : a = b := by
  induction a generalizing b with
  | nil => cases b with
    | nil => rfl
    | cons y b => simp [bi] at h
  | cons x a ih => cases b with
    | nil => simp [bi] at h
    | cons y b =>
      simp only [bi, List.map_cons, List.cons.injEq] at h
      rw [BitVec.eq_of_toNat_eq (show x.toNat = y.toNat by omega), ih h.2]
@[simp] theorem hasPt_map (p : Pt) (seen : List Pt) : hasPt p (seen.map pt) = decide (p ∈ seen) := by
  unfold hasPt
  have : seen.map pt = (seen.map fun q => bi q.l).map (AV.ints .u8) := by
    rw [List.map_map]; exact List.map_congr_left fun q _ => pt_bi q
  rw [this, hasKey_map]
  refine dec_iff ⟨fun h => ?_, fun h => List.mem_map.2 ⟨p, h, rfl⟩⟩
  obtain ⟨q, hq, e⟩ := List.mem_map.1 h
  rw [← Pt.ext' (bi_inj e)]; exact hq
@[simp] theorem mLook_pt (i : Nat) (p : Pt) (h : Heap) : mLook (.map i) (pt p) h = bnd (mapAt h i) fun vs => some (nat (if hasPt p vs = true then 1 else 0)) := by
  rw [pt_bi]
  unfold mLook
  simp only [okKey_pt, if_true]
  congr 1
  funext vs
  unfold hasPt nat
  split <;> rfl
@[simp] theorem mUpd_pt (i : Nat) (p : Pt) (h : Heap) : mUpd (.map i) (pt p) (nat 1) h = bnd (mapAt h i) fun vs => some (.undef, h.set i ⟨.node (if hasPt p vs = true then vs else vs ++ [pt p]), 0, .mp⟩) := by
  rw [pt_bi]
  unfold mUpd nat
  simp only [okKey_pt, Int.natCast_one, and_self, if_true]
  rfl
theorem mapAt_app {h : Heap} {i : Nat} {vs : List AV} (hm : h[i]? = some ⟨.node vs, 0, .mp⟩) (l : Heap) : mapAt (h ++ l) i = some vs :=
  mapAt_of (by rw [List.getElem?_append_left (List.getElem?_eq_some_iff.1 hm).1]; exact hm)
theorem set_appL {h : Heap} {i : Nat} {b : Blk} (hm : h[i]? = some b) (l : Heap) (c : Blk) : (h ++ l).set i c = h.set i c ++ l := by
  rw [List.set_append, if_pos (List.getElem?_eq_some_iff.1 hm).1]
@[simp] theorem blkAt_setm (h l : Heap) (m : Nat) (b : Blk) (k ver : Nat) : blkAt (h.set m b ++ l) (h.length + k) ver = blkAt l k ver := by
  have := blkAt_new (h.set m b) l k ver
  rwa [List.length_set] at this
@[simp] theorem blkAt_setm0 (h l : Heap) (m : Nat) (b : Blk) (ver : Nat) : blkAt (h.set m b ++ l) h.length ver = blkAt l 0 ver := blkAt_setm h l m b 0 ver
@[simp] theorem set_setm (h l : Heap) (m : Nat) (b : Blk) (k : Nat) (c : Blk) : (h.set m b ++ l).set (h.length + k) c = h.set m b ++ l.set k c := by
  have := set_new (h.set m b) l k c
  rwa [List.length_set] at this
@[simp] theorem set_setm0 (h l : Heap) (m : Nat) (b c : Blk) : (h.set m b ++ l).set h.length c = h.set m b ++ l.set 0 c := set_setm h l m b 0 c

/-- A map's change is seen by nobody else. -/
theorem mElems_setm {t : Ty} {x : AV} {h : Heap} {m : Nat} {b c : Blk} {r : AV} (hm : h[m]? = some b) (hb : b.mode = .mp) (he : mElems t x h = some r) : mElems t x (h.set m c) = some r := by
  cases x with
  | slice i ver path t' off len cap =>
    simp only [mElems] at he ⊢
    split at he
    · rename_i ht
      rw [if_pos ht]
      obtain ⟨d, h1, h2⟩ := bnd_eq_some.1 he
      obtain ⟨h3, h4⟩ := blkAt_spec h1
      have hne : m ≠ i := by
        rintro rfl
        rw [hm] at h3; cases h3
        exact blkAt_mp h1 hb
      have : blkAt (h.set m c) i ver = some d := by
        unfold blkAt at h1 ⊢
        rw [List.getElem?_set_ne hne]; exact h1
      rw [this]; exact h2
    · cases he
  | _ => exact he
theorem Row.setm {t : Ty} {x : AV} {h : Heap} {m : Nat} {b c : Blk} {vs : List AV} (r : Row t h x vs) (hm : h[m]? = some b) (hb : b.mode = .mp) : Row t (h.set m c) x vs := ⟨mElems_setm hm hb r.1, r.2⟩
theorem BytL.setm {x : AV} {h : Heap} {m : Nat} {b c : Blk} {l : Bs} (r : BytL h x l) (hm : h[m]? = some b) (hb : b.mode = .mp) : BytL (h.set m c) x l := ⟨⟨mElems_setm hm hb r.1.1, r.1.2⟩, r.2⟩
theorem StR.setm {h : Heap} {m : Nat} {b c : Blk} {s : Stt} {vt vp vs vi va vb : AV} (r : StR h s vt vp vs vi va vb) (hm : h[m]? = some b) (hb : b.mode = .mp) : StR (h.set m c) s vt vp vs vi va vb :=
  ⟨r.ft.setm hm hb, r.fp.setm hm hb, r.fs.setm hm hb, r.fi.setm hm hb, r.fa.setm hm hb, r.fb.setm hm hb⟩

theorem pt_bytA {h : Heap} {i : Nat} {path : List Nat} {p : Pt} (hb : (bnd (blkAt h i 0) fun b => b.v.get path) = some (pt p)) : BytL h (.slice i 0 path (.int .u8) 0 32 (some 32)) p.l := by
  obtain ⟨b, h1, h2⟩ := bnd_eq_some.1 hb
  refine ⟨⟨?_, by rw [p.h]; exact ⟨rfl, Nat.le_refl _, rfl⟩⟩, by rw [p.h]; omega⟩
  rw [mElems_slc, h1, bnd_some, h2, bnd_some, p.h]
  unfold pt
  rw [arr_cut, if_pos (by omega)]
  exact congrArg some (arr_congr fun i _ => by rw [Nat.zero_add]; rfl)

/-! lists whose handles rise, and were not seen -/
def goodAt (seen ps : List Pt) (i : Nat) : Bool := !decide (ps.getD i pt0 ∈ seen ++ ps.take i) && (decide (i = 0) || decide (cmpB (ps.getD (i - 1) pt0).l (ps.getD i pt0).l < 0))
def riseB (seen ps : List Pt) : Bool := (List.range ps.length).all (goodAt seen ps)
theorem riseB_no {seen ps : List Pt} {i : Nat} (hi : i < ps.length) (h : goodAt seen ps i = false) : riseB seen ps = false := by
  unfold riseB
  rw [List.all_eq_false]
  exact ⟨i, List.mem_range.2 hi, by simp [h]⟩
theorem riseB_yes {seen ps : List Pt} (h : ∀ i, i < ps.length → goodAt seen ps i = true) : riseB seen ps = true := by
  unfold riseB
  rw [List.all_eq_true]
  exact fun i hi => h i (List.mem_range.1 hi)
@[simp] theorem int_lt (k : IntKind) (a b : Int) : mBin .lss (.int k a) (.int k b) = some (.bool (decide (a < b))) := by simp [mBin, mBinI]
@[simp] theorem int_ge (a : Int) : mBin .geq (.int .i64 a) (nat 0) = some (.bool (decide (0 ≤ a))) := by simp [mBin, mBinI, nat]

theorem unders_pt (n : Nat) : ∀ l : List Pt, AV.unders n (l.map pt) = true
  | [] => rfl
  | p :: l => by simp only [List.map_cons, AV.unders, unders_pt n l, pt_bi, AV.under, Bool.and_self]
@[simp] theorem mMkMap_eq (h : Heap) : mMkMap h = some (.map h.length, h ++ [⟨.node [], 0, .mp⟩]) := rfl
theorem map_new {h : Heap} {c : Blk} {l : List Pt} : (h ++ [c, ⟨.node (l.map pt), 0, .mp⟩])[h.length + 1]? = some ⟨.node (l.map pt), 0, .mp⟩ := by
  rw [List.getElem?_append_right (by omega), Nat.add_sub_cancel_left]; rfl
theorem map_put {h : Heap} {c d e : Blk} : (h ++ [c, d]).set (h.length + 1) e = h ++ [c, e] := by simp

end Go.Vab

/-
  Which states may be.
-/
namespace Go.Vab
open Go

def sE (a : Stt) : List Pt := a.seats.map (·.who.e)
def iE (a : Stt) : List Pt := a.invites.map (·.who.e)
def aE (a : Stt) : List Pt := a.asks.map (·.who.e)
def bE (a : Stt) : List Pt := a.bans.map (·.who.e)
def shapeS (a : Stt) : Bool := !(decide (200 < a.title.length) || decide (a.pass.length % 16 ≠ 0) || decide (16 < a.pass.length) || !accOk a.acc)
def mayS (a : Stt) : Bool := shapeS a && ((decide (a.seats.length ≤ 40) && riseB [] (sE a)) && ((decide (a.invites.length ≤ 40) && riseB (sE a) (iE a)) && ((decide (a.asks.length ≤ 40) && riseB (sE a ++ iE a) (aE a)) &&
  ((decide (a.bans.length ≤ 40) && riseB (sE a ++ iE a ++ aE a) (bE a)) && (!(a.seats.any fun s => !roleOk s.role) && !(a.invites.any fun s => !roleOk s.role))))))
theorem mayS_slim {a : Stt} (h : mayS a = true) : slimS a := by
  unfold mayS shapeS at h
  simp only [Bool.and_eq_true, decide_eq_true_eq, Bool.not_eq_true', Bool.or_eq_false_iff, decide_eq_false_iff_not] at h
  unfold slimS
  omega

end Go.Vab

/-
  The map of handles, and bytealg.Compare, of this seat.
-/
namespace Go.Vab
open Go Go.Proofs

theorem mapT_ok : MapT Try.prog 126 := mapT_mk TT_ok (k := 24) (e := 3) (b := 5) (by kernel_rfl) (by kernel_rfl) (by kernel_rfl) (el := ⟨.int .i64, 8, nat 0, none, some .i64, false, none, false⟩) (by kernel_rfl) (by kernel_rfl) (by rfl) (of_decide_eq_true (by kernel_rfl)) (by kernel_rfl) (by kernel_rfl) (by kernel_rfl) (by kernel_rfl)
@[simp] theorem ifT_map {α : Type} (x : Option α) : ifT Try.prog 126 x = x := ifT_pos mapT_ok x
theorem c69 {h : Heap} {x y : AV} {a b : Bs} (hx : BytL h x a) (hy : BytL h y b) : SpecQ Try.prog 69 [x, y] h fun r => r = (.int .i64 (cmpB a b), h) :=
  cmp_spec (fn := Try.f69) (by kernel_rfl) (by kernel_rfl) (by kernel_rfl) (by rfl) (by rfl) hx hy

end Go.Vab

/- How the code of a function is read. Printed by wip/tools/gen2.py (own work). -/
namespace Go.Vab
open Go Go.Proofs
/-! bytes.Compare -/
def cx66 : Ctx := ⟨fun _ _ _ => none, TT, 8, [5, 6, 7]⟩
noncomputable def n66_0 : Code := bodyOf Try.f66
noncomputable def n66_1 : Code := cR n66_0
noncomputable def n66_2 : Code := cR n66_1
theorem n66_2_eq (Q : Ex × St → Prop) (s : St) : wC Try.prog cx66 n66_2 Q s = Q (.ret, s) := yE
theorem n66_1_eq (Q : Ex × St → Prop) (env : Env) (h : Heap) : wC Try.prog cx66 n66_1 Q ⟨env, h⟩ = (SpecA Try.prog 69 [(env.get 0), (env.get 1)] h fun r2 => wC Try.prog cx66 n66_2 Q ⟨(Env.put env 4 r2.1), r2.2⟩) := (ySR 1 (cOps (cL n66_1)) (cR n66_1)).trans (by
  refine w0 ?_
  refine wT 5 (env.get 0) ?_
  refine wT 6 (env.get 1) ?_
  refine wH 7 fun r2 => ?_
  refine wT 4 r2.1 ?_
  exact wE)
theorem n66_0_eq (Q : Ex × St → Prop) (env : Env) (h : Heap) : wC Try.prog cx66 n66_0 Q ⟨env, h⟩ = ( wC Try.prog cx66 n66_1 Q ⟨(Env.put env 4 (nat 0)), h⟩) := (ySR 0 (cOps (cL n66_0)) (cR n66_0)).trans (by
  refine w0 ?_
  refine wT 4 (nat 0) ?_
  exact wE)
theorem fn66 : Try.prog.funcs[66]? = some Try.f66 := by kernel_rfl
theorem q66 {a0 a1 : AV} {h : Heap} {K : AV × Heap → Prop} (H : ∀ env : Env, env.get 0 = a0 → env.get 1 = a1 → wC Try.prog cx66 n66_0 (retW (fun s => (bnd (some (s.env.get 4)) fun v => bnd (some []) fun vs => some (v :: vs))) K) ⟨env, h⟩) : SpecQ Try.prog 66 [a0, a1] h K :=
  bodyW_sound (C := cx66) TT_ok mixed_ok fn66 (by kernel_rfl) (show _ = some n66_0 by kernel_rfl) (by kernel_rfl) (by kernel_rfl) (of_decide_eq_true (by kernel_rfl)) ((show wC Try.prog cx66 n66_0 (retW (fun s => resAll cx66 s Try.f66.results.toList) K) ⟨env0 cx66 [a0, a1], h⟩ = wC Try.prog cx66 n66_0 (retW (fun s => (bnd (some (s.env.get 4)) fun v => bnd (some []) fun vs => some (v :: vs))) K) ⟨[(0, a0), (1, a1), (2, .junk), (3, .junk), (4, .junk)], h⟩ by kernel_rfl).mpr (H [(0, a0), (1, a1), (2, .junk), (3, .junk), (4, .junk)] rfl rfl))
def sn66 := And.intro n66_2_eq (And.intro n66_1_eq (n66_0_eq))
-- draws: 
end Go.Vab

/- How the code of a function is read. Printed by wip/tools/gen2.py (own work). -/
namespace Go.Vab
open Go Go.Proofs
/-! vestry/forms.rising[vestry/api.Seat] -/
def cx50 : Ctx := ⟨fun _ _ _ => none, TT, 46, [11, 12, 18, 19, 20, 21, 22, 23, 24, 25, 26, 27, 28, 29, 30, 31, 32, 33, 34, 35, 36, 37, 38, 40, 41, 42, 43, 44, 45]⟩
noncomputable def n50_0 : Code := bodyOf Try.f50
noncomputable def n50_1 : Code := cR n50_0
noncomputable def n50_2 : Code := cL n50_1
noncomputable def n50_3 : Code := cR n50_2
noncomputable def n50_4 : Code := cL n50_3
noncomputable def n50_5 : Code := cR n50_4
noncomputable def n50_6 : Code := cR n50_3
noncomputable def n50_7 : Code := cR n50_1
noncomputable def n50_8 : Code := cR n50_7
noncomputable def n50_9 : Code := cL n50_8
noncomputable def n50_10 : Code := cR n50_9
noncomputable def n50_11 : Code := cB n50_10
noncomputable def n50_12 : Code := cB n50_11
noncomputable def n50_13 : Code := cR n50_12
noncomputable def n50_14 : Code := cL n50_13
noncomputable def n50_15 : Code := cL n50_14
noncomputable def n50_16 : Code := cR n50_14
noncomputable def n50_17 : Code := cR n50_13
noncomputable def n50_18 : Code := cL n50_17
noncomputable def n50_19 : Code := cB n50_18
noncomputable def n50_20 : Code := cR n50_19
noncomputable def n50_21 : Code := cR n50_20
noncomputable def n50_22 : Code := cL n50_21
noncomputable def n50_23 : Code := cR n50_22
noncomputable def n50_24 : Code := cL n50_23
noncomputable def n50_25 : Code := cR n50_24
noncomputable def n50_26 : Code := cR n50_23
noncomputable def n50_27 : Code := cR n50_21
noncomputable def n50_28 : Code := cR n50_27
noncomputable def n50_29 : Code := cR n50_17
noncomputable def n50_30 : Code := cR n50_8
noncomputable def n50_31 : Code := cR n50_30
theorem n50_5_eq (Q : Ex × St → Prop) (s : St) : wC Try.prog cx50 n50_5 Q s = Q (.ret, s) := yE
theorem n50_4_eq (Q : Ex × St → Prop) (env : Env) (h : Heap) : wC Try.prog cx50 n50_4 Q ⟨env, h⟩ = ( wC Try.prog cx50 n50_5 Q ⟨(Env.put env 6 (.bool false)), h⟩) := (ySR 2 (cOps (cL n50_4)) (cR n50_4)).trans (by
  refine w0 ?_
  refine wT 6 (.bool false) ?_
  exact wE)
theorem n50_6_eq (Q : Ex × St → Prop) (s : St) : wC Try.prog cx50 n50_6 Q s = Q (.nrm, s) := yK
theorem n50_3_eq (Q : Ex × St → Prop) (s : St) : wC Try.prog cx50 n50_3 Q s = cndW (s.env.get 13) (wL Try.prog cx50 n50_4 Q s) (wL Try.prog cx50 n50_6 Q s) := yC 13 _ _
theorem n50_2_eq (Q : Ex × St → Prop) (env : Env) (h : Heap) : wC Try.prog cx50 n50_2 Q ⟨env, h⟩ = (Evs (mLenS (env.get 0)) fun v1 => Evs (mBin .gtr v1 (nat 40)) fun v2 => wC Try.prog cx50 n50_3 Q ⟨(Env.put env 13 v2), h⟩) := (ySR 1 (cOps (cL n50_2)) (cR n50_2)).trans (by
  refine w0 ?_
  refine wT 11 (env.get 0) ?_
  refine wP 12 fun v1 => ?_
  refine wP 13 fun v2 => ?_
  exact wE)
theorem n50_15_eq (Q : Ex × St → Prop) (s : St) : wC Try.prog cx50 n50_15 Q s = Q (.nrm, s) := yK
theorem n50_16_eq (Q : Ex × St → Prop) (s : St) : wC Try.prog cx50 n50_16 Q s = Q (.exit 0, s) := yX 0
theorem n50_14_eq (Q : Ex × St → Prop) (s : St) : wC Try.prog cx50 n50_14 Q s = cndW (s.env.get 17) (wL Try.prog cx50 n50_15 Q s) (wL Try.prog cx50 n50_16 Q s) := yC 17 _ _
theorem n50_25_eq (Q : Ex × St → Prop) (s : St) : wC Try.prog cx50 n50_25 Q s = Q (.ret, s) := yE
theorem n50_24_eq (Q : Ex × St → Prop) (env : Env) (h : Heap) : wC Try.prog cx50 n50_24 Q ⟨env, h⟩ = ( wC Try.prog cx50 n50_25 Q ⟨(Env.put env 6 (.bool false)), h⟩) := (ySR 9 (cOps (cL n50_24)) (cR n50_24)).trans (by
  refine w0 ?_
  refine wT 6 (.bool false) ?_
  exact wE)
theorem n50_26_eq (Q : Ex × St → Prop) (s : St) : wC Try.prog cx50 n50_26 Q s = Q (.nrm, s) := yK
theorem n50_23_eq (Q : Ex × St → Prop) (s : St) : wC Try.prog cx50 n50_23 Q s = cndW (s.env.get 39) (wL Try.prog cx50 n50_24 Q s) (wL Try.prog cx50 n50_26 Q s) := yC 39 _ _
theorem n50_22_ok : treeOk (cOps (cL n50_22)).toList [] [0, 0, 2, 7, 15, 31, 63, 127, 255, 511, 511, 1535, 4095, 8191, 16383, 32767] = true := by kernel_rfl
theorem n50_22_w (Q : Ex × St → Prop) (env : Env) (h : Heap) (H : Evs (mFieldAddr tCipher (env.get 10) 0) fun v1_1 => Evs (mLoad (.arr 32 (.int .u8)) v1_1 h) fun v2_2 => Evs (ifT Try.prog 126 (mLook (env.get 2) v2_2 h)) fun v3_3 => Evs (mBin .gtr v3_3 (nat 0)) fun v4_4 => Evs (gv v4_4 false (some (env.get 8))) fun v6_5 => Evs (gv v4_4 false (mBin .gtr v6_5 (nat 0))) fun v7_6 => Evs (gv v4_4 false (some v7_6)) fun v8_7 => Evs (gv v8_7 true (mSliceA (.arr 32 (.int .u8)) (env.get 7) none none none)) fun v9_8 => Evs (gv v8_7 true (mFieldAddr tCipher (env.get 10) 0)) fun v10_9 => Evs (gv v8_7 true (mSliceA (.arr 32 (.int .u8)) v10_9 none none none)) fun v11_10 => ValW (gW v8_7 true (SpecA Try.prog 66 [v9_8, v11_10] h) h) h fun v12_11 => Evs (gv v8_7 true (mBin .geq v12_11 (nat 0))) fun v13_12 => Evs (gv v4_4 false (mPick v8_7 v13_12 (.bool false))) fun v14_13 => Evs (mPick v4_4 (.bool true) v14_13) fun v15_14 => wC Try.prog cx50 n50_23 Q ⟨(Env.put env 39 v15_14), h⟩) : wC Try.prog cx50 n50_22 Q ⟨env, h⟩ := by
  refine ySD 8 (cOps (cL n50_22)) (cR n50_22) [] [0, 0, 2, 7, 15, 31, 63, 127, 255, 511, 511, 1535, 4095, 8191, 16383, 32767] [0, 1, 2, 3, 4, 5, 6, 7, 8, 9, 10, 11, 12, 13, 14, 15] n50_22_ok ?_
  refine rT 24 (env.get 2) ?_
  refine rP H 25 fun v1_1 H => ?_
  refine rP H 26 fun v2_2 H => ?_
  refine rP H 27 fun v3_3 H => ?_
  refine rP H 28 fun v4_4 H => ?_
  refine rT 29 v4_4 ?_
  refine rG H 30 fun v6_5 H => ?_
  refine rG H 31 fun v7_6 H => ?_
  refine rG H 32 fun v8_7 H => ?_
  refine rG H 33 fun v9_8 H => ?_
  refine rG H 34 fun v10_9 H => ?_
  refine rG H 35 fun v11_10 H => ?_
  refine rF H 36 (fun v12_11 H => ?_)
  refine rG H 37 fun v13_12 H => ?_
  refine rG H 38 fun v14_13 H => ?_
  refine rP H 39 fun v15_14 H => ?_
  refine rE ?_
  exact tE H
theorem n50_28_eq (Q : Ex × St → Prop) (env : Env) (h : Heap) : wC Try.prog cx50 n50_28 Q ⟨env, h⟩ = (Evs (mFieldAddr tCipher (env.get 10) 0) fun v0 => Evs (mLoad (.arr 32 (.int .u8)) v0 h) fun v1 => Evs (stU (.arr 32 (.int .u8)) (env.get 7) v1 h) fun r2 => Q (.nrm, ⟨env, r2.2⟩)) := (yR 11 (cOps n50_28)).trans (by
  refine w0 ?_
  refine wP 43 fun v0 => ?_
  refine wP 44 fun v1 => ?_
  refine wHn fun r2 => ?_
  exact wE)
theorem n50_27_eq (Q : Ex × St → Prop) (env : Env) (h : Heap) : wC Try.prog cx50 n50_27 Q ⟨env, h⟩ = (Evs (mFieldAddr tCipher (env.get 10) 0) fun v1 => Evs (mLoad (.arr 32 (.int .u8)) v1 h) fun v2 => Evs (ifT Try.prog 126 (mUpd (env.get 2) v2 (nat 1) h)) fun r3 => wC Try.prog cx50 n50_28 Q ⟨env, r3.2⟩) := (ySR 10 (cOps (cL n50_27)) (cR n50_27)).trans (by
  refine w0 ?_
  refine wT 40 (env.get 2) ?_
  refine wP 41 fun v1 => ?_
  refine wP 42 fun v2 => ?_
  refine wHn fun r3 => ?_
  exact wE)
theorem n50_21_eq (Q : Ex × St → Prop) (s : St) : wC Try.prog cx50 n50_21 Q s = wC Try.prog cx50 n50_22 (sqW (wC Try.prog cx50 n50_27) Q) s := yS _ _
theorem n50_20_eq (Q : Ex × St → Prop) (env : Env) (h : Heap) : wC Try.prog cx50 n50_20 Q ⟨env, h⟩ = (Evs (mLoad tSeat (env.get 9) h) fun v1 => fnA Try.prog (env.get 1) [v1] h fun r2 => Evs (mNew tCipher (.node [(arr 32 fun _ => 0#8), (arr 32 fun _ => 0#8)]) r2.2) fun r3 => Evs (stU tCipher r3.1 r2.1 r3.2) fun r4 => wC Try.prog cx50 n50_21 Q ⟨(Env.put env 10 r3.1), r4.2⟩) := (ySR 7 (cOps (cL n50_20)) (cR n50_20)).trans (by
  refine w0 ?_
  refine wT 21 (env.get 1) ?_
  refine wP 22 fun v1 => ?_
  refine wH 23 fun r2 => ?_
  refine wH 10 fun r3 => ?_
  refine wHn fun r4 => ?_
  exact wE)
theorem n50_19_eq (Q : Ex × St → Prop) (env : Env) (h : Heap) : wC Try.prog cx50 n50_19 Q ⟨env, h⟩ = (Evs (mIdxS tSeat (env.get 14) (env.get 16)) fun v1 => Evs (mLoad tSeat v1 h) fun v2 => Evs (mNew tSeat (.node [(.node [(arr 32 fun _ => 0#8), (arr 32 fun _ => 0#8)]), (u8 0#8), (u32 0#32)]) h) fun r3 => Evs (stU tSeat r3.1 v2 r3.2) fun r5 => wC Try.prog cx50 n50_20 Q ⟨(Env.put (Env.put env 9 r3.1) 8 (env.get 16)), r5.2⟩) := (ySR 6 (cOps (cL n50_19)) (cR n50_19)).trans (by
  refine w0 ?_
  refine wT 18 (env.get 16) ?_
  refine wP 19 fun v1 => ?_
  refine wP 20 fun v2 => ?_
  refine wH 9 fun r3 => ?_
  refine wT 8 (env.get 16) ?_
  refine wHn fun r5 => ?_
  exact wE)
theorem n50_18_eq (Q : Ex × St → Prop) (s : St) : wC Try.prog cx50 n50_18 Q s = wC Try.prog cx50 n50_19 (fun r => Q (inBlk 1 r)) s := yB 1 _
theorem n50_29_eq (Q : Ex × St → Prop) (env : Env) (h : Heap) : wC Try.prog cx50 n50_29 Q ⟨env, h⟩ = (Evs (mBin .add (env.get 16) (nat 1)) fun v0 => Q (.nrm, ⟨(Env.put env 16 v0), h⟩)) := (yR 12 (cOps n50_29)).trans (by
  refine w0 ?_
  refine wP 45 fun v0 => ?_
  refine wT 16 v0 ?_
  exact wE)
theorem n50_17_eq (Q : Ex × St → Prop) (s : St) : wC Try.prog cx50 n50_17 Q s = wC Try.prog cx50 n50_18 (sqW (wC Try.prog cx50 n50_29) Q) s := yS _ _
theorem n50_13_eq (Q : Ex × St → Prop) (s : St) : wC Try.prog cx50 n50_13 Q s = wC Try.prog cx50 n50_14 (sqW (wC Try.prog cx50 n50_17) Q) s := yS _ _
theorem n50_12_eq (Q : Ex × St → Prop) (env : Env) (h : Heap) : wC Try.prog cx50 n50_12 Q ⟨env, h⟩ = (Evs (mBin .lss (env.get 16) (env.get 15)) fun v0 => wC Try.prog cx50 n50_13 Q ⟨(Env.put env 17 v0), h⟩) := (ySR 5 (cOps (cL n50_12)) (cR n50_12)).trans (by
  refine w0 ?_
  refine wP 17 fun v0 => ?_
  exact wE)
theorem n50_11_eq (Q : Ex × St → Prop) (s : St) : wC Try.prog cx50 n50_11 Q s = loopW (wC Try.prog cx50 n50_12) Q s := yL _
theorem n50_10_eq (Q : Ex × St → Prop) (s : St) : wC Try.prog cx50 n50_10 Q s = wC Try.prog cx50 n50_11 (fun r => Q (inBlk 0 r)) s := yB 0 _
theorem n50_9_eq (Q : Ex × St → Prop) (env : Env) (h : Heap) : wC Try.prog cx50 n50_9 Q ⟨env, h⟩ = (Evs (mLenS (env.get 0)) fun v1 => wC Try.prog cx50 n50_10 Q ⟨(Env.put (Env.put (Env.put env 14 (env.get 0)) 15 v1) 16 (nat 0)), h⟩) := (ySR 4 (cOps (cL n50_9)) (cR n50_9)).trans (by
  refine w0 ?_
  refine wT 14 (env.get 0) ?_
  refine wP 15 fun v1 => ?_
  refine wT 16 (nat 0) ?_
  exact wE)
theorem n50_31_eq (Q : Ex × St → Prop) (s : St) : wC Try.prog cx50 n50_31 Q s = Q (.ret, s) := yE
theorem n50_30_eq (Q : Ex × St → Prop) (env : Env) (h : Heap) : wC Try.prog cx50 n50_30 Q ⟨env, h⟩ = ( wC Try.prog cx50 n50_31 Q ⟨(Env.put env 6 (.bool true)), h⟩) := (ySR 13 (cOps (cL n50_30)) (cR n50_30)).trans (by
  refine w0 ?_
  refine wT 6 (.bool true) ?_
  exact wE)
theorem n50_8_eq (Q : Ex × St → Prop) (s : St) : wC Try.prog cx50 n50_8 Q s = wC Try.prog cx50 n50_9 (sqW (wC Try.prog cx50 n50_30) Q) s := yS _ _
theorem n50_7_eq (Q : Ex × St → Prop) (env : Env) (h : Heap) : wC Try.prog cx50 n50_7 Q ⟨env, h⟩ = (Evs (mNew (.arr 32 (.int .u8)) (arr 32 fun _ => 0#8) h) fun r0 => wC Try.prog cx50 n50_8 Q ⟨(Env.put env 7 r0.1), r0.2⟩) := (ySR 3 (cOps (cL n50_7)) (cR n50_7)).trans (by
  refine w0 ?_
  refine wH 7 fun r0 => ?_
  exact wE)
theorem n50_1_eq (Q : Ex × St → Prop) (s : St) : wC Try.prog cx50 n50_1 Q s = wC Try.prog cx50 n50_2 (sqW (wC Try.prog cx50 n50_7) Q) s := yS _ _
theorem n50_0_eq (Q : Ex × St → Prop) (env : Env) (h : Heap) : wC Try.prog cx50 n50_0 Q ⟨env, h⟩ = ( wC Try.prog cx50 n50_1 Q ⟨(Env.put env 6 (.bool false)), h⟩) := (ySR 0 (cOps (cL n50_0)) (cR n50_0)).trans (by
  refine w0 ?_
  refine wT 6 (.bool false) ?_
  exact wE)
theorem fn50 : Try.prog.funcs[50]? = some Try.f50 := by kernel_rfl
theorem q50 {a0 a1 a2 : AV} {h : Heap} {K : AV × Heap → Prop} (H : ∀ env : Env, env.get 0 = a0 → env.get 1 = a1 → env.get 2 = a2 → wC Try.prog cx50 n50_0 (retW (fun s => (bnd (some (s.env.get 6)) fun v => bnd (some []) fun vs => some (v :: vs))) K) ⟨env, h⟩) : SpecQ Try.prog 50 [a0, a1, a2] h K :=
  bodyW_sound (C := cx50) TT_ok mixed_ok fn50 (by kernel_rfl) (show _ = some n50_0 by kernel_rfl) (by kernel_rfl) (by kernel_rfl) (of_decide_eq_true (by kernel_rfl)) ((show wC Try.prog cx50 n50_0 (retW (fun s => resAll cx50 s Try.f50.results.toList) K) ⟨env0 cx50 [a0, a1, a2], h⟩ = wC Try.prog cx50 n50_0 (retW (fun s => (bnd (some (s.env.get 6)) fun v => bnd (some []) fun vs => some (v :: vs))) K) ⟨[(0, a0), (1, a1), (2, a2), (3, .junk), (4, .junk), (5, .junk), (6, .junk), (7, .junk), (8, .junk), (9, .junk), (10, .junk), (13, .junk), (14, .junk), (15, .junk), (16, .junk), (17, .junk), (39, .junk)], h⟩ by kernel_rfl).mpr (H [(0, a0), (1, a1), (2, a2), (3, .junk), (4, .junk), (5, .junk), (6, .junk), (7, .junk), (8, .junk), (9, .junk), (10, .junk), (13, .junk), (14, .junk), (15, .junk), (16, .junk), (17, .junk), (39, .junk)] rfl rfl rfl))
def sn50 := And.intro n50_5_eq (And.intro n50_4_eq (And.intro n50_6_eq (And.intro n50_3_eq (And.intro n50_2_eq (And.intro n50_15_eq (And.intro n50_16_eq (And.intro n50_14_eq (And.intro n50_25_eq (And.intro n50_24_eq (And.intro n50_26_eq (And.intro n50_23_eq (And.intro n50_28_eq (And.intro n50_27_eq (And.intro n50_21_eq (And.intro n50_20_eq (And.intro n50_19_eq (And.intro n50_18_eq (And.intro n50_29_eq (And.intro n50_17_eq (And.intro n50_13_eq (And.intro n50_12_eq (And.intro n50_11_eq (And.intro n50_10_eq (And.intro n50_9_eq (And.intro n50_31_eq (And.intro n50_30_eq (And.intro n50_8_eq (And.intro n50_7_eq (And.intro n50_1_eq (n50_0_eq))))))))))))))))))))))))))))))
-- draws: n50_22
end Go.Vab

/- How the code of a function is read. Printed by wip/tools/gen2.py (own work). -/
namespace Go.Vab
open Go Go.Proofs
/-! vestry/forms.rising[vestry/api.Invite] -/
def cx52 : Ctx := ⟨fun _ _ _ => none, TT, 46, [11, 12, 18, 19, 20, 21, 22, 23, 24, 25, 26, 27, 28, 29, 30, 31, 32, 33, 34, 35, 36, 37, 38, 40, 41, 42, 43, 44, 45]⟩
noncomputable def n52_0 : Code := bodyOf Try.f52
noncomputable def n52_1 : Code := cR n52_0
noncomputable def n52_2 : Code := cL n52_1
noncomputable def n52_3 : Code := cR n52_2
noncomputable def n52_4 : Code := cL n52_3
noncomputable def n52_5 : Code := cR n52_4
noncomputable def n52_6 : Code := cR n52_3
noncomputable def n52_7 : Code := cR n52_1
noncomputable def n52_8 : Code := cR n52_7
noncomputable def n52_9 : Code := cL n52_8
noncomputable def n52_10 : Code := cR n52_9
noncomputable def n52_11 : Code := cB n52_10
noncomputable def n52_12 : Code := cB n52_11
noncomputable def n52_13 : Code := cR n52_12
noncomputable def n52_14 : Code := cL n52_13
noncomputable def n52_15 : Code := cL n52_14
noncomputable def n52_16 : Code := cR n52_14
noncomputable def n52_17 : Code := cR n52_13
noncomputable def n52_18 : Code := cL n52_17
noncomputable def n52_19 : Code := cB n52_18
noncomputable def n52_20 : Code := cR n52_19
noncomputable def n52_21 : Code := cR n52_20
noncomputable def n52_22 : Code := cL n52_21
noncomputable def n52_23 : Code := cR n52_22
noncomputable def n52_24 : Code := cL n52_23
noncomputable def n52_25 : Code := cR n52_24
noncomputable def n52_26 : Code := cR n52_23
noncomputable def n52_27 : Code := cR n52_21
noncomputable def n52_28 : Code := cR n52_27
noncomputable def n52_29 : Code := cR n52_17
noncomputable def n52_30 : Code := cR n52_8
noncomputable def n52_31 : Code := cR n52_30
theorem n52_5_eq (Q : Ex × St → Prop) (s : St) : wC Try.prog cx52 n52_5 Q s = Q (.ret, s) := yE
theorem n52_4_eq (Q : Ex × St → Prop) (env : Env) (h : Heap) : wC Try.prog cx52 n52_4 Q ⟨env, h⟩ = ( wC Try.prog cx52 n52_5 Q ⟨(Env.put env 6 (.bool false)), h⟩) := (ySR 2 (cOps (cL n52_4)) (cR n52_4)).trans (by
  refine w0 ?_
  refine wT 6 (.bool false) ?_
  exact wE)
theorem n52_6_eq (Q : Ex × St → Prop) (s : St) : wC Try.prog cx52 n52_6 Q s = Q (.nrm, s) := yK
theorem n52_3_eq (Q : Ex × St → Prop) (s : St) : wC Try.prog cx52 n52_3 Q s = cndW (s.env.get 13) (wL Try.prog cx52 n52_4 Q s) (wL Try.prog cx52 n52_6 Q s) := yC 13 _ _
theorem n52_2_eq (Q : Ex × St → Prop) (env : Env) (h : Heap) : wC Try.prog cx52 n52_2 Q ⟨env, h⟩ = (Evs (mLenS (env.get 0)) fun v1 => Evs (mBin .gtr v1 (nat 40)) fun v2 => wC Try.prog cx52 n52_3 Q ⟨(Env.put env 13 v2), h⟩) := (ySR 1 (cOps (cL n52_2)) (cR n52_2)).trans (by
  refine w0 ?_
  refine wT 11 (env.get 0) ?_
  refine wP 12 fun v1 => ?_
  refine wP 13 fun v2 => ?_
  exact wE)
theorem n52_15_eq (Q : Ex × St → Prop) (s : St) : wC Try.prog cx52 n52_15 Q s = Q (.nrm, s) := yK
theorem n52_16_eq (Q : Ex × St → Prop) (s : St) : wC Try.prog cx52 n52_16 Q s = Q (.exit 0, s) := yX 0
theorem n52_14_eq (Q : Ex × St → Prop) (s : St) : wC Try.prog cx52 n52_14 Q s = cndW (s.env.get 17) (wL Try.prog cx52 n52_15 Q s) (wL Try.prog cx52 n52_16 Q s) := yC 17 _ _
theorem n52_25_eq (Q : Ex × St → Prop) (s : St) : wC Try.prog cx52 n52_25 Q s = Q (.ret, s) := yE
theorem n52_24_eq (Q : Ex × St → Prop) (env : Env) (h : Heap) : wC Try.prog cx52 n52_24 Q ⟨env, h⟩ = ( wC Try.prog cx52 n52_25 Q ⟨(Env.put env 6 (.bool false)), h⟩) := (ySR 9 (cOps (cL n52_24)) (cR n52_24)).trans (by
  refine w0 ?_
  refine wT 6 (.bool false) ?_
  exact wE)
theorem n52_26_eq (Q : Ex × St → Prop) (s : St) : wC Try.prog cx52 n52_26 Q s = Q (.nrm, s) := yK
theorem n52_23_eq (Q : Ex × St → Prop) (s : St) : wC Try.prog cx52 n52_23 Q s = cndW (s.env.get 39) (wL Try.prog cx52 n52_24 Q s) (wL Try.prog cx52 n52_26 Q s) := yC 39 _ _
theorem n52_22_ok : treeOk (cOps (cL n52_22)).toList [] [0, 0, 2, 7, 15, 31, 63, 127, 255, 511, 511, 1535, 4095, 8191, 16383, 32767] = true := by kernel_rfl
theorem n52_22_w (Q : Ex × St → Prop) (env : Env) (h : Heap) (H : Evs (mFieldAddr tCipher (env.get 10) 0) fun v1_1 => Evs (mLoad (.arr 32 (.int .u8)) v1_1 h) fun v2_2 => Evs (ifT Try.prog 126 (mLook (env.get 2) v2_2 h)) fun v3_3 => Evs (mBin .gtr v3_3 (nat 0)) fun v4_4 => Evs (gv v4_4 false (some (env.get 8))) fun v6_5 => Evs (gv v4_4 false (mBin .gtr v6_5 (nat 0))) fun v7_6 => Evs (gv v4_4 false (some v7_6)) fun v8_7 => Evs (gv v8_7 true (mSliceA (.arr 32 (.int .u8)) (env.get 7) none none none)) fun v9_8 => Evs (gv v8_7 true (mFieldAddr tCipher (env.get 10) 0)) fun v10_9 => Evs (gv v8_7 true (mSliceA (.arr 32 (.int .u8)) v10_9 none none none)) fun v11_10 => ValW (gW v8_7 true (SpecA Try.prog 66 [v9_8, v11_10] h) h) h fun v12_11 => Evs (gv v8_7 true (mBin .geq v12_11 (nat 0))) fun v13_12 => Evs (gv v4_4 false (mPick v8_7 v13_12 (.bool false))) fun v14_13 => Evs (mPick v4_4 (.bool true) v14_13) fun v15_14 => wC Try.prog cx52 n52_23 Q ⟨(Env.put env 39 v15_14), h⟩) : wC Try.prog cx52 n52_22 Q ⟨env, h⟩ := by
  refine ySD 8 (cOps (cL n52_22)) (cR n52_22) [] [0, 0, 2, 7, 15, 31, 63, 127, 255, 511, 511, 1535, 4095, 8191, 16383, 32767] [0, 1, 2, 3, 4, 5, 6, 7, 8, 9, 10, 11, 12, 13, 14, 15] n52_22_ok ?_
  refine rT 24 (env.get 2) ?_
  refine rP H 25 fun v1_1 H => ?_
  refine rP H 26 fun v2_2 H => ?_
  refine rP H 27 fun v3_3 H => ?_
  refine rP H 28 fun v4_4 H => ?_
  refine rT 29 v4_4 ?_
  refine rG H 30 fun v6_5 H => ?_
  refine rG H 31 fun v7_6 H => ?_
  refine rG H 32 fun v8_7 H => ?_
  refine rG H 33 fun v9_8 H => ?_
  refine rG H 34 fun v10_9 H => ?_
  refine rG H 35 fun v11_10 H => ?_
  refine rF H 36 (fun v12_11 H => ?_)
  refine rG H 37 fun v13_12 H => ?_
  refine rG H 38 fun v14_13 H => ?_
  refine rP H 39 fun v15_14 H => ?_
  refine rE ?_
  exact tE H
theorem n52_28_eq (Q : Ex × St → Prop) (env : Env) (h : Heap) : wC Try.prog cx52 n52_28 Q ⟨env, h⟩ = (Evs (mFieldAddr tCipher (env.get 10) 0) fun v0 => Evs (mLoad (.arr 32 (.int .u8)) v0 h) fun v1 => Evs (stU (.arr 32 (.int .u8)) (env.get 7) v1 h) fun r2 => Q (.nrm, ⟨env, r2.2⟩)) := (yR 11 (cOps n52_28)).trans (by
  refine w0 ?_
  refine wP 43 fun v0 => ?_
  refine wP 44 fun v1 => ?_
  refine wHn fun r2 => ?_
  exact wE)
theorem n52_27_eq (Q : Ex × St → Prop) (env : Env) (h : Heap) : wC Try.prog cx52 n52_27 Q ⟨env, h⟩ = (Evs (mFieldAddr tCipher (env.get 10) 0) fun v1 => Evs (mLoad (.arr 32 (.int .u8)) v1 h) fun v2 => Evs (ifT Try.prog 126 (mUpd (env.get 2) v2 (nat 1) h)) fun r3 => wC Try.prog cx52 n52_28 Q ⟨env, r3.2⟩) := (ySR 10 (cOps (cL n52_27)) (cR n52_27)).trans (by
  refine w0 ?_
  refine wT 40 (env.get 2) ?_
  refine wP 41 fun v1 => ?_
  refine wP 42 fun v2 => ?_
  refine wHn fun r3 => ?_
  exact wE)
theorem n52_21_eq (Q : Ex × St → Prop) (s : St) : wC Try.prog cx52 n52_21 Q s = wC Try.prog cx52 n52_22 (sqW (wC Try.prog cx52 n52_27) Q) s := yS _ _
theorem n52_20_eq (Q : Ex × St → Prop) (env : Env) (h : Heap) : wC Try.prog cx52 n52_20 Q ⟨env, h⟩ = (Evs (mLoad tInvite (env.get 9) h) fun v1 => fnA Try.prog (env.get 1) [v1] h fun r2 => Evs (mNew tCipher (.node [(arr 32 fun _ => 0#8), (arr 32 fun _ => 0#8)]) r2.2) fun r3 => Evs (stU tCipher r3.1 r2.1 r3.2) fun r4 => wC Try.prog cx52 n52_21 Q ⟨(Env.put env 10 r3.1), r4.2⟩) := (ySR 7 (cOps (cL n52_20)) (cR n52_20)).trans (by
  refine w0 ?_
  refine wT 21 (env.get 1) ?_
  refine wP 22 fun v1 => ?_
  refine wH 23 fun r2 => ?_
  refine wH 10 fun r3 => ?_
  refine wHn fun r4 => ?_
  exact wE)
theorem n52_19_eq (Q : Ex × St → Prop) (env : Env) (h : Heap) : wC Try.prog cx52 n52_19 Q ⟨env, h⟩ = (Evs (mIdxS tInvite (env.get 14) (env.get 16)) fun v1 => Evs (mLoad tInvite v1 h) fun v2 => Evs (mNew tInvite (.node [(.node [(arr 32 fun _ => 0#8), (arr 32 fun _ => 0#8)]), (u8 0#8), (.node [(arr 32 fun _ => 0#8), (arr 32 fun _ => 0#8)])]) h) fun r3 => Evs (stU tInvite r3.1 v2 r3.2) fun r5 => wC Try.prog cx52 n52_20 Q ⟨(Env.put (Env.put env 9 r3.1) 8 (env.get 16)), r5.2⟩) := (ySR 6 (cOps (cL n52_19)) (cR n52_19)).trans (by
  refine w0 ?_
  refine wT 18 (env.get 16) ?_
  refine wP 19 fun v1 => ?_
  refine wP 20 fun v2 => ?_
  refine wH 9 fun r3 => ?_
  refine wT 8 (env.get 16) ?_
  refine wHn fun r5 => ?_
  exact wE)
theorem n52_18_eq (Q : Ex × St → Prop) (s : St) : wC Try.prog cx52 n52_18 Q s = wC Try.prog cx52 n52_19 (fun r => Q (inBlk 1 r)) s := yB 1 _
theorem n52_29_eq (Q : Ex × St → Prop) (env : Env) (h : Heap) : wC Try.prog cx52 n52_29 Q ⟨env, h⟩ = (Evs (mBin .add (env.get 16) (nat 1)) fun v0 => Q (.nrm, ⟨(Env.put env 16 v0), h⟩)) := (yR 12 (cOps n52_29)).trans (by
  refine w0 ?_
  refine wP 45 fun v0 => ?_
  refine wT 16 v0 ?_
  exact wE)
theorem n52_17_eq (Q : Ex × St → Prop) (s : St) : wC Try.prog cx52 n52_17 Q s = wC Try.prog cx52 n52_18 (sqW (wC Try.prog cx52 n52_29) Q) s := yS _ _
theorem n52_13_eq (Q : Ex × St → Prop) (s : St) : wC Try.prog cx52 n52_13 Q s = wC Try.prog cx52 n52_14 (sqW (wC Try.prog cx52 n52_17) Q) s := yS _ _
theorem n52_12_eq (Q : Ex × St → Prop) (env : Env) (h : Heap) : wC Try.prog cx52 n52_12 Q ⟨env, h⟩ = (Evs (mBin .lss (env.get 16) (env.get 15)) fun v0 => wC Try.prog cx52 n52_13 Q ⟨(Env.put env 17 v0), h⟩) := (ySR 5 (cOps (cL n52_12)) (cR n52_12)).trans (by
  refine w0 ?_
  refine wP 17 fun v0 => ?_
  exact wE)
theorem n52_11_eq (Q : Ex × St → Prop) (s : St) : wC Try.prog cx52 n52_11 Q s = loopW (wC Try.prog cx52 n52_12) Q s := yL _
theorem n52_10_eq (Q : Ex × St → Prop) (s : St) : wC Try.prog cx52 n52_10 Q s = wC Try.prog cx52 n52_11 (fun r => Q (inBlk 0 r)) s := yB 0 _
theorem n52_9_eq (Q : Ex × St → Prop) (env : Env) (h : Heap) : wC Try.prog cx52 n52_9 Q ⟨env, h⟩ = (Evs (mLenS (env.get 0)) fun v1 => wC Try.prog cx52 n52_10 Q ⟨(Env.put (Env.put (Env.put env 14 (env.get 0)) 15 v1) 16 (nat 0)), h⟩) := (ySR 4 (cOps (cL n52_9)) (cR n52_9)).trans (by
  refine w0 ?_
  refine wT 14 (env.get 0) ?_
  refine wP 15 fun v1 => ?_
  refine wT 16 (nat 0) ?_
  exact wE)
theorem n52_31_eq (Q : Ex × St → Prop) (s : St) : wC Try.prog cx52 n52_31 Q s = Q (.ret, s) := yE
theorem n52_30_eq (Q : Ex × St → Prop) (env : Env) (h : Heap) : wC Try.prog cx52 n52_30 Q ⟨env, h⟩ = ( wC Try.prog cx52 n52_31 Q ⟨(Env.put env 6 (.bool true)), h⟩) := (ySR 13 (cOps (cL n52_30)) (cR n52_30)).trans (by
  refine w0 ?_
  refine wT 6 (.bool true) ?_
  exact wE)
theorem n52_8_eq (Q : Ex × St → Prop) (s : St) : wC Try.prog cx52 n52_8 Q s = wC Try.prog cx52 n52_9 (sqW (wC Try.prog cx52 n52_30) Q) s := yS _ _
theorem n52_7_eq (Q : Ex × St → Prop) (env : Env) (h : Heap) : wC Try.prog cx52 n52_7 Q ⟨env, h⟩ = (Evs (mNew (.arr 32 (.int .u8)) (arr 32 fun _ => 0#8) h) fun r0 => wC Try.prog cx52 n52_8 Q ⟨(Env.put env 7 r0.1), r0.2⟩) := (ySR 3 (cOps (cL n52_7)) (cR n52_7)).trans (by
  refine w0 ?_
  refine wH 7 fun r0 => ?_
  exact wE)
theorem n52_1_eq (Q : Ex × St → Prop) (s : St) : wC Try.prog cx52 n52_1 Q s = wC Try.prog cx52 n52_2 (sqW (wC Try.prog cx52 n52_7) Q) s := yS _ _
theorem n52_0_eq (Q : Ex × St → Prop) (env : Env) (h : Heap) : wC Try.prog cx52 n52_0 Q ⟨env, h⟩ = ( wC Try.prog cx52 n52_1 Q ⟨(Env.put env 6 (.bool false)), h⟩) := (ySR 0 (cOps (cL n52_0)) (cR n52_0)).trans (by
  refine w0 ?_
  refine wT 6 (.bool false) ?_
  exact wE)
theorem fn52 : Try.prog.funcs[52]? = some Try.f52 := by kernel_rfl
theorem q52 {a0 a1 a2 : AV} {h : Heap} {K : AV × Heap → Prop} (H : ∀ env : Env, env.get 0 = a0 → env.get 1 = a1 → env.get 2 = a2 → wC Try.prog cx52 n52_0 (retW (fun s => (bnd (some (s.env.get 6)) fun v => bnd (some []) fun vs => some (v :: vs))) K) ⟨env, h⟩) : SpecQ Try.prog 52 [a0, a1, a2] h K :=
  bodyW_sound (C := cx52) TT_ok mixed_ok fn52 (by kernel_rfl) (show _ = some n52_0 by kernel_rfl) (by kernel_rfl) (by kernel_rfl) (of_decide_eq_true (by kernel_rfl)) ((show wC Try.prog cx52 n52_0 (retW (fun s => resAll cx52 s Try.f52.results.toList) K) ⟨env0 cx52 [a0, a1, a2], h⟩ = wC Try.prog cx52 n52_0 (retW (fun s => (bnd (some (s.env.get 6)) fun v => bnd (some []) fun vs => some (v :: vs))) K) ⟨[(0, a0), (1, a1), (2, a2), (3, .junk), (4, .junk), (5, .junk), (6, .junk), (7, .junk), (8, .junk), (9, .junk), (10, .junk), (13, .junk), (14, .junk), (15, .junk), (16, .junk), (17, .junk), (39, .junk)], h⟩ by kernel_rfl).mpr (H [(0, a0), (1, a1), (2, a2), (3, .junk), (4, .junk), (5, .junk), (6, .junk), (7, .junk), (8, .junk), (9, .junk), (10, .junk), (13, .junk), (14, .junk), (15, .junk), (16, .junk), (17, .junk), (39, .junk)] rfl rfl rfl))
def sn52 := And.intro n52_5_eq (And.intro n52_4_eq (And.intro n52_6_eq (And.intro n52_3_eq (And.intro n52_2_eq (And.intro n52_15_eq (And.intro n52_16_eq (And.intro n52_14_eq (And.intro n52_25_eq (And.intro n52_24_eq (And.intro n52_26_eq (And.intro n52_23_eq (And.intro n52_28_eq (And.intro n52_27_eq (And.intro n52_21_eq (And.intro n52_20_eq (And.intro n52_19_eq (And.intro n52_18_eq (And.intro n52_29_eq (And.intro n52_17_eq (And.intro n52_13_eq (And.intro n52_12_eq (And.intro n52_11_eq (And.intro n52_10_eq (And.intro n52_9_eq (And.intro n52_31_eq (And.intro n52_30_eq (And.intro n52_8_eq (And.intro n52_7_eq (And.intro n52_1_eq (n52_0_eq))))))))))))))))))))))))))))))
-- draws: n52_22
end Go.Vab

/- How the code of a function is read. Printed by wip/tools/gen2.py (own work). -/
namespace Go.Vab
open Go Go.Proofs
/-! vestry/forms.rising[vestry/api.Ask] -/
def cx54 : Ctx := ⟨fun _ _ _ => none, TT, 46, [11, 12, 18, 19, 20, 21, 22, 23, 24, 25, 26, 27, 28, 29, 30, 31, 32, 33, 34, 35, 36, 37, 38, 40, 41, 42, 43, 44, 45]⟩
noncomputable def n54_0 : Code := bodyOf Try.f54
noncomputable def n54_1 : Code := cR n54_0
noncomputable def n54_2 : Code := cL n54_1
noncomputable def n54_3 : Code := cR n54_2
noncomputable def n54_4 : Code := cL n54_3
noncomputable def n54_5 : Code := cR n54_4
noncomputable def n54_6 : Code := cR n54_3
noncomputable def n54_7 : Code := cR n54_1
noncomputable def n54_8 : Code := cR n54_7
noncomputable def n54_9 : Code := cL n54_8
noncomputable def n54_10 : Code := cR n54_9
noncomputable def n54_11 : Code := cB n54_10
noncomputable def n54_12 : Code := cB n54_11
noncomputable def n54_13 : Code := cR n54_12
noncomputable def n54_14 : Code := cL n54_13
noncomputable def n54_15 : Code := cL n54_14
noncomputable def n54_16 : Code := cR n54_14
noncomputable def n54_17 : Code := cR n54_13
noncomputable def n54_18 : Code := cL n54_17
noncomputable def n54_19 : Code := cB n54_18
noncomputable def n54_20 : Code := cR n54_19
noncomputable def n54_21 : Code := cR n54_20
noncomputable def n54_22 : Code := cL n54_21
noncomputable def n54_23 : Code := cR n54_22
noncomputable def n54_24 : Code := cL n54_23
noncomputable def n54_25 : Code := cR n54_24
noncomputable def n54_26 : Code := cR n54_23
noncomputable def n54_27 : Code := cR n54_21
noncomputable def n54_28 : Code := cR n54_27
noncomputable def n54_29 : Code := cR n54_17
noncomputable def n54_30 : Code := cR n54_8
noncomputable def n54_31 : Code := cR n54_30
theorem n54_5_eq (Q : Ex × St → Prop) (s : St) : wC Try.prog cx54 n54_5 Q s = Q (.ret, s) := yE
theorem n54_4_eq (Q : Ex × St → Prop) (env : Env) (h : Heap) : wC Try.prog cx54 n54_4 Q ⟨env, h⟩ = ( wC Try.prog cx54 n54_5 Q ⟨(Env.put env 6 (.bool false)), h⟩) := (ySR 2 (cOps (cL n54_4)) (cR n54_4)).trans (by
  refine w0 ?_
  refine wT 6 (.bool false) ?_
  exact wE)
theorem n54_6_eq (Q : Ex × St → Prop) (s : St) : wC Try.prog cx54 n54_6 Q s = Q (.nrm, s) := yK
theorem n54_3_eq (Q : Ex × St → Prop) (s : St) : wC Try.prog cx54 n54_3 Q s = cndW (s.env.get 13) (wL Try.prog cx54 n54_4 Q s) (wL Try.prog cx54 n54_6 Q s) := yC 13 _ _
theorem n54_2_eq (Q : Ex × St → Prop) (env : Env) (h : Heap) : wC Try.prog cx54 n54_2 Q ⟨env, h⟩ = (Evs (mLenS (env.get 0)) fun v1 => Evs (mBin .gtr v1 (nat 40)) fun v2 => wC Try.prog cx54 n54_3 Q ⟨(Env.put env 13 v2), h⟩) := (ySR 1 (cOps (cL n54_2)) (cR n54_2)).trans (by
  refine w0 ?_
  refine wT 11 (env.get 0) ?_
  refine wP 12 fun v1 => ?_
  refine wP 13 fun v2 => ?_
  exact wE)
theorem n54_15_eq (Q : Ex × St → Prop) (s : St) : wC Try.prog cx54 n54_15 Q s = Q (.nrm, s) := yK
theorem n54_16_eq (Q : Ex × St → Prop) (s : St) : wC Try.prog cx54 n54_16 Q s = Q (.exit 0, s) := yX 0
theorem n54_14_eq (Q : Ex × St → Prop) (s : St) : wC Try.prog cx54 n54_14 Q s = cndW (s.env.get 17) (wL Try.prog cx54 n54_15 Q s) (wL Try.prog cx54 n54_16 Q s) := yC 17 _ _
theorem n54_25_eq (Q : Ex × St → Prop) (s : St) : wC Try.prog cx54 n54_25 Q s = Q (.ret, s) := yE
theorem n54_24_eq (Q : Ex × St → Prop) (env : Env) (h : Heap) : wC Try.prog cx54 n54_24 Q ⟨env, h⟩ = ( wC Try.prog cx54 n54_25 Q ⟨(Env.put env 6 (.bool false)), h⟩) := (ySR 9 (cOps (cL n54_24)) (cR n54_24)).trans (by
  refine w0 ?_
  refine wT 6 (.bool false) ?_
  exact wE)
theorem n54_26_eq (Q : Ex × St → Prop) (s : St) : wC Try.prog cx54 n54_26 Q s = Q (.nrm, s) := yK
theorem n54_23_eq (Q : Ex × St → Prop) (s : St) : wC Try.prog cx54 n54_23 Q s = cndW (s.env.get 39) (wL Try.prog cx54 n54_24 Q s) (wL Try.prog cx54 n54_26 Q s) := yC 39 _ _
theorem n54_22_ok : treeOk (cOps (cL n54_22)).toList [] [0, 0, 2, 7, 15, 31, 63, 127, 255, 511, 511, 1535, 4095, 8191, 16383, 32767] = true := by kernel_rfl
theorem n54_22_w (Q : Ex × St → Prop) (env : Env) (h : Heap) (H : Evs (mFieldAddr tCipher (env.get 10) 0) fun v1_1 => Evs (mLoad (.arr 32 (.int .u8)) v1_1 h) fun v2_2 => Evs (ifT Try.prog 126 (mLook (env.get 2) v2_2 h)) fun v3_3 => Evs (mBin .gtr v3_3 (nat 0)) fun v4_4 => Evs (gv v4_4 false (some (env.get 8))) fun v6_5 => Evs (gv v4_4 false (mBin .gtr v6_5 (nat 0))) fun v7_6 => Evs (gv v4_4 false (some v7_6)) fun v8_7 => Evs (gv v8_7 true (mSliceA (.arr 32 (.int .u8)) (env.get 7) none none none)) fun v9_8 => Evs (gv v8_7 true (mFieldAddr tCipher (env.get 10) 0)) fun v10_9 => Evs (gv v8_7 true (mSliceA (.arr 32 (.int .u8)) v10_9 none none none)) fun v11_10 => ValW (gW v8_7 true (SpecA Try.prog 66 [v9_8, v11_10] h) h) h fun v12_11 => Evs (gv v8_7 true (mBin .geq v12_11 (nat 0))) fun v13_12 => Evs (gv v4_4 false (mPick v8_7 v13_12 (.bool false))) fun v14_13 => Evs (mPick v4_4 (.bool true) v14_13) fun v15_14 => wC Try.prog cx54 n54_23 Q ⟨(Env.put env 39 v15_14), h⟩) : wC Try.prog cx54 n54_22 Q ⟨env, h⟩ := by
  refine ySD 8 (cOps (cL n54_22)) (cR n54_22) [] [0, 0, 2, 7, 15, 31, 63, 127, 255, 511, 511, 1535, 4095, 8191, 16383, 32767] [0, 1, 2, 3, 4, 5, 6, 7, 8, 9, 10, 11, 12, 13, 14, 15] n54_22_ok ?_
  refine rT 24 (env.get 2) ?_
  refine rP H 25 fun v1_1 H => ?_
  refine rP H 26 fun v2_2 H => ?_
  refine rP H 27 fun v3_3 H => ?_
  refine rP H 28 fun v4_4 H => ?_
  refine rT 29 v4_4 ?_
  refine rG H 30 fun v6_5 H => ?_
  refine rG H 31 fun v7_6 H => ?_
  refine rG H 32 fun v8_7 H => ?_
  refine rG H 33 fun v9_8 H => ?_
  refine rG H 34 fun v10_9 H => ?_
  refine rG H 35 fun v11_10 H => ?_
  refine rF H 36 (fun v12_11 H => ?_)
  refine rG H 37 fun v13_12 H => ?_
  refine rG H 38 fun v14_13 H => ?_
  refine rP H 39 fun v15_14 H => ?_
  refine rE ?_
  exact tE H
theorem n54_28_eq (Q : Ex × St → Prop) (env : Env) (h : Heap) : wC Try.prog cx54 n54_28 Q ⟨env, h⟩ = (Evs (mFieldAddr tCipher (env.get 10) 0) fun v0 => Evs (mLoad (.arr 32 (.int .u8)) v0 h) fun v1 => Evs (stU (.arr 32 (.int .u8)) (env.get 7) v1 h) fun r2 => Q (.nrm, ⟨env, r2.2⟩)) := (yR 11 (cOps n54_28)).trans (by
  refine w0 ?_
  refine wP 43 fun v0 => ?_
  refine wP 44 fun v1 => ?_
  refine wHn fun r2 => ?_
  exact wE)
theorem n54_27_eq (Q : Ex × St → Prop) (env : Env) (h : Heap) : wC Try.prog cx54 n54_27 Q ⟨env, h⟩ = (Evs (mFieldAddr tCipher (env.get 10) 0) fun v1 => Evs (mLoad (.arr 32 (.int .u8)) v1 h) fun v2 => Evs (ifT Try.prog 126 (mUpd (env.get 2) v2 (nat 1) h)) fun r3 => wC Try.prog cx54 n54_28 Q ⟨env, r3.2⟩) := (ySR 10 (cOps (cL n54_27)) (cR n54_27)).trans (by
  refine w0 ?_
  refine wT 40 (env.get 2) ?_
  refine wP 41 fun v1 => ?_
  refine wP 42 fun v2 => ?_
  refine wHn fun r3 => ?_
  exact wE)
theorem n54_21_eq (Q : Ex × St → Prop) (s : St) : wC Try.prog cx54 n54_21 Q s = wC Try.prog cx54 n54_22 (sqW (wC Try.prog cx54 n54_27) Q) s := yS _ _
theorem n54_20_eq (Q : Ex × St → Prop) (env : Env) (h : Heap) : wC Try.prog cx54 n54_20 Q ⟨env, h⟩ = (Evs (mLoad tAsk (env.get 9) h) fun v1 => fnA Try.prog (env.get 1) [v1] h fun r2 => Evs (mNew tCipher (.node [(arr 32 fun _ => 0#8), (arr 32 fun _ => 0#8)]) r2.2) fun r3 => Evs (stU tCipher r3.1 r2.1 r3.2) fun r4 => wC Try.prog cx54 n54_21 Q ⟨(Env.put env 10 r3.1), r4.2⟩) := (ySR 7 (cOps (cL n54_20)) (cR n54_20)).trans (by
  refine w0 ?_
  refine wT 21 (env.get 1) ?_
  refine wP 22 fun v1 => ?_
  refine wH 23 fun r2 => ?_
  refine wH 10 fun r3 => ?_
  refine wHn fun r4 => ?_
  exact wE)
theorem n54_19_eq (Q : Ex × St → Prop) (env : Env) (h : Heap) : wC Try.prog cx54 n54_19 Q ⟨env, h⟩ = (Evs (mIdxS tAsk (env.get 14) (env.get 16)) fun v1 => Evs (mLoad tAsk v1 h) fun v2 => Evs (mNew tAsk (.node [(.node [(arr 32 fun _ => 0#8), (arr 32 fun _ => 0#8)]), (u32 0#32)]) h) fun r3 => Evs (stU tAsk r3.1 v2 r3.2) fun r5 => wC Try.prog cx54 n54_20 Q ⟨(Env.put (Env.put env 9 r3.1) 8 (env.get 16)), r5.2⟩) := (ySR 6 (cOps (cL n54_19)) (cR n54_19)).trans (by
  refine w0 ?_
  refine wT 18 (env.get 16) ?_
  refine wP 19 fun v1 => ?_
  refine wP 20 fun v2 => ?_
  refine wH 9 fun r3 => ?_
  refine wT 8 (env.get 16) ?_
  refine wHn fun r5 => ?_
  exact wE)
theorem n54_18_eq (Q : Ex × St → Prop) (s : St) : wC Try.prog cx54 n54_18 Q s = wC Try.prog cx54 n54_19 (fun r => Q (inBlk 1 r)) s := yB 1 _
theorem n54_29_eq (Q : Ex × St → Prop) (env : Env) (h : Heap) : wC Try.prog cx54 n54_29 Q ⟨env, h⟩ = (Evs (mBin .add (env.get 16) (nat 1)) fun v0 => Q (.nrm, ⟨(Env.put env 16 v0), h⟩)) := (yR 12 (cOps n54_29)).trans (by
  refine w0 ?_
  refine wP 45 fun v0 => ?_
  refine wT 16 v0 ?_
  exact wE)
theorem n54_17_eq (Q : Ex × St → Prop) (s : St) : wC Try.prog cx54 n54_17 Q s = wC Try.prog cx54 n54_18 (sqW (wC Try.prog cx54 n54_29) Q) s := yS _ _
theorem n54_13_eq (Q : Ex × St → Prop) (s : St) : wC Try.prog cx54 n54_13 Q s = wC Try.prog cx54 n54_14 (sqW (wC Try.prog cx54 n54_17) Q) s := yS _ _
theorem n54_12_eq (Q : Ex × St → Prop) (env : Env) (h : Heap) : wC Try.prog cx54 n54_12 Q ⟨env, h⟩ = (Evs (mBin .lss (env.get 16) (env.get 15)) fun v0 => wC Try.prog cx54 n54_13 Q ⟨(Env.put env 17 v0), h⟩) := (ySR 5 (cOps (cL n54_12)) (cR n54_12)).trans (by
  refine w0 ?_
  refine wP 17 fun v0 => ?_
  exact wE)
theorem n54_11_eq (Q : Ex × St → Prop) (s : St) : wC Try.prog cx54 n54_11 Q s = loopW (wC Try.prog cx54 n54_12) Q s := yL _
theorem n54_10_eq (Q : Ex × St → Prop) (s : St) : wC Try.prog cx54 n54_10 Q s = wC Try.prog cx54 n54_11 (fun r => Q (inBlk 0 r)) s := yB 0 _
theorem n54_9_eq (Q : Ex × St → Prop) (env : Env) (h : Heap) : wC Try.prog cx54 n54_9 Q ⟨env, h⟩ = (Evs (mLenS (env.get 0)) fun v1 => wC Try.prog cx54 n54_10 Q ⟨(Env.put (Env.put (Env.put env 14 (env.get 0)) 15 v1) 16 (nat 0)), h⟩) := (ySR 4 (cOps (cL n54_9)) (cR n54_9)).trans (by
  refine w0 ?_
  refine wT 14 (env.get 0) ?_
  refine wP 15 fun v1 => ?_
  refine wT 16 (nat 0) ?_
  exact wE)
theorem n54_31_eq (Q : Ex × St → Prop) (s : St) : wC Try.prog cx54 n54_31 Q s = Q (.ret, s) := yE
theorem n54_30_eq (Q : Ex × St → Prop) (env : Env) (h : Heap) : wC Try.prog cx54 n54_30 Q ⟨env, h⟩ = ( wC Try.prog cx54 n54_31 Q ⟨(Env.put env 6 (.bool true)), h⟩) := (ySR 13 (cOps (cL n54_30)) (cR n54_30)).trans (by
  refine w0 ?_
  refine wT 6 (.bool true) ?_
  exact wE)
theorem n54_8_eq (Q : Ex × St → Prop) (s : St) : wC Try.prog cx54 n54_8 Q s = wC Try.prog cx54 n54_9 (sqW (wC Try.prog cx54 n54_30) Q) s := yS _ _
theorem n54_7_eq (Q : Ex × St → Prop) (env : Env) (h : Heap) : wC Try.prog cx54 n54_7 Q ⟨env, h⟩ = (Evs (mNew (.arr 32 (.int .u8)) (arr 32 fun _ => 0#8) h) fun r0 => wC Try.prog cx54 n54_8 Q ⟨(Env.put env 7 r0.1), r0.2⟩) := (ySR 3 (cOps (cL n54_7)) (cR n54_7)).trans (by
  refine w0 ?_
  refine wH 7 fun r0 => ?_
  exact wE)
theorem n54_1_eq (Q : Ex × St → Prop) (s : St) : wC Try.prog cx54 n54_1 Q s = wC Try.prog cx54 n54_2 (sqW (wC Try.prog cx54 n54_7) Q) s := yS _ _
theorem n54_0_eq (Q : Ex × St → Prop) (env : Env) (h : Heap) : wC Try.prog cx54 n54_0 Q ⟨env, h⟩ = ( wC Try.prog cx54 n54_1 Q ⟨(Env.put env 6 (.bool false)), h⟩) := (ySR 0 (cOps (cL n54_0)) (cR n54_0)).trans (by
  refine w0 ?_
  refine wT 6 (.bool false) ?_
  exact wE)
theorem fn54 : Try.prog.funcs[54]? = some Try.f54 := by kernel_rfl
theorem q54 {a0 a1 a2 : AV} {h : Heap} {K : AV × Heap → Prop} (H : ∀ env : Env, env.get 0 = a0 → env.get 1 = a1 → env.get 2 = a2 → wC Try.prog cx54 n54_0 (retW (fun s => (bnd (some (s.env.get 6)) fun v => bnd (some []) fun vs => some (v :: vs))) K) ⟨env, h⟩) : SpecQ Try.prog 54 [a0, a1, a2] h K :=
  bodyW_sound (C := cx54) TT_ok mixed_ok fn54 (by kernel_rfl) (show _ = some n54_0 by kernel_rfl) (by kernel_rfl) (by kernel_rfl) (of_decide_eq_true (by kernel_rfl)) ((show wC Try.prog cx54 n54_0 (retW (fun s => resAll cx54 s Try.f54.results.toList) K) ⟨env0 cx54 [a0, a1, a2], h⟩ = wC Try.prog cx54 n54_0 (retW (fun s => (bnd (some (s.env.get 6)) fun v => bnd (some []) fun vs => some (v :: vs))) K) ⟨[(0, a0), (1, a1), (2, a2), (3, .junk), (4, .junk), (5, .junk), (6, .junk), (7, .junk), (8, .junk), (9, .junk), (10, .junk), (13, .junk), (14, .junk), (15, .junk), (16, .junk), (17, .junk), (39, .junk)], h⟩ by kernel_rfl).mpr (H [(0, a0), (1, a1), (2, a2), (3, .junk), (4, .junk), (5, .junk), (6, .junk), (7, .junk), (8, .junk), (9, .junk), (10, .junk), (13, .junk), (14, .junk), (15, .junk), (16, .junk), (17, .junk), (39, .junk)] rfl rfl rfl))
def sn54 := And.intro n54_5_eq (And.intro n54_4_eq (And.intro n54_6_eq (And.intro n54_3_eq (And.intro n54_2_eq (And.intro n54_15_eq (And.intro n54_16_eq (And.intro n54_14_eq (And.intro n54_25_eq (And.intro n54_24_eq (And.intro n54_26_eq (And.intro n54_23_eq (And.intro n54_28_eq (And.intro n54_27_eq (And.intro n54_21_eq (And.intro n54_20_eq (And.intro n54_19_eq (And.intro n54_18_eq (And.intro n54_29_eq (And.intro n54_17_eq (And.intro n54_13_eq (And.intro n54_12_eq (And.intro n54_11_eq (And.intro n54_10_eq (And.intro n54_9_eq (And.intro n54_31_eq (And.intro n54_30_eq (And.intro n54_8_eq (And.intro n54_7_eq (And.intro n54_1_eq (n54_0_eq))))))))))))))))))))))))))))))
-- draws: n54_22
end Go.Vab

/- How the code of a function is read. Printed by wip/tools/gen2.py (own work). -/
namespace Go.Vab
open Go Go.Proofs
/-! vestry/forms.rising[vestry/api.Ban] -/
def cx56 : Ctx := ⟨fun _ _ _ => none, TT, 46, [11, 12, 18, 19, 20, 21, 22, 23, 24, 25, 26, 27, 28, 29, 30, 31, 32, 33, 34, 35, 36, 37, 38, 40, 41, 42, 43, 44, 45]⟩
noncomputable def n56_0 : Code := bodyOf Try.f56
noncomputable def n56_1 : Code := cR n56_0
noncomputable def n56_2 : Code := cL n56_1
noncomputable def n56_3 : Code := cR n56_2
noncomputable def n56_4 : Code := cL n56_3
noncomputable def n56_5 : Code := cR n56_4
noncomputable def n56_6 : Code := cR n56_3
noncomputable def n56_7 : Code := cR n56_1
noncomputable def n56_8 : Code := cR n56_7
noncomputable def n56_9 : Code := cL n56_8
noncomputable def n56_10 : Code := cR n56_9
noncomputable def n56_11 : Code := cB n56_10
noncomputable def n56_12 : Code := cB n56_11
noncomputable def n56_13 : Code := cR n56_12
noncomputable def n56_14 : Code := cL n56_13
noncomputable def n56_15 : Code := cL n56_14
noncomputable def n56_16 : Code := cR n56_14
noncomputable def n56_17 : Code := cR n56_13
noncomputable def n56_18 : Code := cL n56_17
noncomputable def n56_19 : Code := cB n56_18
noncomputable def n56_20 : Code := cR n56_19
noncomputable def n56_21 : Code := cR n56_20
noncomputable def n56_22 : Code := cL n56_21
noncomputable def n56_23 : Code := cR n56_22
noncomputable def n56_24 : Code := cL n56_23
noncomputable def n56_25 : Code := cR n56_24
noncomputable def n56_26 : Code := cR n56_23
noncomputable def n56_27 : Code := cR n56_21
noncomputable def n56_28 : Code := cR n56_27
noncomputable def n56_29 : Code := cR n56_17
noncomputable def n56_30 : Code := cR n56_8
noncomputable def n56_31 : Code := cR n56_30
theorem n56_5_eq (Q : Ex × St → Prop) (s : St) : wC Try.prog cx56 n56_5 Q s = Q (.ret, s) := yE
theorem n56_4_eq (Q : Ex × St → Prop) (env : Env) (h : Heap) : wC Try.prog cx56 n56_4 Q ⟨env, h⟩ = ( wC Try.prog cx56 n56_5 Q ⟨(Env.put env 6 (.bool false)), h⟩) := (ySR 2 (cOps (cL n56_4)) (cR n56_4)).trans (by
  refine w0 ?_
  refine wT 6 (.bool false) ?_
  exact wE)
theorem n56_6_eq (Q : Ex × St → Prop) (s : St) : wC Try.prog cx56 n56_6 Q s = Q (.nrm, s) := yK
theorem n56_3_eq (Q : Ex × St → Prop) (s : St) : wC Try.prog cx56 n56_3 Q s = cndW (s.env.get 13) (wL Try.prog cx56 n56_4 Q s) (wL Try.prog cx56 n56_6 Q s) := yC 13 _ _
theorem n56_2_eq (Q : Ex × St → Prop) (env : Env) (h : Heap) : wC Try.prog cx56 n56_2 Q ⟨env, h⟩ = (Evs (mLenS (env.get 0)) fun v1 => Evs (mBin .gtr v1 (nat 40)) fun v2 => wC Try.prog cx56 n56_3 Q ⟨(Env.put env 13 v2), h⟩) := (ySR 1 (cOps (cL n56_2)) (cR n56_2)).trans (by
  refine w0 ?_
  refine wT 11 (env.get 0) ?_
  refine wP 12 fun v1 => ?_
  refine wP 13 fun v2 => ?_
  exact wE)
theorem n56_15_eq (Q : Ex × St → Prop) (s : St) : wC Try.prog cx56 n56_15 Q s = Q (.nrm, s) := yK
theorem n56_16_eq (Q : Ex × St → Prop) (s : St) : wC Try.prog cx56 n56_16 Q s = Q (.exit 0, s) := yX 0
theorem n56_14_eq (Q : Ex × St → Prop) (s : St) : wC Try.prog cx56 n56_14 Q s = cndW (s.env.get 17) (wL Try.prog cx56 n56_15 Q s) (wL Try.prog cx56 n56_16 Q s) := yC 17 _ _
theorem n56_25_eq (Q : Ex × St → Prop) (s : St) : wC Try.prog cx56 n56_25 Q s = Q (.ret, s) := yE
theorem n56_24_eq (Q : Ex × St → Prop) (env : Env) (h : Heap) : wC Try.prog cx56 n56_24 Q ⟨env, h⟩ = ( wC Try.prog cx56 n56_25 Q ⟨(Env.put env 6 (.bool false)), h⟩) := (ySR 9 (cOps (cL n56_24)) (cR n56_24)).trans (by
  refine w0 ?_
  refine wT 6 (.bool false) ?_
  exact wE)
theorem n56_26_eq (Q : Ex × St → Prop) (s : St) : wC Try.prog cx56 n56_26 Q s = Q (.nrm, s) := yK
theorem n56_23_eq (Q : Ex × St → Prop) (s : St) : wC Try.prog cx56 n56_23 Q s = cndW (s.env.get 39) (wL Try.prog cx56 n56_24 Q s) (wL Try.prog cx56 n56_26 Q s) := yC 39 _ _
theorem n56_22_ok : treeOk (cOps (cL n56_22)).toList [] [0, 0, 2, 7, 15, 31, 63, 127, 255, 511, 511, 1535, 4095, 8191, 16383, 32767] = true := by kernel_rfl
theorem n56_22_w (Q : Ex × St → Prop) (env : Env) (h : Heap) (H : Evs (mFieldAddr tCipher (env.get 10) 0) fun v1_1 => Evs (mLoad (.arr 32 (.int .u8)) v1_1 h) fun v2_2 => Evs (ifT Try.prog 126 (mLook (env.get 2) v2_2 h)) fun v3_3 => Evs (mBin .gtr v3_3 (nat 0)) fun v4_4 => Evs (gv v4_4 false (some (env.get 8))) fun v6_5 => Evs (gv v4_4 false (mBin .gtr v6_5 (nat 0))) fun v7_6 => Evs (gv v4_4 false (some v7_6)) fun v8_7 => Evs (gv v8_7 true (mSliceA (.arr 32 (.int .u8)) (env.get 7) none none none)) fun v9_8 => Evs (gv v8_7 true (mFieldAddr tCipher (env.get 10) 0)) fun v10_9 => Evs (gv v8_7 true (mSliceA (.arr 32 (.int .u8)) v10_9 none none none)) fun v11_10 => ValW (gW v8_7 true (SpecA Try.prog 66 [v9_8, v11_10] h) h) h fun v12_11 => Evs (gv v8_7 true (mBin .geq v12_11 (nat 0))) fun v13_12 => Evs (gv v4_4 false (mPick v8_7 v13_12 (.bool false))) fun v14_13 => Evs (mPick v4_4 (.bool true) v14_13) fun v15_14 => wC Try.prog cx56 n56_23 Q ⟨(Env.put env 39 v15_14), h⟩) : wC Try.prog cx56 n56_22 Q ⟨env, h⟩ := by
  refine ySD 8 (cOps (cL n56_22)) (cR n56_22) [] [0, 0, 2, 7, 15, 31, 63, 127, 255, 511, 511, 1535, 4095, 8191, 16383, 32767] [0, 1, 2, 3, 4, 5, 6, 7, 8, 9, 10, 11, 12, 13, 14, 15] n56_22_ok ?_
  refine rT 24 (env.get 2) ?_
  refine rP H 25 fun v1_1 H => ?_
  refine rP H 26 fun v2_2 H => ?_
  refine rP H 27 fun v3_3 H => ?_
  refine rP H 28 fun v4_4 H => ?_
  refine rT 29 v4_4 ?_
  refine rG H 30 fun v6_5 H => ?_
  refine rG H 31 fun v7_6 H => ?_
  refine rG H 32 fun v8_7 H => ?_
  refine rG H 33 fun v9_8 H => ?_
  refine rG H 34 fun v10_9 H => ?_
  refine rG H 35 fun v11_10 H => ?_
  refine rF H 36 (fun v12_11 H => ?_)
  refine rG H 37 fun v13_12 H => ?_
  refine rG H 38 fun v14_13 H => ?_
  refine rP H 39 fun v15_14 H => ?_
  refine rE ?_
  exact tE H
theorem n56_28_eq (Q : Ex × St → Prop) (env : Env) (h : Heap) : wC Try.prog cx56 n56_28 Q ⟨env, h⟩ = (Evs (mFieldAddr tCipher (env.get 10) 0) fun v0 => Evs (mLoad (.arr 32 (.int .u8)) v0 h) fun v1 => Evs (stU (.arr 32 (.int .u8)) (env.get 7) v1 h) fun r2 => Q (.nrm, ⟨env, r2.2⟩)) := (yR 11 (cOps n56_28)).trans (by
  refine w0 ?_
  refine wP 43 fun v0 => ?_
  refine wP 44 fun v1 => ?_
  refine wHn fun r2 => ?_
  exact wE)
theorem n56_27_eq (Q : Ex × St → Prop) (env : Env) (h : Heap) : wC Try.prog cx56 n56_27 Q ⟨env, h⟩ = (Evs (mFieldAddr tCipher (env.get 10) 0) fun v1 => Evs (mLoad (.arr 32 (.int .u8)) v1 h) fun v2 => Evs (ifT Try.prog 126 (mUpd (env.get 2) v2 (nat 1) h)) fun r3 => wC Try.prog cx56 n56_28 Q ⟨env, r3.2⟩) := (ySR 10 (cOps (cL n56_27)) (cR n56_27)).trans (by
  refine w0 ?_
  refine wT 40 (env.get 2) ?_
  refine wP 41 fun v1 => ?_
  refine wP 42 fun v2 => ?_
  refine wHn fun r3 => ?_
  exact wE)
theorem n56_21_eq (Q : Ex × St → Prop) (s : St) : wC Try.prog cx56 n56_21 Q s = wC Try.prog cx56 n56_22 (sqW (wC Try.prog cx56 n56_27) Q) s := yS _ _
theorem n56_20_eq (Q : Ex × St → Prop) (env : Env) (h : Heap) : wC Try.prog cx56 n56_20 Q ⟨env, h⟩ = (Evs (mLoad tBan (env.get 9) h) fun v1 => fnA Try.prog (env.get 1) [v1] h fun r2 => Evs (mNew tCipher (.node [(arr 32 fun _ => 0#8), (arr 32 fun _ => 0#8)]) r2.2) fun r3 => Evs (stU tCipher r3.1 r2.1 r3.2) fun r4 => wC Try.prog cx56 n56_21 Q ⟨(Env.put env 10 r3.1), r4.2⟩) := (ySR 7 (cOps (cL n56_20)) (cR n56_20)).trans (by
  refine w0 ?_
  refine wT 21 (env.get 1) ?_
  refine wP 22 fun v1 => ?_
  refine wH 23 fun r2 => ?_
  refine wH 10 fun r3 => ?_
  refine wHn fun r4 => ?_
  exact wE)
theorem n56_19_eq (Q : Ex × St → Prop) (env : Env) (h : Heap) : wC Try.prog cx56 n56_19 Q ⟨env, h⟩ = (Evs (mIdxS tBan (env.get 14) (env.get 16)) fun v1 => Evs (mLoad tBan v1 h) fun v2 => Evs (mNew tBan (.node [(.node [(arr 32 fun _ => 0#8), (arr 32 fun _ => 0#8)]), (.node [(arr 32 fun _ => 0#8), (arr 32 fun _ => 0#8)])]) h) fun r3 => Evs (stU tBan r3.1 v2 r3.2) fun r5 => wC Try.prog cx56 n56_20 Q ⟨(Env.put (Env.put env 9 r3.1) 8 (env.get 16)), r5.2⟩) := (ySR 6 (cOps (cL n56_19)) (cR n56_19)).trans (by
  refine w0 ?_
  refine wT 18 (env.get 16) ?_
  refine wP 19 fun v1 => ?_
  refine wP 20 fun v2 => ?_
  refine wH 9 fun r3 => ?_
  refine wT 8 (env.get 16) ?_
  refine wHn fun r5 => ?_
  exact wE)
theorem n56_18_eq (Q : Ex × St → Prop) (s : St) : wC Try.prog cx56 n56_18 Q s = wC Try.prog cx56 n56_19 (fun r => Q (inBlk 1 r)) s := yB 1 _
theorem n56_29_eq (Q : Ex × St → Prop) (env : Env) (h : Heap) : wC Try.prog cx56 n56_29 Q ⟨env, h⟩ = (Evs (mBin .add (env.get 16) (nat 1)) fun v0 => Q (.nrm, ⟨(Env.put env 16 v0), h⟩)) := (yR 12 (cOps n56_29)).trans (by
  refine w0 ?_
  refine wP 45 fun v0 => ?_
  refine wT 16 v0 ?_
  exact wE)
theorem n56_17_eq (Q : Ex × St → Prop) (s : St) : wC Try.prog cx56 n56_17 Q s = wC Try.prog cx56 n56_18 (sqW (wC Try.prog cx56 n56_29) Q) s := yS _ _
theorem n56_13_eq (Q : Ex × St → Prop) (s : St) : wC Try.prog cx56 n56_13 Q s = wC Try.prog cx56 n56_14 (sqW (wC Try.prog cx56 n56_17) Q) s := yS _ _
theorem n56_12_eq (Q : Ex × St → Prop) (env : Env) (h : Heap) : wC Try.prog cx56 n56_12 Q ⟨env, h⟩ = (Evs (mBin .lss (env.get 16) (env.get 15)) fun v0 => wC Try.prog cx56 n56_13 Q ⟨(Env.put env 17 v0), h⟩) := (ySR 5 (cOps (cL n56_12)) (cR n56_12)).trans (by
  refine w0 ?_
  refine wP 17 fun v0 => ?_
  exact wE)
theorem n56_11_eq (Q : Ex × St → Prop) (s : St) : wC Try.prog cx56 n56_11 Q s = loopW (wC Try.prog cx56 n56_12) Q s := yL _
theorem n56_10_eq (Q : Ex × St → Prop) (s : St) : wC Try.prog cx56 n56_10 Q s = wC Try.prog cx56 n56_11 (fun r => Q (inBlk 0 r)) s := yB 0 _
theorem n56_9_eq (Q : Ex × St → Prop) (env : Env) (h : Heap) : wC Try.prog cx56 n56_9 Q ⟨env, h⟩ = (Evs (mLenS (env.get 0)) fun v1 => wC Try.prog cx56 n56_10 Q ⟨(Env.put (Env.put (Env.put env 14 (env.get 0)) 15 v1) 16 (nat 0)), h⟩) := (ySR 4 (cOps (cL n56_9)) (cR n56_9)).trans (by
  refine w0 ?_
  refine wT 14 (env.get 0) ?_
  refine wP 15 fun v1 => ?_
  refine wT 16 (nat 0) ?_
  exact wE)
theorem n56_31_eq (Q : Ex × St → Prop) (s : St) : wC Try.prog cx56 n56_31 Q s = Q (.ret, s) := yE
theorem n56_30_eq (Q : Ex × St → Prop) (env : Env) (h : Heap) : wC Try.prog cx56 n56_30 Q ⟨env, h⟩ = ( wC Try.prog cx56 n56_31 Q ⟨(Env.put env 6 (.bool true)), h⟩) := (ySR 13 (cOps (cL n56_30)) (cR n56_30)).trans (by
  refine w0 ?_
  refine wT 6 (.bool true) ?_
  exact wE)
theorem n56_8_eq (Q : Ex × St → Prop) (s : St) : wC Try.prog cx56 n56_8 Q s = wC Try.prog cx56 n56_9 (sqW (wC Try.prog cx56 n56_30) Q) s := yS _ _
theorem n56_7_eq (Q : Ex × St → Prop) (env : Env) (h : Heap) : wC Try.prog cx56 n56_7 Q ⟨env, h⟩ = (Evs (mNew (.arr 32 (.int .u8)) (arr 32 fun _ => 0#8) h) fun r0 => wC Try.prog cx56 n56_8 Q ⟨(Env.put env 7 r0.1), r0.2⟩) := (ySR 3 (cOps (cL n56_7)) (cR n56_7)).trans (by
  refine w0 ?_
  refine wH 7 fun r0 => ?_
  exact wE)
theorem n56_1_eq (Q : Ex × St → Prop) (s : St) : wC Try.prog cx56 n56_1 Q s = wC Try.prog cx56 n56_2 (sqW (wC Try.prog cx56 n56_7) Q) s := yS _ _
theorem n56_0_eq (Q : Ex × St → Prop) (env : Env) (h : Heap) : wC Try.prog cx56 n56_0 Q ⟨env, h⟩ = ( wC Try.prog cx56 n56_1 Q ⟨(Env.put env 6 (.bool false)), h⟩) := (ySR 0 (cOps (cL n56_0)) (cR n56_0)).trans (by
  refine w0 ?_
  refine wT 6 (.bool false) ?_
  exact wE)
theorem fn56 : Try.prog.funcs[56]? = some Try.f56 := by kernel_rfl
theorem q56 {a0 a1 a2 : AV} {h : Heap} {K : AV × Heap → Prop} (H : ∀ env : Env, env.get 0 = a0 → env.get 1 = a1 → env.get 2 = a2 → wC Try.prog cx56 n56_0 (retW (fun s => (bnd (some (s.env.get 6)) fun v => bnd (some []) fun vs => some (v :: vs))) K) ⟨env, h⟩) : SpecQ Try.prog 56 [a0, a1, a2] h K :=
  bodyW_sound (C := cx56) TT_ok mixed_ok fn56 (by kernel_rfl) (show _ = some n56_0 by kernel_rfl) (by kernel_rfl) (by kernel_rfl) (of_decide_eq_true (by kernel_rfl)) ((show wC Try.prog cx56 n56_0 (retW (fun s => resAll cx56 s Try.f56.results.toList) K) ⟨env0 cx56 [a0, a1, a2], h⟩ = wC Try.prog cx56 n56_0 (retW (fun s => (bnd (some (s.env.get 6)) fun v => bnd (some []) fun vs => some (v :: vs))) K) ⟨[(0, a0), (1, a1), (2, a2), (3, .junk), (4, .junk), (5, .junk), (6, .junk), (7, .junk), (8, .junk), (9, .junk), (10, .junk), (13, .junk), (14, .junk), (15, .junk), (16, .junk), (17, .junk), (39, .junk)], h⟩ by kernel_rfl).mpr (H [(0, a0), (1, a1), (2, a2), (3, .junk), (4, .junk), (5, .junk), (6, .junk), (7, .junk), (8, .junk), (9, .junk), (10, .junk), (13, .junk), (14, .junk), (15, .junk), (16, .junk), (17, .junk), (39, .junk)] rfl rfl rfl))
def sn56 := And.intro n56_5_eq (And.intro n56_4_eq (And.intro n56_6_eq (And.intro n56_3_eq (And.intro n56_2_eq (And.intro n56_15_eq (And.intro n56_16_eq (And.intro n56_14_eq (And.intro n56_25_eq (And.intro n56_24_eq (And.intro n56_26_eq (And.intro n56_23_eq (And.intro n56_28_eq (And.intro n56_27_eq (And.intro n56_21_eq (And.intro n56_20_eq (And.intro n56_19_eq (And.intro n56_18_eq (And.intro n56_29_eq (And.intro n56_17_eq (And.intro n56_13_eq (And.intro n56_12_eq (And.intro n56_11_eq (And.intro n56_10_eq (And.intro n56_9_eq (And.intro n56_31_eq (And.intro n56_30_eq (And.intro n56_8_eq (And.intro n56_7_eq (And.intro n56_1_eq (n56_0_eq))))))))))))))))))))))))))))))
-- draws: n56_22
end Go.Vab

/- How the code of a function is read. Printed by wip/tools/gen2.py (own work). -/
namespace Go.Vab
open Go Go.Proofs
/-! vestry/forms.ofSeat -/
def cx51 : Ctx := ⟨fun _ _ _ => none, TT, 5, [3, 4]⟩
noncomputable def n51_0 : Code := bodyOf Try.f51
noncomputable def n51_1 : Code := cR n51_0
noncomputable def n51_2 : Code := cR n51_1
theorem n51_2_eq (Q : Ex × St → Prop) (s : St) : wC Try.prog cx51 n51_2 Q s = Q (.ret, s) := yE
theorem n51_1_eq (Q : Ex × St → Prop) (env : Env) (h : Heap) : wC Try.prog cx51 n51_1 Q ⟨env, h⟩ = (Evs (mFieldAddr tSeat (env.get 1) 0) fun v0 => Evs (mLoad tCipher v0 h) fun v1 => Evs (stU tCipher (env.get 2) v1 h) fun r2 => wC Try.prog cx51 n51_2 Q ⟨env, r2.2⟩) := (ySR 1 (cOps (cL n51_1)) (cR n51_1)).trans (by
  refine w0 ?_
  refine wP 3 fun v0 => ?_
  refine wP 4 fun v1 => ?_
  refine wHn fun r2 => ?_
  exact wE)
theorem n51_0_eq (Q : Ex × St → Prop) (env : Env) (h : Heap) : wC Try.prog cx51 n51_0 Q ⟨env, h⟩ = (Evs (mNew tSeat (env.get 0) h) fun r0 => Evs (mNew tCipher (.node [(arr 32 fun _ => 0#8), (arr 32 fun _ => 0#8)]) r0.2) fun r1 => wC Try.prog cx51 n51_1 Q ⟨(Env.put (Env.put env 1 r0.1) 2 r1.1), r1.2⟩) := (ySR 0 (cOps (cL n51_0)) (cR n51_0)).trans (by
  refine w0 ?_
  refine wH 1 fun r0 => ?_
  refine wH 2 fun r1 => ?_
  exact wE)
theorem fn51 : Try.prog.funcs[51]? = some Try.f51 := by kernel_rfl
theorem q51 {a0 : AV} {h : Heap} {K : AV × Heap → Prop} (H : ∀ env : Env, env.get 0 = a0 → wC Try.prog cx51 n51_0 (retW (fun s => (bnd (mLoad tCipher (s.env.get 2) s.heap) fun v => bnd (some []) fun vs => some (v :: vs))) K) ⟨env, h⟩) : SpecQ Try.prog 51 [a0] h K :=
  bodyW_sound (C := cx51) TT_ok mixed_ok fn51 (by kernel_rfl) (show _ = some n51_0 by kernel_rfl) (by kernel_rfl) (by kernel_rfl) (of_decide_eq_true (by kernel_rfl)) ((show wC Try.prog cx51 n51_0 (retW (fun s => resAll cx51 s Try.f51.results.toList) K) ⟨env0 cx51 [a0], h⟩ = wC Try.prog cx51 n51_0 (retW (fun s => (bnd (mLoad tCipher (s.env.get 2) s.heap) fun v => bnd (some []) fun vs => some (v :: vs))) K) ⟨[(0, a0), (1, .junk), (2, .junk)], h⟩ by kernel_rfl).mpr (H [(0, a0), (1, .junk), (2, .junk)] rfl))
def sn51 := And.intro n51_2_eq (And.intro n51_1_eq (n51_0_eq))
-- draws: 
end Go.Vab

/- How the code of a function is read. Printed by wip/tools/gen2.py (own work). -/
namespace Go.Vab
open Go Go.Proofs
/-! vestry/forms.ofInvite -/
def cx53 : Ctx := ⟨fun _ _ _ => none, TT, 5, [3, 4]⟩
noncomputable def n53_0 : Code := bodyOf Try.f53
noncomputable def n53_1 : Code := cR n53_0
noncomputable def n53_2 : Code := cR n53_1
theorem n53_2_eq (Q : Ex × St → Prop) (s : St) : wC Try.prog cx53 n53_2 Q s = Q (.ret, s) := yE
theorem n53_1_eq (Q : Ex × St → Prop) (env : Env) (h : Heap) : wC Try.prog cx53 n53_1 Q ⟨env, h⟩ = (Evs (mFieldAddr tInvite (env.get 1) 0) fun v0 => Evs (mLoad tCipher v0 h) fun v1 => Evs (stU tCipher (env.get 2) v1 h) fun r2 => wC Try.prog cx53 n53_2 Q ⟨env, r2.2⟩) := (ySR 1 (cOps (cL n53_1)) (cR n53_1)).trans (by
  refine w0 ?_
  refine wP 3 fun v0 => ?_
  refine wP 4 fun v1 => ?_
  refine wHn fun r2 => ?_
  exact wE)
theorem n53_0_eq (Q : Ex × St → Prop) (env : Env) (h : Heap) : wC Try.prog cx53 n53_0 Q ⟨env, h⟩ = (Evs (mNew tInvite (env.get 0) h) fun r0 => Evs (mNew tCipher (.node [(arr 32 fun _ => 0#8), (arr 32 fun _ => 0#8)]) r0.2) fun r1 => wC Try.prog cx53 n53_1 Q ⟨(Env.put (Env.put env 1 r0.1) 2 r1.1), r1.2⟩) := (ySR 0 (cOps (cL n53_0)) (cR n53_0)).trans (by
  refine w0 ?_
  refine wH 1 fun r0 => ?_
  refine wH 2 fun r1 => ?_
  exact wE)
theorem fn53 : Try.prog.funcs[53]? = some Try.f53 := by kernel_rfl
theorem q53 {a0 : AV} {h : Heap} {K : AV × Heap → Prop} (H : ∀ env : Env, env.get 0 = a0 → wC Try.prog cx53 n53_0 (retW (fun s => (bnd (mLoad tCipher (s.env.get 2) s.heap) fun v => bnd (some []) fun vs => some (v :: vs))) K) ⟨env, h⟩) : SpecQ Try.prog 53 [a0] h K :=
  bodyW_sound (C := cx53) TT_ok mixed_ok fn53 (by kernel_rfl) (show _ = some n53_0 by kernel_rfl) (by kernel_rfl) (by kernel_rfl) (of_decide_eq_true (by kernel_rfl)) ((show wC Try.prog cx53 n53_0 (retW (fun s => resAll cx53 s Try.f53.results.toList) K) ⟨env0 cx53 [a0], h⟩ = wC Try.prog cx53 n53_0 (retW (fun s => (bnd (mLoad tCipher (s.env.get 2) s.heap) fun v => bnd (some []) fun vs => some (v :: vs))) K) ⟨[(0, a0), (1, .junk), (2, .junk)], h⟩ by kernel_rfl).mpr (H [(0, a0), (1, .junk), (2, .junk)] rfl))
def sn53 := And.intro n53_2_eq (And.intro n53_1_eq (n53_0_eq))
-- draws: 
end Go.Vab

/- How the code of a function is read. Printed by wip/tools/gen2.py (own work). -/
namespace Go.Vab
open Go Go.Proofs
/-! vestry/forms.ofAsk -/
def cx55 : Ctx := ⟨fun _ _ _ => none, TT, 5, [3, 4]⟩
noncomputable def n55_0 : Code := bodyOf Try.f55
noncomputable def n55_1 : Code := cR n55_0
noncomputable def n55_2 : Code := cR n55_1
theorem n55_2_eq (Q : Ex × St → Prop) (s : St) : wC Try.prog cx55 n55_2 Q s = Q (.ret, s) := yE
theorem n55_1_eq (Q : Ex × St → Prop) (env : Env) (h : Heap) : wC Try.prog cx55 n55_1 Q ⟨env, h⟩ = (Evs (mFieldAddr tAsk (env.get 1) 0) fun v0 => Evs (mLoad tCipher v0 h) fun v1 => Evs (stU tCipher (env.get 2) v1 h) fun r2 => wC Try.prog cx55 n55_2 Q ⟨env, r2.2⟩) := (ySR 1 (cOps (cL n55_1)) (cR n55_1)).trans (by
  refine w0 ?_
  refine wP 3 fun v0 => ?_
  refine wP 4 fun v1 => ?_
  refine wHn fun r2 => ?_
  exact wE)
theorem n55_0_eq (Q : Ex × St → Prop) (env : Env) (h : Heap) : wC Try.prog cx55 n55_0 Q ⟨env, h⟩ = (Evs (mNew tAsk (env.get 0) h) fun r0 => Evs (mNew tCipher (.node [(arr 32 fun _ => 0#8), (arr 32 fun _ => 0#8)]) r0.2) fun r1 => wC Try.prog cx55 n55_1 Q ⟨(Env.put (Env.put env 1 r0.1) 2 r1.1), r1.2⟩) := (ySR 0 (cOps (cL n55_0)) (cR n55_0)).trans (by
  refine w0 ?_
  refine wH 1 fun r0 => ?_
  refine wH 2 fun r1 => ?_
  exact wE)
theorem fn55 : Try.prog.funcs[55]? = some Try.f55 := by kernel_rfl
theorem q55 {a0 : AV} {h : Heap} {K : AV × Heap → Prop} (H : ∀ env : Env, env.get 0 = a0 → wC Try.prog cx55 n55_0 (retW (fun s => (bnd (mLoad tCipher (s.env.get 2) s.heap) fun v => bnd (some []) fun vs => some (v :: vs))) K) ⟨env, h⟩) : SpecQ Try.prog 55 [a0] h K :=
  bodyW_sound (C := cx55) TT_ok mixed_ok fn55 (by kernel_rfl) (show _ = some n55_0 by kernel_rfl) (by kernel_rfl) (by kernel_rfl) (of_decide_eq_true (by kernel_rfl)) ((show wC Try.prog cx55 n55_0 (retW (fun s => resAll cx55 s Try.f55.results.toList) K) ⟨env0 cx55 [a0], h⟩ = wC Try.prog cx55 n55_0 (retW (fun s => (bnd (mLoad tCipher (s.env.get 2) s.heap) fun v => bnd (some []) fun vs => some (v :: vs))) K) ⟨[(0, a0), (1, .junk), (2, .junk)], h⟩ by kernel_rfl).mpr (H [(0, a0), (1, .junk), (2, .junk)] rfl))
def sn55 := And.intro n55_2_eq (And.intro n55_1_eq (n55_0_eq))
-- draws: 
end Go.Vab

/- How the code of a function is read. Printed by wip/tools/gen2.py (own work). -/
namespace Go.Vab
open Go Go.Proofs
/-! vestry/forms.ofBan -/
def cx57 : Ctx := ⟨fun _ _ _ => none, TT, 5, [3, 4]⟩
noncomputable def n57_0 : Code := bodyOf Try.f57
noncomputable def n57_1 : Code := cR n57_0
noncomputable def n57_2 : Code := cR n57_1
theorem n57_2_eq (Q : Ex × St → Prop) (s : St) : wC Try.prog cx57 n57_2 Q s = Q (.ret, s) := yE
theorem n57_1_eq (Q : Ex × St → Prop) (env : Env) (h : Heap) : wC Try.prog cx57 n57_1 Q ⟨env, h⟩ = (Evs (mFieldAddr tBan (env.get 1) 0) fun v0 => Evs (mLoad tCipher v0 h) fun v1 => Evs (stU tCipher (env.get 2) v1 h) fun r2 => wC Try.prog cx57 n57_2 Q ⟨env, r2.2⟩) := (ySR 1 (cOps (cL n57_1)) (cR n57_1)).trans (by
  refine w0 ?_
  refine wP 3 fun v0 => ?_
  refine wP 4 fun v1 => ?_
  refine wHn fun r2 => ?_
  exact wE)
theorem n57_0_eq (Q : Ex × St → Prop) (env : Env) (h : Heap) : wC Try.prog cx57 n57_0 Q ⟨env, h⟩ = (Evs (mNew tBan (env.get 0) h) fun r0 => Evs (mNew tCipher (.node [(arr 32 fun _ => 0#8), (arr 32 fun _ => 0#8)]) r0.2) fun r1 => wC Try.prog cx57 n57_1 Q ⟨(Env.put (Env.put env 1 r0.1) 2 r1.1), r1.2⟩) := (ySR 0 (cOps (cL n57_0)) (cR n57_0)).trans (by
  refine w0 ?_
  refine wH 1 fun r0 => ?_
  refine wH 2 fun r1 => ?_
  exact wE)
theorem fn57 : Try.prog.funcs[57]? = some Try.f57 := by kernel_rfl
theorem q57 {a0 : AV} {h : Heap} {K : AV × Heap → Prop} (H : ∀ env : Env, env.get 0 = a0 → wC Try.prog cx57 n57_0 (retW (fun s => (bnd (mLoad tCipher (s.env.get 2) s.heap) fun v => bnd (some []) fun vs => some (v :: vs))) K) ⟨env, h⟩) : SpecQ Try.prog 57 [a0] h K :=
  bodyW_sound (C := cx57) TT_ok mixed_ok fn57 (by kernel_rfl) (show _ = some n57_0 by kernel_rfl) (by kernel_rfl) (by kernel_rfl) (of_decide_eq_true (by kernel_rfl)) ((show wC Try.prog cx57 n57_0 (retW (fun s => resAll cx57 s Try.f57.results.toList) K) ⟨env0 cx57 [a0], h⟩ = wC Try.prog cx57 n57_0 (retW (fun s => (bnd (mLoad tCipher (s.env.get 2) s.heap) fun v => bnd (some []) fun vs => some (v :: vs))) K) ⟨[(0, a0), (1, .junk), (2, .junk)], h⟩ by kernel_rfl).mpr (H [(0, a0), (1, .junk), (2, .junk)] rfl))
def sn57 := And.intro n57_2_eq (And.intro n57_1_eq (n57_0_eq))
-- draws: 
end Go.Vab
