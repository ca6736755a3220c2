/- How the code of a function is read. Printed by wip/tools/gen2.py (own work). -/
import Derived.Test.YtdmcbbeebjcagaaV3
set_option linter.all false
set_option linter.unusedSectionVars false
namespace Go.Vab
open Go Go.Proofs
/-! vestry/forms.MayAction -/
def cx44 : Ctx := ⟨fun _ _ _ => none, TT, 116, [5, 6, 7, 9, 10, 11, 12, 13, 14, 15, 16, 17, 18, 19, 20, 21, 22, 24, 25, 26, 27, 28, 29, 30, 31, 32, 33, 34, 35, 36, 37, 38, 39, 40, 41, 42, 43, 44, 45, 46, 47, 48, 49, 50, 51, 52, 53, 54, 55, 56, 57, 58, 59, 60, 61, 63, 64, 65, 66, 67, 68, 69, 70, 71, 72, 73, 74, 75, 76, 77, 78, 79, 80, 81, 82, 83, 84, 85, 86, 87, 88, 89, 90, 91, 92, 93, 94, 95, 96, 97, 98, 99, 100, 101, 102, 103, 104, 105, 106, 107, 108, 109, 110, 111, 112, 113, 114, 115]⟩
noncomputable def n44_0 : Code := bodyOf Try.f44
noncomputable def n44_1 : Code := cR n44_0
noncomputable def n44_2 : Code := cR n44_1
noncomputable def n44_3 : Code := cL n44_2
noncomputable def n44_4 : Code := cB n44_3
noncomputable def n44_5 : Code := cR n44_4
noncomputable def n44_6 : Code := cL n44_5
noncomputable def n44_7 : Code := cR n44_6
noncomputable def n44_8 : Code := cR n44_5
noncomputable def n44_9 : Code := cR n44_8
noncomputable def n44_10 : Code := cL n44_9
noncomputable def n44_11 : Code := cR n44_10
noncomputable def n44_12 : Code := cR n44_9
noncomputable def n44_13 : Code := cR n44_12
noncomputable def n44_14 : Code := cL n44_13
noncomputable def n44_15 : Code := cR n44_14
noncomputable def n44_16 : Code := cR n44_13
noncomputable def n44_17 : Code := cR n44_2
noncomputable def n44_18 : Code := cR n44_17
noncomputable def n44_19 : Code := cR n44_18
theorem n44_7_eq (Q : Ex × St → Prop) (s : St) : wC Try.prog cx44 n44_7 Q s = Q (.ret, s) := yE
theorem n44_6_eq (Q : Ex × St → Prop) (env : Env) (h : Heap) : wC Try.prog cx44 n44_6 Q ⟨env, h⟩ = ( wC Try.prog cx44 n44_7 Q ⟨(Env.put env 2 (.bool false)), h⟩) := (ySR 3 (cOps (cL n44_6)) (cR n44_6)).trans (by
  refine w0 ?_
  refine wT 2 (.bool false) ?_
  exact wE)
theorem n44_11_eq (Q : Ex × St → Prop) (s : St) : wC Try.prog cx44 n44_11 Q s = Q (.ret, s) := yE
theorem n44_10_eq (Q : Ex × St → Prop) (env : Env) (h : Heap) : wC Try.prog cx44 n44_10 Q ⟨env, h⟩ = ( wC Try.prog cx44 n44_11 Q ⟨(Env.put env 2 (.bool false)), h⟩) := (ySR 5 (cOps (cL n44_10)) (cR n44_10)).trans (by
  refine w0 ?_
  refine wT 2 (.bool false) ?_
  exact wE)
theorem n44_15_eq (Q : Ex × St → Prop) (s : St) : wC Try.prog cx44 n44_15 Q s = Q (.ret, s) := yE
theorem n44_14_eq (Q : Ex × St → Prop) (env : Env) (h : Heap) : wC Try.prog cx44 n44_14 Q ⟨env, h⟩ = ( wC Try.prog cx44 n44_15 Q ⟨(Env.put env 2 (.bool false)), h⟩) := (ySR 7 (cOps (cL n44_14)) (cR n44_14)).trans (by
  refine w0 ?_
  refine wT 2 (.bool false) ?_
  exact wE)
theorem n44_16_eq (Q : Ex × St → Prop) (s : St) : wC Try.prog cx44 n44_16 Q s = Q (.nrm, s) := yK
theorem n44_13_eq (Q : Ex × St → Prop) (s : St) : wC Try.prog cx44 n44_13 Q s = cndW (s.env.get 62) (wL Try.prog cx44 n44_14 Q s) (wL Try.prog cx44 n44_16 Q s) := yC 62 _ _
theorem n44_12_eq (Q : Ex × St → Prop) (env : Env) (h : Heap) : wC Try.prog cx44 n44_12 Q ⟨env, h⟩ = (Evs (mFieldAddr tLhas (env.get 3) 3) fun v0 => Evs (mLoad .cell v0 h) fun v1 => Evs (mUn .not v1) fun v2 => Evs (gv v2 true (mFieldAddr tAction (env.get 1) 5)) fun v4 => Evs (gv v2 true (mLoad .cell v4 h)) fun v5 => Evs (gv v2 true (mLenS v5)) fun v6 => Evs (gv v2 true (mBin .gtr v6 (nat 0))) fun v7 => Evs (mPick v2 v7 (.bool false)) fun v8 => Evs (gv v8 false (mFieldAddr tLhas (env.get 3) 4)) fun v10 => Evs (gv v8 false (mLoad .cell v10 h)) fun v11 => Evs (gv v8 false (some v11)) fun v12 => Evs (gv v12 true (mFieldAddr tAction (env.get 1) 6)) fun v13 => Evs (gv v12 true (mLoad tAccess v13 h)) fun v14 => gW v12 true (SpecA Try.prog 49 [v14] h) h fun r15 => Evs (gv v12 true (mUn .not r15.1)) fun v16 => Evs (gv v8 false (mPick v12 v16 (.bool false))) fun v17 => Evs (mPick v8 (.bool true) v17) fun v18 => Evs (gv v18 false (mFieldAddr tLhas (env.get 3) 4)) fun v20 => Evs (gv v18 false (mLoad .cell v20 r15.2)) fun v21 => Evs (gv v18 false (mUn .not v21)) fun v22 => Evs (gv v18 false (some v22)) fun v23 => Evs (gv v23 true (mFieldAddr tAction (env.get 1) 6)) fun v24 => Evs (gv v23 true (mLoad tAccess v24 r15.2)) fun v25 => Evs (gv v23 true (fillRow tAccess (.node [(u8 0#8), (u8 0#8), (u8 0#8)]) [])) fun v26 => Evs (gv v23 true (mEq tAccess .neq v25 v26)) fun v27 => Evs (gv v18 false (mPick v23 v27 (.bool false))) fun v28 => Evs (mPick v18 (.bool true) v28) fun v29 => wC Try.prog cx44 n44_13 Q ⟨(Env.put env 62 v29), r15.2⟩) := (ySR 6 (cOps (cL n44_12)) (cR n44_12)).trans (by
  refine w0 ?_
  refine wP 63 fun v0 => ?_
  refine wP 64 fun v1 => ?_
  refine wP 65 fun v2 => ?_
  refine wT 66 v2 ?_
  refine wG 67 fun v4 => ?_
  refine wG 68 fun v5 => ?_
  refine wG 69 fun v6 => ?_
  refine wG 70 fun v7 => ?_
  refine wP 71 fun v8 => ?_
  refine wT 72 v8 ?_
  refine wG 73 fun v10 => ?_
  refine wG 74 fun v11 => ?_
  refine wG 75 fun v12 => ?_
  refine wG 76 fun v13 => ?_
  refine wG 77 fun v14 => ?_
  refine wH 78 fun r15 => ?_
  refine wG 79 fun v16 => ?_
  refine wG 80 fun v17 => ?_
  refine wP 81 fun v18 => ?_
  refine wT 82 v18 ?_
  refine wG 83 fun v20 => ?_
  refine wG 84 fun v21 => ?_
  refine wG 85 fun v22 => ?_
  refine wG 86 fun v23 => ?_
  refine wG 87 fun v24 => ?_
  refine wG 88 fun v25 => ?_
  refine wG 89 fun v26 => ?_
  refine wG 90 fun v27 => ?_
  refine wG 91 fun v28 => ?_
  refine wP 92 fun v29 => ?_
  refine wT 62 v29 ?_
  exact wE)
theorem n44_9_eq (Q : Ex × St → Prop) (s : St) : wC Try.prog cx44 n44_9 Q s = cndW (s.env.get 23) (wL Try.prog cx44 n44_10 Q s) (wL Try.prog cx44 n44_12 Q s) := yC 23 _ _
theorem n44_8_ok : treeOk (cOps (cL n44_8)).toList [] [0, 1, 3, 7, 15, 31, 15, 127, 255, 511, 1023, 2047, 4095, 8191, 16383, 32767, 16383, 131071, 262143, 524287, 1048575, 2097151, 4194303, 2097151, 10485759, 27262975, 67108863, 134217727, 268435455, 536870911, 1073741823, 2147483647, 4294967295, 8589934591, 17179869183, 34359738367, 68719476735, 137438953471, 274877906943] = true := by kernel_rfl
theorem n44_8_w (Q : Ex × St → Prop) (env : Env) (h : Heap) (H : Evs (mFieldAddr tLhas (env.get 3) 0) fun v0_1 => Evs (mLoad .cell v0_1 h) fun v1_2 => Evs (mUn .not v1_2) fun v2_3 => Evs (gv v2_3 true (mFieldAddr tAction (env.get 1) 2)) fun v4_4 => Evs (gv v2_3 true (mLoad tCipher v4_4 h)) fun v5_5 => Evs (gv v2_3 true (fillRow tCipher (.node [(arr 32 fun _ => 0#8), (arr 32 fun _ => 0#8)]) [])) fun v6_6 => Evs (gv v2_3 true (mEq tCipher .neq v5_5 v6_6)) fun v7_7 => Evs (mPick v2_3 v7_7 (.bool false)) fun v8_8 => Evs (gv v8_8 false (mFieldAddr tLhas (env.get 3) 1)) fun v10_9 => Evs (gv v8_8 false (mLoad .cell v10_9 h)) fun v11_10 => Evs (gv v8_8 false (mUn .not v11_10)) fun v12_11 => Evs (gv v8_8 false (some v12_11)) fun v13_12 => Evs (gv v13_12 true (mFieldAddr tAction (env.get 1) 3)) fun v14_13 => Evs (gv v13_12 true (mLoad (.arr 32 (.int .u8)) v14_13 h)) fun v15_14 => Evs (gv v13_12 true (fillRow (.arr 32 (.int .u8)) (arr 32 fun _ => 0#8) [])) fun v16_15 => Evs (gv v13_12 true (mEq (.arr 32 (.int .u8)) .neq v15_14 v16_15)) fun v17_16 => Evs (gv v8_8 false (mPick v13_12 v17_16 (.bool false))) fun v18_17 => Evs (mPick v8_8 (.bool true) v18_17) fun v19_18 => Evs (gv v19_18 false (mFieldAddr tLhas (env.get 3) 2)) fun v21_19 => Evs (gv v19_18 false (mLoad .cell v21_19 h)) fun v22_20 => Evs (gv v19_18 false (mFieldAddr tAction (env.get 1) 4)) fun v23_21 => Evs (gv v19_18 false (mLoad (.int .u8) v23_21 h)) fun v24_22 => ValW (gW v19_18 false (SpecA Try.prog 60 [v24_22] h) h) h fun v25_23 => Evs (gv v19_18 false (mBinB .neq v22_20 v25_23)) fun v26_24 => Evs (mPick v19_18 (.bool true) v26_24) fun v27_25 => Evs (gv v27_25 false (mFieldAddr tLhas (env.get 3) 2)) fun v29_26 => Evs (gv v27_25 false (mLoad .cell v29_26 h)) fun v30_27 => Evs (gv v27_25 false (mUn .not v30_27)) fun v31_28 => Evs (gv v27_25 false (some v31_28)) fun v32_29 => Evs (gv v32_29 true (mFieldAddr tAction (env.get 1) 4)) fun v33_30 => Evs (gv v32_29 true (mLoad (.int .u8) v33_30 h)) fun v34_31 => Evs (gv v32_29 true (mBin .neq v34_31 (u8 0#8))) fun v35_32 => Evs (gv v27_25 false (mPick v32_29 v35_32 (.bool false))) fun v36_33 => Evs (mPick v27_25 (.bool true) v36_33) fun v37_34 => wC Try.prog cx44 n44_9 Q ⟨(Env.put env 23 v37_34), h⟩) : wC Try.prog cx44 n44_8 Q ⟨env, h⟩ := by
  refine ySD 4 (cOps (cL n44_8)) (cR n44_8) [] [0, 1, 3, 7, 15, 31, 15, 127, 255, 511, 1023, 2047, 4095, 8191, 16383, 32767, 16383, 131071, 262143, 524287, 1048575, 2097151, 4194303, 2097151, 10485759, 27262975, 67108863, 134217727, 268435455, 536870911, 1073741823, 2147483647, 4294967295, 8589934591, 17179869183, 34359738367, 68719476735, 137438953471, 274877906943] [0, 1, 2, 3, 4, 5, 6, 7, 8, 9, 10, 11, 12, 13, 14, 15, 16, 17, 18, 19, 20, 21, 22, 23, 24, 25, 26, 27, 28, 29, 30, 31, 32, 33, 34, 35, 36, 37, 38] n44_8_ok ?_
  refine rP H 24 fun v0_1 H => ?_
  refine rP H 25 fun v1_2 H => ?_
  refine rP H 26 fun v2_3 H => ?_
  refine rT 27 v2_3 ?_
  refine rG H 28 fun v4_4 H => ?_
  refine rG H 29 fun v5_5 H => ?_
  refine rG H 30 fun v6_6 H => ?_
  refine rG H 31 fun v7_7 H => ?_
  refine rP H 32 fun v8_8 H => ?_
  refine rT 33 v8_8 ?_
  refine rG H 34 fun v10_9 H => ?_
  refine rG H 35 fun v11_10 H => ?_
  refine rG H 36 fun v12_11 H => ?_
  refine rG H 37 fun v13_12 H => ?_
  refine rG H 38 fun v14_13 H => ?_
  refine rG H 39 fun v15_14 H => ?_
  refine rG H 40 fun v16_15 H => ?_
  refine rG H 41 fun v17_16 H => ?_
  refine rG H 42 fun v18_17 H => ?_
  refine rP H 43 fun v19_18 H => ?_
  refine rT 44 v19_18 ?_
  refine rG H 45 fun v21_19 H => ?_
  refine rG H 46 fun v22_20 H => ?_
  refine rG H 47 fun v23_21 H => ?_
  refine rG H 48 fun v24_22 H => ?_
  refine rF H 49 (fun v25_23 H => ?_)
  refine rG H 50 fun v26_24 H => ?_
  refine rP H 51 fun v27_25 H => ?_
  refine rT 52 v27_25 ?_
  refine rG H 53 fun v29_26 H => ?_
  refine rG H 54 fun v30_27 H => ?_
  refine rG H 55 fun v31_28 H => ?_
  refine rG H 56 fun v32_29 H => ?_
  refine rG H 57 fun v33_30 H => ?_
  refine rG H 58 fun v34_31 H => ?_
  refine rG H 59 fun v35_32 H => ?_
  refine rG H 60 fun v36_33 H => ?_
  refine rP H 61 fun v37_34 H => ?_
  refine rT 23 v37_34 ?_
  refine rE ?_
  exact tE H
theorem n44_5_eq (Q : Ex × St → Prop) (s : St) : wC Try.prog cx44 n44_5 Q s = cndW (s.env.get 8) (wL Try.prog cx44 n44_6 Q s) (wL Try.prog cx44 n44_8 Q s) := yC 8 _ _
theorem n44_4_eq (Q : Ex × St → Prop) (env : Env) (h : Heap) : wC Try.prog cx44 n44_4 Q ⟨env, h⟩ = (Evs (mFieldAddr tAction (env.get 1) 1) fun v0 => Evs (mLoad (.int .u8) v0 h) fun v1 => Evs (mBin .lss v1 (u8 1#8)) fun v2 => Evs (gv v2 false (mFieldAddr tAction (env.get 1) 1)) fun v4 => Evs (gv v2 false (mLoad (.int .u8) v4 h)) fun v5 => Evs (gv v2 false (mBin .gtr v5 (u8 18#8))) fun v6 => Evs (mPick v2 (.bool true) v6) fun v7 => Evs (gv v7 false (mFieldAddr tAction (env.get 1) 5)) fun v9 => Evs (gv v7 false (mLoad .cell v9 h)) fun v10 => Evs (gv v7 false (mLenS v10)) fun v11 => Evs (gv v7 false (mBin .gtr v11 (nat 200))) fun v12 => Evs (mPick v7 (.bool true) v12) fun v13 => wC Try.prog cx44 n44_5 Q ⟨(Env.put env 8 v13), h⟩) := (ySR 2 (cOps (cL n44_4)) (cR n44_4)).trans (by
  refine w0 ?_
  refine wP 9 fun v0 => ?_
  refine wP 10 fun v1 => ?_
  refine wP 11 fun v2 => ?_
  refine wT 12 v2 ?_
  refine wG 13 fun v4 => ?_
  refine wG 14 fun v5 => ?_
  refine wG 15 fun v6 => ?_
  refine wP 16 fun v7 => ?_
  refine wT 17 v7 ?_
  refine wG 18 fun v9 => ?_
  refine wG 19 fun v10 => ?_
  refine wG 20 fun v11 => ?_
  refine wG 21 fun v12 => ?_
  refine wP 22 fun v13 => ?_
  refine wT 8 v13 ?_
  exact wE)
theorem n44_3_eq (Q : Ex × St → Prop) (s : St) : wC Try.prog cx44 n44_3 Q s = wC Try.prog cx44 n44_4 (fun r => Q (inBlk 0 r)) s := yB 0 _
theorem n44_19_eq (Q : Ex × St → Prop) (s : St) : wC Try.prog cx44 n44_19 Q s = Q (.ret, s) := yE
theorem n44_18_eq (Q : Ex × St → Prop) (env : Env) (h : Heap) : wC Try.prog cx44 n44_18 Q ⟨env, h⟩ = (Evs (mBin .eql (env.get 4) (nat 0)) fun v1 => Evs (gv v1 true (mFieldAddr tLhas (env.get 3) 5)) fun v3 => Evs (gv v1 true (mLoad .cell v3 h)) fun v4 => Evs (gv v1 true (mUn .not v4)) fun v5 => Evs (gv v1 true (some v5)) fun v6 => Evs (gv v6 false (mFieldAddr tAction (env.get 1) 1)) fun v7 => Evs (gv v6 false (mLoad (.int .u8) v7 h)) fun v8 => Evs (gv v6 false (mBin .eql v8 (u8 18#8))) fun v9 => Evs (gv v1 true (mPick v6 (.bool true) v9)) fun v10 => Evs (mPick v1 v10 (.bool false)) fun v11 => Evs (gv v11 false (some (env.get 4))) fun v13 => Evs (gv v11 false (mBin .eql v13 (nat 16))) fun v14 => Evs (gv v11 false (some v14)) fun v15 => Evs (gv v15 true (mFieldAddr tLhas (env.get 3) 5)) fun v16 => Evs (gv v15 true (mLoad .cell v16 h)) fun v17 => Evs (gv v11 false (mPick v15 v17 (.bool false))) fun v18 => Evs (mPick v11 (.bool true) v18) fun v19 => wC Try.prog cx44 n44_19 Q ⟨(Env.put env 2 v19), h⟩) := (ySR 9 (cOps (cL n44_18)) (cR n44_18)).trans (by
  refine w0 ?_
  refine wT 96 (env.get 4) ?_
  refine wP 97 fun v1 => ?_
  refine wT 98 v1 ?_
  refine wG 99 fun v3 => ?_
  refine wG 100 fun v4 => ?_
  refine wG 101 fun v5 => ?_
  refine wG 102 fun v6 => ?_
  refine wG 103 fun v7 => ?_
  refine wG 104 fun v8 => ?_
  refine wG 105 fun v9 => ?_
  refine wG 106 fun v10 => ?_
  refine wP 107 fun v11 => ?_
  refine wT 108 v11 ?_
  refine wG 109 fun v13 => ?_
  refine wG 110 fun v14 => ?_
  refine wG 111 fun v15 => ?_
  refine wG 112 fun v16 => ?_
  refine wG 113 fun v17 => ?_
  refine wG 114 fun v18 => ?_
  refine wP 115 fun v19 => ?_
  refine wT 2 v19 ?_
  exact wE)
theorem n44_17_eq (Q : Ex × St → Prop) (env : Env) (h : Heap) : wC Try.prog cx44 n44_17 Q ⟨env, h⟩ = (Evs (mFieldAddr tAction (env.get 1) 7) fun v0 => Evs (mLoad .cell v0 h) fun v1 => Evs (mLenS v1) fun v2 => wC Try.prog cx44 n44_18 Q ⟨(Env.put env 4 v2), h⟩) := (ySR 8 (cOps (cL n44_17)) (cR n44_17)).trans (by
  refine w0 ?_
  refine wP 93 fun v0 => ?_
  refine wP 94 fun v1 => ?_
  refine wP 95 fun v2 => ?_
  refine wT 4 v2 ?_
  exact wE)
theorem n44_2_eq (Q : Ex × St → Prop) (s : St) : wC Try.prog cx44 n44_2 Q s = wC Try.prog cx44 n44_3 (sqW (wC Try.prog cx44 n44_17) Q) s := yS _ _
theorem n44_1_eq (Q : Ex × St → Prop) (env : Env) (h : Heap) : wC Try.prog cx44 n44_1 Q ⟨env, h⟩ = (Evs (mFieldAddr tAction (env.get 1) 1) fun v0 => Evs (mLoad (.int .u8) v0 h) fun v1 => SpecA Try.prog 65 [v1] h fun r2 => Evs (mNew tLhas (.node [(.bool false), (.bool false), (.bool false), (.bool false), (.bool false), (.bool false)]) r2.2) fun r3 => Evs (stU tLhas r3.1 r2.1 r3.2) fun r4 => wC Try.prog cx44 n44_2 Q ⟨(Env.put env 3 r3.1), r4.2⟩) := (ySR 1 (cOps (cL n44_1)) (cR n44_1)).trans (by
  refine w0 ?_
  refine wP 5 fun v0 => ?_
  refine wP 6 fun v1 => ?_
  refine wH 7 fun r2 => ?_
  refine wH 3 fun r3 => ?_
  refine wHn fun r4 => ?_
  exact wE)
theorem n44_0_eq (Q : Ex × St → Prop) (env : Env) (h : Heap) : wC Try.prog cx44 n44_0 Q ⟨env, h⟩ = (Evs (mNew tAction (env.get 0) h) fun r0 => wC Try.prog cx44 n44_1 Q ⟨(Env.put (Env.put env 1 r0.1) 2 (.bool false)), r0.2⟩) := (ySR 0 (cOps (cL n44_0)) (cR n44_0)).trans (by
  refine w0 ?_
  refine wH 1 fun r0 => ?_
  refine wT 2 (.bool false) ?_
  exact wE)
theorem fn44 : Try.prog.funcs[44]? = some Try.f44 := by kernel_rfl
theorem q44 {a0 : AV} {h : Heap} {K : AV × Heap → Prop} (H : ∀ env : Env, env.get 0 = a0 → wC Try.prog cx44 n44_0 (retW (fun s => (bnd (some (s.env.get 2)) fun v => bnd (some []) fun vs => some (v :: vs))) K) ⟨env, h⟩) : SpecQ Try.prog 44 [a0] h K :=
  bodyW_sound (C := cx44) TT_ok mixed_ok fn44 (by kernel_rfl) (show _ = some n44_0 by kernel_rfl) (by kernel_rfl) (by kernel_rfl) (of_decide_eq_true (by kernel_rfl)) ((show wC Try.prog cx44 n44_0 (retW (fun s => resAll cx44 s Try.f44.results.toList) K) ⟨env0 cx44 [a0], h⟩ = wC Try.prog cx44 n44_0 (retW (fun s => (bnd (some (s.env.get 2)) fun v => bnd (some []) fun vs => some (v :: vs))) K) ⟨[(0, a0), (1, .junk), (2, .junk), (3, .junk), (4, .junk), (8, .junk), (23, .junk), (62, .junk)], h⟩ by kernel_rfl).mpr (H [(0, a0), (1, .junk), (2, .junk), (3, .junk), (4, .junk), (8, .junk), (23, .junk), (62, .junk)] rfl))
def sn44 := And.intro n44_7_eq (And.intro n44_6_eq (And.intro n44_11_eq (And.intro n44_10_eq (And.intro n44_15_eq (And.intro n44_14_eq (And.intro n44_16_eq (And.intro n44_13_eq (And.intro n44_12_eq (And.intro n44_9_eq (And.intro n44_5_eq (And.intro n44_4_eq (And.intro n44_3_eq (And.intro n44_19_eq (And.intro n44_18_eq (And.intro n44_17_eq (And.intro n44_2_eq (And.intro n44_1_eq (n44_0_eq))))))))))))))))))
-- draws: n44_8
end Go.Vab

/-
  What may be, walked: role, mayAccess, fields, MayAction.
-/
namespace Go.Vab
open Go Go.Proofs

theorem c60 {h : Heap} {r : BitVec 8} : SpecQ Try.prog 60 [u8 r] h fun x => x = (.bool (roleOk r), h) := by
  refine SpecQ.drop1 rfl (q60 fun env g0 => ?_)
  repeat' (first | ((with_reducible apply evs_of); (focus ((conv => lhs; simp (disch := omega) [g0]); done)); try dsimp only) | (simp (decide := true) only [sn60, sqW_nrm, sqW_exit, sqW_ret, inBlk_nrm, inBlk_ret, inBlk_same, inBlk_exit, if_true, if_false, retW_nrm, retW_ret]) | (with_reducible refine gv_split ?_ ?_ <;> (intro hb; try simp only [Bool.not_true, Bool.not_false] at hb) <;> try simp only [hb]))
  all_goals refine fin_b0 ?_
  all_goals (unfold roleOk; simp_all)

theorem c49 {h : Heap} {a : Acc} : SpecQ Try.prog 49 [eAcc a] h fun x => x = (.bool (accOk a), h) := by
  refine SpecQ.drop1 rfl (q49 fun env g0 => ?_)
  repeat' (first | ((with_reducible apply evs_of); (focus ((conv => lhs; simp (disch := omega) [g0]); done)); try dsimp only) | ((with_reducible apply gW_do); (focus (simp (disch := omega) [g0]; done))) | ((with_reducible apply gW_no); (focus (simp (disch := omega) [g0]; done)); try dsimp only) | ((with_reducible apply gW_un); (focus (simp (disch := omega) [g0]; done)); try dsimp only) | (with_reducible refine SpecQ.step (c60) ?_; rintro _ rfl; try dsimp only) | ((with_reducible apply SpecA_i); (focus ((conv => lhs; simp (disch := omega) [g0]); done))) | (simp (decide := true) only [sn49, sqW_nrm, sqW_exit, sqW_ret, inBlk_nrm, inBlk_ret, inBlk_same, inBlk_exit, if_true, if_false, retW_nrm, retW_ret]) | (with_reducible refine gv_split ?_ ?_ <;> (intro hb; try simp only [Bool.not_true, Bool.not_false] at hb) <;> try simp only [hb]) | (with_reducible refine gW_split ?_ ?_ <;> (intro hb; try simp only [Bool.not_true, Bool.not_false] at hb) <;> try simp only [hb]))
  all_goals refine fin_b ?_
  all_goals (unfold accOk; simp_all)

set_option maxHeartbeats 2000000 in
theorem c65 {h : Heap} {k : BitVec 8} : SpecQ Try.prog 65 [u8 k] h fun x => x = (hasV k, h) := by
  refine SpecQ.drop1 rfl (q65 fun env g0 => ?_)
  repeat' (first | ((with_reducible apply evs_of); (focus ((conv => lhs; simp (disch := omega) [g0]); done)); try dsimp only) | ((with_reducible apply cndW_T); (focus (simp (disch := omega) [g0] <;> omega))) | ((with_reducible apply cndW_F); (focus (simp (disch := omega) [g0] <;> omega))) | (with_reducible apply wL_i) | (simp (decide := true) only [sn65, sqW_nrm, sqW_exit, sqW_ret, inBlk_nrm, inBlk_ret, inBlk_same, inBlk_exit, if_true, if_false, retW_nrm, retW_ret]) | ((with_reducible apply cndW_splitE); (focus ((conv => lhs; simp (disch := omega) [g0]); done)); all_goals ((intro hb; try simp only [Bool.not_true, Bool.not_false] at hb); try simp only [hb])) | (with_reducible refine cndW_split ?_ ?_ <;> (intro hb; try simp only [Bool.not_true, Bool.not_false] at hb) <;> try simp only [hb]))
  all_goals refine fin_v ?_
  all_goals (unfold hasV; simp only [decide_eq_true_eq, decide_eq_false_iff_not] at *; first | (subst_vars; rfl) | (simp_all [hW, hE, hR, hT, hA, hP]; done))

set_option maxHeartbeats 2000000 in
theorem c44 {h : Heap} {a : Actn} {vt vp : AV} (ra : ActR h a vt vp) : SpecQ Try.prog 44 [eAct a vt vp] h fun x => x = (.bool (mayA a), h) := by
  have ta := ra.cells
  have l1 := ra.t.len
  have l2 := ra.p.len
  refine SpecQ.drop1 rfl (q44 fun env g0 => ?_)
  repeat' (first | ((with_reducible apply evs_of); (focus ((conv => lhs; simp (disch := omega) [g0, ta, l1, l2, hasV]); done)); try dsimp only) | ((with_reducible apply gW_do); (focus (simp (disch := omega) [g0, ta, l1, l2, hasV]; done))) | ((with_reducible apply gW_no); (focus (simp (disch := omega) [g0, ta, l1, l2, hasV]; done)); try dsimp only) | ((with_reducible apply gW_un); (focus (simp (disch := omega) [g0, ta, l1, l2, hasV]; done)); try dsimp only) | ((with_reducible apply cndW_T); (focus (simp (disch := omega) [g0, ta, l1, l2, hasV] <;> omega))) | ((with_reducible apply cndW_F); (focus (simp (disch := omega) [g0, ta, l1, l2, hasV] <;> omega))) | (with_reducible apply wL_i) | ((with_reducible apply ValW_do); (focus (simp (disch := omega) [g0, ta, l1, l2, hasV]; done)); try dsimp only) | ((with_reducible apply ValW_no); (focus (simp (disch := omega) [g0, ta, l1, l2, hasV]; done)); try dsimp only) | ((with_reducible apply ValW_un); (focus (simp (disch := omega) [g0, ta, l1, l2, hasV]; done)); try dsimp only) | (with_reducible refine ValW_i (c65) ?_; try dsimp only) | (with_reducible refine SpecQ.step (c65) ?_; rintro _ rfl; try dsimp only) | (with_reducible refine ValW_i (c60) ?_; try dsimp only) | (with_reducible refine SpecQ.step (c60) ?_; rintro _ rfl; try dsimp only) | (with_reducible refine ValW_i (c49) ?_; try dsimp only) | (with_reducible refine SpecQ.step (c49) ?_; rintro _ rfl; try dsimp only) | ((with_reducible apply SpecA_i); (focus ((conv => lhs; simp (disch := omega) [g0, ta, l1, l2, hasV]); done))) | ((with_reducible apply ValA_i); (focus ((conv => lhs; simp (disch := omega) [g0, ta, l1, l2, hasV]); done))) | ((with_reducible apply ValA_fn); (focus ((conv => lhs; simp (disch := omega) [g0, ta, l1, l2, hasV]); done))) | (simp (decide := true) only [sn44, sqW_nrm, sqW_exit, sqW_ret, inBlk_nrm, inBlk_ret, inBlk_same, inBlk_exit, if_true, if_false, retW_nrm, retW_ret]) | (with_reducible refine n44_8_w _ _ _ ?_) | ((with_reducible apply cndW_splitE); (focus ((conv => lhs; simp (disch := omega) [g0, ta, l1, l2, hasV]); done)); all_goals ((intro hb; try simp only [Bool.not_true, Bool.not_false] at hb); try simp only [hb])) | (with_reducible refine gv_split ?_ ?_ <;> (intro hb; try simp only [Bool.not_true, Bool.not_false] at hb) <;> try simp only [hb]) | (with_reducible refine gW_split ?_ ?_ <;> (intro hb; try simp only [Bool.not_true, Bool.not_false] at hb) <;> try simp only [hb]) | (with_reducible refine cndW_split ?_ ?_ <;> (intro hb; try simp only [Bool.not_true, Bool.not_false] at hb) <;> try simp only [hb]) | (with_reducible refine ValW_split ?_ ?_ <;> (intro hb; try simp only [Bool.not_true, Bool.not_false] at hb) <;> try simp only [hb]))
  all_goals refine fin_b ?_
  all_goals (clear ra ta l1 l2 g0; unfold mayA; simp_all)

end Go.Vab

/-
  A writer: bytes that grow by append, in a cell of its own.
-/
namespace Go.Vab
open Go

/-- The row behind a writer: nothing, or a block of its own. -/
def Rx (h : Heap) (wc : Nat) (x : AV) (l : Bs) : Prop := l.length ≤ 1099511627776 ∧ ((x = .nilslice ∧ l = []) ∨
  ∃ b c g, x = .slice b 0 [] (.int .u8) 0 l.length (some c) ∧ h[b]? = some ⟨arr c g, 0, .own⟩ ∧ b ≠ wc ∧ l.length ≤ c ∧ ∀ i, i < l.length → g i = l.g i)
def rb : AV → Option Nat
  | .slice b _ _ _ _ _ _ => some b
  | _ => none
def wV (x : AV) : AV := .node [.node [x, nat 0]]
/-- A writer, and what is written. -/
def Wx (h : Heap) (wc : Nat) (x : AV) (l : Bs) : Prop := h[wc]? = some ⟨wV x, 0, .own⟩ ∧ Rx h wc x l
/-- All but a writer stays. -/
structure KeepW (h h' : Heap) (wc : Nat) (x x' : AV) : Prop where
  len : h.length ≤ h'.length
  keep : ∀ i c, h[i]? = some c → i ≠ wc → rb x ≠ some i → h'[i]? = some c
  row : ∀ b, rb x' = some b → rb x = some b ∨ h.length ≤ b

theorem KeepW.refl (h : Heap) (wc : Nat) (x : AV) : KeepW h h wc x x := ⟨Nat.le_refl _, fun _ _ h _ _ => h, fun _ h => .inl h⟩
theorem KeepW.trans {h h' h'' : Heap} {wc : Nat} {x x' x'' : AV} (k : KeepW h h' wc x x') (k' : KeepW h' h'' wc x' x'') : KeepW h h'' wc x x'' where
  len := Nat.le_trans k.len k'.len
  keep i c hi hw hx := k'.keep i c (k.keep i c hi hw hx) hw fun e => by
    rcases k.row i e with h1 | h1
    · exact hx h1
    · have := (List.getElem?_eq_some_iff.1 hi).1
      omega
  row b hb := by
    rcases k'.row b hb with h1 | h1
    · exact k.row b h1
    · exact .inr (Nat.le_trans k.len h1)

theorem Rx.byt {h : Heap} {wc : Nat} {x : AV} {l : Bs} (hr : Rx h wc x l) : BytL h x l := by
  obtain ⟨hl, h1 | h1⟩ := hr
  · obtain ⟨rfl, rfl⟩ := h1
    exact BytL.nil _
  · obtain ⟨b, c, g, rfl, h2, h3, h4, h5⟩ := h1
    refine ⟨⟨?_, rfl, h4, rfl⟩, by omega⟩
    rw [mElems_slc]
    have : blkAt h b 0 = some ⟨arr c g, 0, .own⟩ := by unfold blkAt; rw [h2]; rfl
    rw [this]
    simp only [bnd_some, get_nil, arr_cut, Nat.zero_add, h4, if_true]
    congr 1
    exact arr_congr h5

theorem Rx.cell {h : Heap} {wc : Nat} {x : AV} {l : Bs} (hr : Rx h wc x l) : hasTy x .cell = true := hr.byt.cell

theorem Rx.mono {h h' : Heap} {wc : Nat} {x : AV} {l : Bs} (hr : Rx h wc x l) (hk : ∀ b c, rb x = some b → h[b]? = some c → h'[b]? = some c) : Rx h' wc x l := by
  obtain ⟨hl, h1 | h1⟩ := hr
  · exact ⟨hl, .inl h1⟩
  · obtain ⟨b, c, g, rfl, h2, h3⟩ := h1
    exact ⟨hl, .inr ⟨b, c, g, rfl, hk _ _ rfl h2, h3⟩⟩

theorem pad_arr (n m : Nat) (g : Nat → BitVec 8) : padRow (arr n g) (u8 0#8) m = some (arr (n + m) fun i => if i < n then g i else 0#8) := by
  have : zeroRow m (u8 0#8) = arr m fun _ => 0#8 := by
    simp [zeroRow, u8, arr, bytes, List.map_const']
  unfold padRow
  rw [this, arr_join]

theorem bs_app_g (l m : Bs) (i : Nat) : Bs.g (l ++ m) i = if i < l.length then l.g i else m.g (i - l.length) := by
  unfold Bs.g
  simp only [List.getD_eq_getElem?_getD, List.getElem?_append]
  split <;> rfl

/-- Bytes are appended to a writer's row. -/
theorem appW_wr {H : Heap} {wc : Nat} {x y : AV} {l m : Bs} {K : AV × Heap → Prop} (hr : Rx H wc x l) (hwc : wc < H.length) (hy : BytL H y m) (hb : l.length + m.length ≤ 1099511627776)
    (hK : ∀ x' H', Rx H' wc x' (l ++ m) → H.length ≤ H'.length → (∀ i, rb x ≠ some i → i < H.length → H'[i]? = H[i]?) → (∀ b, rb x' = some b → rb x = some b ∨ H.length ≤ b) → K (x', H')) : appW (.int .u8) 1 (u8 0#8) x y H K := by
  have hel := hy.1.1
  refine ⟨_, m.length, hel, arr_rowLen _ _, ?_⟩
  have hbl : (l ++ m).length ≤ 1099511627776 := by rw [List.length_append]; exact hb
  obtain ⟨hl, h1 | h1⟩ := hr
  · obtain ⟨rfl, rfl⟩ := h1
    simp only [List.length_nil, Nat.zero_add] at hb hl
    by_cases h0 : m.length = 0
    · refine .inl ⟨h0, ?_⟩
      have hm : m = [] := List.eq_nil_of_length_eq_zero h0
      subst hm
      exact hK _ _ ⟨by simp, .inl ⟨rfl, rfl⟩⟩ (Nat.le_refl _) (fun _ _ _ => rfl) (fun b hb => by cases hb)
    · refine .inr ⟨by omega, by unfold roomBound; omega, by unfold roomBound; omega, by omega, fun c row hc hrow => ?_⟩
      rw [pad_arr] at hrow
      cases hrow
      refine hK _ _ ⟨hbl, .inr ⟨H.length, c, fun i => if i < m.length then m.g i else 0#8, rfl, ?_, by omega, by simpa using hc, ?_⟩⟩ (by simp) (fun i _ hi => by rw [List.getElem?_append_left hi]) (fun b hb => by cases hb; exact .inr (Nat.le_refl _))
      · rw [List.getElem?_append_right (Nat.le_refl _), show m.length + (c - m.length) = c by omega]
        simp
      · intro i hi
        have : i < m.length := by simpa using hi
        simp [this]
  · obtain ⟨b, c, g, rfl, h2, h3, h4, h5⟩ := h1
    have hbk : blkAt H b 0 = some ⟨arr c g, 0, .own⟩ := by unfold blkAt; rw [h2]; rfl
    have hold : mElems (.int .u8) (.slice b 0 [] (.int .u8) 0 l.length (some c)) H = some (arr l.length g) := by
      rw [mElems_slc, hbk]
      simp only [bnd_some, get_nil, arr_cut, Nat.zero_add, h4, if_true]
    have hbi : b < H.length := (List.getElem?_eq_some_iff.1 h2).1
    refine ⟨_, _, hold, arr_join _ _ _ _, ?_⟩
    by_cases h0 : m.length = 0
    · refine .inl ⟨h0, h4, ?_⟩
      have hm : m = [] := List.eq_nil_of_length_eq_zero h0
      subst hm
      rw [List.append_nil] at hK
      exact hK _ _ ⟨hl, .inr ⟨b, c, g, rfl, h2, h3, h4, h5⟩⟩ (Nat.le_refl _) (fun _ _ _ => rfl) (fun b' hb' => .inl hb')
    · by_cases hroom : l.length + m.length ≤ c
      · refine .inr (.inl ⟨by omega, hroom, _, _, _, _, hbk, by simp, get_nil _, by rw [Nat.zero_add, arr_splice, if_pos ⟨hroom, Nat.le_refl _⟩], put_nil _ _, ?_⟩)
        refine hK _ _ ⟨hbl, .inr ⟨b, c, fun j => if l.length ≤ j ∧ j < l.length + m.length then m.g (j - l.length) else g j, by rw [List.length_append], by rw [List.getElem?_set_self hbi], h3, by rw [List.length_append]; exact hroom, ?_⟩⟩ (by simp) (fun i hi _ => ?_) (fun b' hb' => .inl hb')
        · intro i hi
          rw [List.length_append] at hi
          rw [bs_app_g]
          dsimp only
          by_cases hil : i < l.length
          · rw [if_pos hil, if_neg (by omega)]; exact h5 i hil
          · rw [if_neg hil, if_pos (by omega)]
        · rw [List.getElem?_set_ne (fun e => hi (by rw [← e]; rfl))]
      · refine .inr (.inr ⟨by omega, by omega, by unfold roomBound; omega, by unfold roomBound; omega, by omega, fun c' row hc hrow => ?_⟩)
        rw [pad_arr] at hrow
        cases hrow
        refine hK _ _ ⟨hbl, .inr ⟨H.length, c', fun i => if i < l.length + m.length then (if i < l.length then g i else m.g (i - l.length)) else 0#8, by rw [List.length_append], ?_, by omega, by rw [List.length_append]; exact hc, ?_⟩⟩ (by simp) (fun i _ hi => by rw [List.getElem?_append_left hi]) (fun b' hb' => by cases hb'; exact .inr (Nat.le_refl _))
        · rw [List.getElem?_append_right (Nat.le_refl _), show l.length + m.length + (c' - (l.length + m.length)) = c' by omega]
          simp
        · intro i hi
          rw [List.length_append] at hi
          dsimp only
          rw [if_pos hi, bs_app_g]
          by_cases hil : i < l.length
          · rw [if_pos hil, if_pos hil]; exact h5 i hil
          · rw [if_neg hil, if_neg hil]

/-- The bytes of a number, the highest first. -/
def beN (n : BitVec 64) (size : Nat) : Bs := (List.range size).map fun i => (n >>> (8 * (size - 1 - i))).setWidth 8

@[simp] theorem wV_get00 (x : AV) : (wV x).get [0, 0] = some x := by simp [wV]
@[simp] theorem wV_get01 (x : AV) : (wV x).get [0, 1] = some (nat 0) := by simp [wV]
@[simp] theorem wV_put00 (x y : AV) : (wV x).put [0, 0] y = some (wV y) := by simp [wV]
@[simp] theorem hasTy_wV (x : AV) : hasTy (wV x) tLwriter = hasTy x .cell := by simp [wV]
@[simp] theorem wV_fold (x : AV) : AV.node [.node [x, nat 0]] = wV x := rfl
theorem Wx.blk {h : Heap} {wc : Nat} {x : AV} {l : Bs} (w : Wx h wc x l) : blkAt h wc 0 = some ⟨wV x, 0, .own⟩ := by
  unfold blkAt; rw [w.1]; rfl
theorem Wx.lt {h : Heap} {wc : Nat} {x : AV} {l : Bs} (w : Wx h wc x l) : wc < h.length := (List.getElem?_eq_some_iff.1 w.1).1
theorem Wx.app {h : Heap} {wc : Nat} {x : AV} {l : Bs} (w : Wx h wc x l) (e : Heap) : Wx (h ++ e) wc x l := by
  have g : ∀ i c, h[i]? = some c → (h ++ e)[i]? = some c := fun i c hi => by rw [List.getElem?_append_left (List.getElem?_eq_some_iff.1 hi).1]; exact hi
  exact ⟨g _ _ w.1, w.2.mono fun b c _ hb => g b c hb⟩
theorem KeepW.ext (h e : Heap) (wc : Nat) (x : AV) : KeepW h (h ++ e) wc x x := ⟨by simp, fun i c hi _ _ => by rw [List.getElem?_append_left (List.getElem?_eq_some_iff.1 hi).1]; exact hi, fun b hb => .inl hb⟩
theorem Rx.ne {h : Heap} {wc : Nat} {x : AV} {l : Bs} (hr : Rx h wc x l) : rb x ≠ some wc := by
  obtain ⟨_, ⟨rfl, _⟩ | ⟨b, c, g, rfl, _, h3, _⟩⟩ := hr
  · simp [rb]
  · simpa [rb] using h3

/-- .. and what came of it is stored. -/
theorem appW_wr2 {H : Heap} {wc : Nat} {x y : AV} {l m : Bs} {K : AV × Heap → Prop} (hw : Wx H wc x l) (hy : BytL H y m) (hb : l.length + m.length ≤ 1099511627776)
    (hK : ∀ x' H', blkAt H' wc 0 = some ⟨wV x, 0, .own⟩ → hasTy x' .cell = true → Wx (H'.set wc ⟨wV x', 0, .own⟩) wc x' (l ++ m) → KeepW H (H'.set wc ⟨wV x', 0, .own⟩) wc x x' → K (x', H')) : appW (.int .u8) 1 (u8 0#8) x y H K := by
  have hne := hw.2.ne
  refine appW_wr hw.2 hw.lt hy hb fun x' H' r1 r2 r3 r4 => ?_
  have hwc : H'[wc]? = some ⟨wV x, 0, .own⟩ := by rw [r3 wc hne hw.lt]; exact hw.1
  have hlt : wc < H'.length := (List.getElem?_eq_some_iff.1 hwc).1
  refine hK x' H' (by unfold blkAt; rw [hwc]; rfl) r1.cell ⟨by rw [List.getElem?_set_self hlt], r1.mono fun b c hb hc => ?_⟩ ⟨by simpa using r2, fun i c hi hiw hix => ?_, r4⟩
  · rw [List.getElem?_set_ne]
    · exact hc
    · rintro rfl; exact r1.ne hb
  · rw [List.getElem?_set_ne (fun e => hiw e.symm), r3 i hix (List.getElem?_eq_some_iff.1 hi).1]; exact hi

@[simp] theorem build1_u8 (h : Heap) (b : BitVec 8) : mBuildSlice (.int .u8) (u8 0#8) 1 [(0, u8 b)] h = some (.slice h.length 0 [] (.int .u8) 0 1 (some 1), h ++ [⟨arr 1 fun _ => b, 0, .own⟩]) := by
  have e : zeroRow 1 (u8 0#8) = arr 1 fun _ => 0#8 := by simp [zeroRow, u8, arr, bytes]
  have e2 : upd (fun _ => 0#8) 0 b = upd (fun _ => 0#8) 0 b := rfl
  simp only [mBuildSlice, e, fillRow, arr_put, Nat.lt_irrefl]
  simp [Ty.size]
  exact arr_congr fun i hi => by
    have : i = 0 := by omega
    subst this; simp
theorem byt1 (h : Heap) (b : BitVec 8) (e : Heap) : BytL (h ++ (⟨arr 1 fun _ => b, 0, .own⟩ :: e)) (.slice h.length 0 [] (.int .u8) 0 1 (some 1)) [b] := by
  refine ⟨⟨?_, rfl, by simp, rfl⟩, by simp⟩
  rw [mElems_slc]
  simp
  exact arr_congr fun i hi => by
    have : i = 0 := by simpa using hi
    subst this; rfl

/-- A slice that is not the writer's. -/
def Ap (h : Heap) (y : AV) (wc : Nat) (x : AV) : Prop := ∀ b, rb y = some b → b < h.length ∧ b ≠ wc ∧ rb x ≠ some b
theorem Ap.step {h h' : Heap} {y : AV} {wc : Nat} {x x' : AV} (a : Ap h y wc x) (k : KeepW h h' wc x x') : Ap h' y wc x' := fun b hb => by
  obtain ⟨h1, h2, h3⟩ := a b hb
  refine ⟨Nat.lt_of_lt_of_le h1 k.len, h2, fun e => ?_⟩
  rcases k.row b e with h4 | h4
  · exact h3 h4
  · omega
theorem Ap.nil (h : Heap) (wc : Nat) (x : AV) : Ap h .nilslice wc x := fun b hb => by cases hb
theorem KeepW.blk {h h' : Heap} {wc : Nat} {x x' : AV} (k : KeepW h h' wc x x') {i ver : Nat} {b : Blk} (hb : blkAt h i ver = some b) (h1 : i ≠ wc) (h2 : rb x ≠ some i) : blkAt h' i ver = some b := by
  obtain ⟨g1, g2⟩ := blkAt_spec hb
  unfold blkAt
  rw [k.keep i b g1 h1 h2]
  simp [g2, blkAt_mp hb]
theorem BytL.keep {h h' : Heap} {y : AV} {m : Bs} {wc : Nat} {x x' : AV} (hy : BytL h y m) (k : KeepW h h' wc x x') (a : Ap h y wc x) : BytL h' y m := by
  refine ⟨⟨?_, hy.1.2⟩, hy.2⟩
  have h1 := hy.1.1
  cases y with
  | nilslice => exact h1
  | slice b ver path t off len cap =>
    simp only [mElems] at h1 ⊢
    split at h1
    · rename_i ht
      rw [if_pos ht]
      obtain ⟨bb, g1, g2⟩ := bnd_eq_some.1 h1
      obtain ⟨a1, a2, a3⟩ := a b rfl
      rw [k.blk g1 a2 a3, bnd_some]
      exact g2
    · cases h1
  | str b => exact h1
  | _ => simp [mElems] at h1
theorem Row.keep {h h' : Heap} {t : Ty} {y : AV} {vs : List AV} {wc : Nat} {x x' : AV} (hy : Row t h y vs) (k : KeepW h h' wc x x') (a : Ap h y wc x) : Row t h' y vs := by
  refine ⟨?_, hy.2⟩
  have h1 := hy.1
  cases y with
  | nilslice => exact h1
  | slice b ver path t off len cap =>
    simp only [mElems] at h1 ⊢
    split at h1
    · rename_i ht
      rw [if_pos ht]
      obtain ⟨bb, g1, g2⟩ := bnd_eq_some.1 h1
      obtain ⟨a1, a2, a3⟩ := a b rfl
      rw [k.blk g1 a2 a3, bnd_some]
      exact g2
    · cases h1
  | str b => cases hy.2.1
  | _ => simp [mElems] at h1

/-- A writer's call: so much more is written, and all else stays. -/
def WrQ (h : Heap) (wc : Nat) (x : AV) (l : Bs) (v : AV) (r : AV × Heap) : Prop := r.1 = v ∧ ∃ x', Wx r.2 wc x' l ∧ KeepW h r.2 wc x x'
def wp (wc : Nat) : AV := .ptr wc 0 [0] tWriter
def wq (wc : Nat) : AV := .ptr wc 0 [] tLwriter
theorem pt_byt {h : Heap} {j : Nat} {p : Pt} (hb : blkAt h j 0 = some ⟨pt p, 0, .own⟩) : BytL h (.slice j 0 [] (.int .u8) 0 32 (some 32)) p.l := by
  refine ⟨⟨?_, ?_⟩, by rw [p.h]; omega⟩
  · rw [mElems_slc, hb]
    simp only [bnd_some, get_nil, pt, arr_cut, p.h]
    simp
    rfl
  · rw [p.h]; exact ⟨rfl, Nat.le_refl _, rfl⟩

/-- Cells of one's own beside a writer. -/
def Cells (n : Nat) (cs : List Blk) (H : Heap) (wc : Nat) (x : AV) : Prop := wc < n ∧ ∀ i c, cs[i]? = some c → H[n + i]? = some c ∧ rb x ≠ some (n + i)
theorem Cells.step {n : Nat} {cs : List Blk} {H H' : Heap} {wc : Nat} {x x' : AV} (h : Cells n cs H wc x) (k : KeepW H H' wc x x') : Cells n cs H' wc x' := by
  refine ⟨h.1, fun i c hc => ?_⟩
  obtain ⟨h1, h2⟩ := h.2 i c hc
  refine ⟨k.keep _ _ h1 (by have := h.1; omega) h2, fun e => ?_⟩
  rcases k.row _ e with h3 | h3
  · exact h2 h3
  · have := (List.getElem?_eq_some_iff.1 h1).1
    omega
theorem Cells.blk {n : Nat} {cs : List Blk} {H : Heap} {wc : Nat} {x : AV} (h : Cells n cs H wc x) (i : Nat) {c : Blk} (hc : cs[i]? = some c) (hm : c.mode ≠ .mp := by simp) : blkAt H (n + i) c.ver = some c := by
  unfold blkAt
  rw [(h.2 i c hc).1]
  simp [hm]
theorem Cells.new {h : Heap} {wc : Nat} {x : AV} {l : Bs} (hw : Wx h wc x l) (cs : List Blk) : Cells h.length cs (h ++ cs) wc x := by
  refine ⟨hw.lt, fun i c hc => ⟨by rw [List.getElem?_append_right (by omega), Nat.add_sub_cancel_left]; exact hc, fun e => ?_⟩⟩
  obtain ⟨_, ⟨rfl, _⟩ | ⟨b, c', g, rfl, h2, _⟩⟩ := hw.2
  · cases e
  · cases e
    have := (List.getElem?_eq_some_iff.1 h2).1
    omega
theorem Ap.app {h : Heap} {y : AV} {wc : Nat} {x : AV} (a : Ap h y wc x) (e : Heap) : Ap (h ++ e) y wc x := a.step (KeepW.ext _ _ _ _)

def textB (m : Bs) : Bs := beN (BitVec.ofNat 64 m.length) 2 ++ m
def accB (a : Acc) : Bs := beN (a.title.setWidth 64) 1 ++ beN (a.members.setWidth 64) 1 ++ beN (a.link.setWidth 64) 1
def ciB (c : Ci) : Bs := c.e.l ++ c.f.l
def when_ (b : Bool) (l : Bs) : Bs := if b = true then l else []
/-- An action's form. -/
def actB (a : Actn) : Bs := beN (a.version.setWidth 64) 4 ++ beN (a.kind.setWidth 64) 1 ++ when_ (hW a.kind) (ciB a.who) ++ when_ (hE a.kind) a.e.l ++ when_ (hR a.kind) (beN (a.role.setWidth 64) 1) ++
  when_ (hT a.kind) (textB a.title) ++ when_ (hA a.kind) (accB a.acc) ++ when_ (hP a.kind) (textB a.pass)


end Go.Vab

/- How the code of a function is read. Printed by wip/tools/gen2.py (own work). -/
namespace Go.Vab
open Go Go.Proofs
/-! (*vestry/pack.Writer).Num -/
def cx38 : Ctx := ⟨fun _ _ _ => none, TT, 67, [9, 10, 11, 12, 13, 14, 15, 16, 17, 18, 20, 21, 22, 23, 24, 25, 26, 27, 28, 29, 31, 32, 33, 34, 35, 36, 37, 38, 39, 40, 41, 42, 43, 47, 48, 49, 50, 51, 52, 53, 54, 55, 56, 57, 58, 59, 60, 61, 62, 63, 64, 65, 66]⟩
noncomputable def n38_0 : Code := bodyOf Try.f38
noncomputable def n38_1 : Code := cR n38_0
noncomputable def n38_2 : Code := cL n38_1
noncomputable def n38_3 : Code := cB n38_2
noncomputable def n38_4 : Code := cR n38_3
noncomputable def n38_5 : Code := cL n38_4
noncomputable def n38_6 : Code := cR n38_5
noncomputable def n38_7 : Code := cR n38_4
noncomputable def n38_8 : Code := cR n38_7
noncomputable def n38_9 : Code := cL n38_8
noncomputable def n38_10 : Code := cR n38_9
noncomputable def n38_11 : Code := cR n38_10
noncomputable def n38_12 : Code := cR n38_8
noncomputable def n38_13 : Code := cR n38_12
noncomputable def n38_14 : Code := cL n38_13
noncomputable def n38_15 : Code := cR n38_14
noncomputable def n38_16 : Code := cR n38_15
noncomputable def n38_17 : Code := cR n38_13
noncomputable def n38_18 : Code := cR n38_1
noncomputable def n38_19 : Code := cL n38_18
noncomputable def n38_20 : Code := cR n38_19
noncomputable def n38_21 : Code := cB n38_20
noncomputable def n38_22 : Code := cB n38_21
noncomputable def n38_23 : Code := cR n38_22
noncomputable def n38_24 : Code := cL n38_23
noncomputable def n38_25 : Code := cL n38_24
noncomputable def n38_26 : Code := cR n38_24
noncomputable def n38_27 : Code := cR n38_23
noncomputable def n38_28 : Code := cL n38_27
noncomputable def n38_29 : Code := cB n38_28
noncomputable def n38_30 : Code := cR n38_29
noncomputable def n38_31 : Code := cR n38_27
noncomputable def n38_32 : Code := cR n38_18
noncomputable def n38_33 : Code := cR n38_32
theorem n38_6_eq (Q : Ex × St → Prop) (s : St) : wC Try.prog cx38 n38_6 Q s = Q (.ret, s) := yE
theorem n38_5_eq (Q : Ex × St → Prop) (env : Env) (h : Heap) : wC Try.prog cx38 n38_5 Q ⟨env, h⟩ = ( wC Try.prog cx38 n38_6 Q ⟨(Env.put env 6 (env.get 0)), h⟩) := (ySR 2 (cOps (cL n38_5)) (cR n38_5)).trans (by
  refine w0 ?_
  refine wT 18 (env.get 0) ?_
  refine wT 6 (env.get 0) ?_
  exact wE)
theorem n38_11_eq (Q : Ex × St → Prop) (s : St) : wC Try.prog cx38 n38_11 Q s = Q (.ret, s) := yE
theorem n38_10_eq (Q : Ex × St → Prop) (env : Env) (h : Heap) : wC Try.prog cx38 n38_10 Q ⟨env, h⟩ = ( wC Try.prog cx38 n38_11 Q ⟨(Env.put env 6 (env.get 0)), h⟩) := (ySR 5 (cOps (cL n38_10)) (cR n38_10)).trans (by
  refine w0 ?_
  refine wT 29 (env.get 0) ?_
  refine wT 6 (env.get 0) ?_
  exact wE)
theorem n38_9_eq (Q : Ex × St → Prop) (env : Env) (h : Heap) : wC Try.prog cx38 n38_9 Q ⟨env, h⟩ = (Evs (mNilCheck (env.get 0)) fun v1 => Evs (mFieldAddr tWriter v1 1) fun v2 => Evs (stU (.int .i64) v2 (nat 2) h) fun r3 => wC Try.prog cx38 n38_10 Q ⟨env, r3.2⟩) := (ySR 4 (cOps (cL n38_9)) (cR n38_9)).trans (by
  refine w0 ?_
  refine wT 26 (env.get 0) ?_
  refine wP 27 fun v1 => ?_
  refine wP 28 fun v2 => ?_
  refine wHn fun r3 => ?_
  exact wE)
theorem n38_16_eq (Q : Ex × St → Prop) (s : St) : wC Try.prog cx38 n38_16 Q s = Q (.ret, s) := yE
theorem n38_15_eq (Q : Ex × St → Prop) (env : Env) (h : Heap) : wC Try.prog cx38 n38_15 Q ⟨env, h⟩ = ( wC Try.prog cx38 n38_16 Q ⟨(Env.put env 6 (env.get 0)), h⟩) := (ySR 8 (cOps (cL n38_15)) (cR n38_15)).trans (by
  refine w0 ?_
  refine wT 43 (env.get 0) ?_
  refine wT 6 (env.get 0) ?_
  exact wE)
theorem n38_14_eq (Q : Ex × St → Prop) (env : Env) (h : Heap) : wC Try.prog cx38 n38_14 Q ⟨env, h⟩ = (Evs (mNilCheck (env.get 0)) fun v1 => Evs (mFieldAddr tWriter v1 1) fun v2 => Evs (stU (.int .i64) v2 (nat 6) h) fun r3 => wC Try.prog cx38 n38_15 Q ⟨env, r3.2⟩) := (ySR 7 (cOps (cL n38_14)) (cR n38_14)).trans (by
  refine w0 ?_
  refine wT 40 (env.get 0) ?_
  refine wP 41 fun v1 => ?_
  refine wP 42 fun v2 => ?_
  refine wHn fun r3 => ?_
  exact wE)
theorem n38_17_eq (Q : Ex × St → Prop) (s : St) : wC Try.prog cx38 n38_17 Q s = Q (.nrm, s) := yK
theorem n38_13_eq (Q : Ex × St → Prop) (s : St) : wC Try.prog cx38 n38_13 Q s = cndW (s.env.get 30) (wL Try.prog cx38 n38_14 Q s) (wL Try.prog cx38 n38_17 Q s) := yC 30 _ _
theorem n38_12_eq (Q : Ex × St → Prop) (env : Env) (h : Heap) : wC Try.prog cx38 n38_12 Q ⟨env, h⟩ = (Evs (mBin .mul (nat 8) (env.get 2)) fun v2 => Evs (mBin .shr (env.get 1) v2) fun v3 => Evs (mBin .neq v3 (u64 0#64)) fun v4 => Evs (gv v4 true (some (env.get 2))) fun v6 => Evs (gv v4 true (mBin .lss v6 (nat 8))) fun v7 => Evs (mPick v4 v7 (.bool false)) fun v8 => wC Try.prog cx38 n38_13 Q ⟨(Env.put env 30 v8), h⟩) := (ySR 6 (cOps (cL n38_12)) (cR n38_12)).trans (by
  refine w0 ?_
  refine wT 31 (env.get 1) ?_
  refine wT 32 (env.get 2) ?_
  refine wP 33 fun v2 => ?_
  refine wP 34 fun v3 => ?_
  refine wP 35 fun v4 => ?_
  refine wT 36 v4 ?_
  refine wG 37 fun v6 => ?_
  refine wG 38 fun v7 => ?_
  refine wP 39 fun v8 => ?_
  refine wT 30 v8 ?_
  exact wE)
theorem n38_8_eq (Q : Ex × St → Prop) (s : St) : wC Try.prog cx38 n38_8 Q s = cndW (s.env.get 19) (wL Try.prog cx38 n38_9 Q s) (wL Try.prog cx38 n38_12 Q s) := yC 19 _ _
theorem n38_7_eq (Q : Ex × St → Prop) (env : Env) (h : Heap) : wC Try.prog cx38 n38_7 Q ⟨env, h⟩ = (Evs (mBin .lss (env.get 2) (nat 1)) fun v1 => Evs (gv v1 false (some (env.get 2))) fun v3 => Evs (gv v1 false (mBin .gtr v3 (nat 8))) fun v4 => Evs (mPick v1 (.bool true) v4) fun v5 => wC Try.prog cx38 n38_8 Q ⟨(Env.put env 19 v5), h⟩) := (ySR 3 (cOps (cL n38_7)) (cR n38_7)).trans (by
  refine w0 ?_
  refine wT 20 (env.get 2) ?_
  refine wP 21 fun v1 => ?_
  refine wT 22 v1 ?_
  refine wG 23 fun v3 => ?_
  refine wG 24 fun v4 => ?_
  refine wP 25 fun v5 => ?_
  refine wT 19 v5 ?_
  exact wE)
theorem n38_4_eq (Q : Ex × St → Prop) (s : St) : wC Try.prog cx38 n38_4 Q s = cndW (s.env.get 8) (wL Try.prog cx38 n38_5 Q s) (wL Try.prog cx38 n38_7 Q s) := yC 8 _ _
theorem n38_3_eq (Q : Ex × St → Prop) (env : Env) (h : Heap) : wC Try.prog cx38 n38_3 Q ⟨env, h⟩ = (Evs (mBinP .eql (env.get 0) .nilptr) fun v1 => Evs (gv v1 false (some (env.get 0))) fun v3 => Evs (gv v1 false (mNilCheck v3)) fun v4 => Evs (gv v1 false (mFieldAddr tWriter v4 1)) fun v5 => Evs (gv v1 false (mLoad (.int .i64) v5 h)) fun v6 => Evs (gv v1 false (mBin .neq v6 (nat 0))) fun v7 => Evs (mPick v1 (.bool true) v7) fun v8 => wC Try.prog cx38 n38_4 Q ⟨(Env.put env 8 v8), h⟩) := (ySR 1 (cOps (cL n38_3)) (cR n38_3)).trans (by
  refine w0 ?_
  refine wT 9 (env.get 0) ?_
  refine wP 10 fun v1 => ?_
  refine wT 11 v1 ?_
  refine wG 12 fun v3 => ?_
  refine wG 13 fun v4 => ?_
  refine wG 14 fun v5 => ?_
  refine wG 15 fun v6 => ?_
  refine wG 16 fun v7 => ?_
  refine wP 17 fun v8 => ?_
  refine wT 8 v8 ?_
  exact wE)
theorem n38_2_eq (Q : Ex × St → Prop) (s : St) : wC Try.prog cx38 n38_2 Q s = wC Try.prog cx38 n38_3 (fun r => Q (inBlk 0 r)) s := yB 0 _
theorem n38_25_eq (Q : Ex × St → Prop) (s : St) : wC Try.prog cx38 n38_25 Q s = Q (.nrm, s) := yK
theorem n38_26_eq (Q : Ex × St → Prop) (s : St) : wC Try.prog cx38 n38_26 Q s = Q (.exit 1, s) := yX 1
theorem n38_24_eq (Q : Ex × St → Prop) (s : St) : wC Try.prog cx38 n38_24 Q s = cndW (s.env.get 46) (wL Try.prog cx38 n38_25 Q s) (wL Try.prog cx38 n38_26 Q s) := yC 46 _ _
theorem n38_30_ok : treeOk (cOps n38_30).toList [13, 14, 17] [0, 0, 2, 6, 14, 0, 0, 64, 0, 448, 960, 2016, 4064, 8160, 16382, 32767, 65535, 131071] = true := by kernel_rfl
theorem n38_30_w (Q : Ex × St → Prop) (env : Env) (h : Heap) (H : Evs (mNilCheck (env.get 0)) fun v2_1 => Evs (mFieldAddr tWriter v2_1 0) fun v3_2 => Evs (mLoad .cell v3_2 h) fun v4_3 => Evs (mBin .sub (env.get 2) (nat 1)) fun v7_4 => Evs (mBin .sub v7_4 (env.get 7)) fun v9_5 => Evs (mBin .mul (nat 8) v9_5) fun v10_6 => Evs (mBin .shr (env.get 1) v10_6) fun v11_7 => Evs (mConv .u8 v11_7) fun v12_8 => Evs (mBuildSlice (.int .u8) (u8 0#8) 1 [(0, v12_8)] h) fun r13_9 => stabP (mLoad .cell v3_2 r13_9.2 = some v4_3) (appA (.int .u8) 1 (u8 0#8) v4_3 r13_9.1 r13_9.2 fun r14_10 => Evs (mNilCheck (env.get 0)) fun v15_11 => Evs (mFieldAddr tWriter v15_11 0) fun v16_12 => Evs (stU .cell v16_12 r14_10.1 r14_10.2) fun r17_13 => Q (.nrm, ⟨env, r17_13.2⟩))) : wC Try.prog cx38 n38_30 Q ⟨env, h⟩ := by
  refine yD 12 (cOps n38_30) [13, 14, 17] [0, 0, 2, 6, 14, 0, 0, 64, 0, 448, 960, 2016, 4064, 8160, 16382, 32767, 65535, 131071] [0, 1, 2, 3, 4, 5, 6, 7, 8, 9, 10, 11, 12] n38_30_ok ?_
  refine rT 48 (env.get 0) ?_
  refine rT 49 (env.get 0) ?_
  refine rP H 50 fun v2_1 H => ?_
  refine rP H 51 fun v3_2 H => ?_
  refine rP H 52 fun v4_3 H => ?_
  refine rT 53 (env.get 1) ?_
  refine rT 54 (env.get 2) ?_
  refine rP H 55 fun v7_4 H => ?_
  refine rT 56 (env.get 7) ?_
  refine rP H 57 fun v9_5 H => ?_
  refine rP H 58 fun v10_6 H => ?_
  refine rP H 59 fun v11_7 H => ?_
  refine rP H 60 fun v12_8 H => ?_
  refine rE ?_
  refine tN 13 [] ?_
  refine aN1 ?_
  refine tH H 61 [] [4] (fun r13_9 H => ?_)
  refine sP v4_3 52 H (fun H => ?_) (by kernel_rfl) (by kernel_rfl) (by kernel_rfl)
  refine ⟨sNil, ?_⟩
  refine rE ?_
  refine tN 14 [] ?_
  refine aN1 ?_
  refine tH H 62 [15, 16] [] (fun r14_10 H => ?_)
  refine ⟨sNil, ?_⟩
  refine rP H 63 fun v15_11 H => ?_
  refine rP H 64 fun v16_12 H => ?_
  refine rE ?_
  refine tN 17 [] ?_
  refine aN1 ?_
  refine tHn H [] [] (fun r17_13 H => ?_)
  refine ⟨sNil, ?_⟩
  refine rE ?_
  exact tE H
theorem n38_29_eq (Q : Ex × St → Prop) (env : Env) (h : Heap) : wC Try.prog cx38 n38_29 Q ⟨env, h⟩ = ( wC Try.prog cx38 n38_30 Q ⟨(Env.put env 7 (env.get 45)), h⟩) := (ySR 11 (cOps (cL n38_29)) (cR n38_29)).trans (by
  refine w0 ?_
  refine wT 47 (env.get 45) ?_
  refine wT 7 (env.get 45) ?_
  exact wE)
theorem n38_28_eq (Q : Ex × St → Prop) (s : St) : wC Try.prog cx38 n38_28 Q s = wC Try.prog cx38 n38_29 (fun r => Q (inBlk 2 r)) s := yB 2 _
theorem n38_31_eq (Q : Ex × St → Prop) (env : Env) (h : Heap) : wC Try.prog cx38 n38_31 Q ⟨env, h⟩ = (Evs (mBin .add (env.get 45) (nat 1)) fun v0 => Q (.nrm, ⟨(Env.put env 45 v0), h⟩)) := (yR 13 (cOps n38_31)).trans (by
  refine w0 ?_
  refine wP 65 fun v0 => ?_
  refine wT 45 v0 ?_
  exact wE)
theorem n38_27_eq (Q : Ex × St → Prop) (s : St) : wC Try.prog cx38 n38_27 Q s = wC Try.prog cx38 n38_28 (sqW (wC Try.prog cx38 n38_31) Q) s := yS _ _
theorem n38_23_eq (Q : Ex × St → Prop) (s : St) : wC Try.prog cx38 n38_23 Q s = wC Try.prog cx38 n38_24 (sqW (wC Try.prog cx38 n38_27) Q) s := yS _ _
theorem n38_22_eq (Q : Ex × St → Prop) (env : Env) (h : Heap) : wC Try.prog cx38 n38_22 Q ⟨env, h⟩ = (Evs (mBin .lss (env.get 45) (env.get 44)) fun v0 => wC Try.prog cx38 n38_23 Q ⟨(Env.put env 46 v0), h⟩) := (ySR 10 (cOps (cL n38_22)) (cR n38_22)).trans (by
  refine w0 ?_
  refine wP 46 fun v0 => ?_
  exact wE)
theorem n38_21_eq (Q : Ex × St → Prop) (s : St) : wC Try.prog cx38 n38_21 Q s = loopW (wC Try.prog cx38 n38_22) Q s := yL _
theorem n38_20_eq (Q : Ex × St → Prop) (s : St) : wC Try.prog cx38 n38_20 Q s = wC Try.prog cx38 n38_21 (fun r => Q (inBlk 1 r)) s := yB 1 _
theorem n38_19_eq (Q : Ex × St → Prop) (env : Env) (h : Heap) : wC Try.prog cx38 n38_19 Q ⟨env, h⟩ = ( wC Try.prog cx38 n38_20 Q ⟨(Env.put (Env.put env 44 (env.get 2)) 45 (nat 0)), h⟩) := (ySR 9 (cOps (cL n38_19)) (cR n38_19)).trans (by
  refine w0 ?_
  refine wT 44 (env.get 2) ?_
  refine wT 45 (nat 0) ?_
  exact wE)
theorem n38_33_eq (Q : Ex × St → Prop) (s : St) : wC Try.prog cx38 n38_33 Q s = Q (.ret, s) := yE
theorem n38_32_eq (Q : Ex × St → Prop) (env : Env) (h : Heap) : wC Try.prog cx38 n38_32 Q ⟨env, h⟩ = ( wC Try.prog cx38 n38_33 Q ⟨(Env.put env 6 (env.get 0)), h⟩) := (ySR 14 (cOps (cL n38_32)) (cR n38_32)).trans (by
  refine w0 ?_
  refine wT 66 (env.get 0) ?_
  refine wT 6 (env.get 0) ?_
  exact wE)
theorem n38_18_eq (Q : Ex × St → Prop) (s : St) : wC Try.prog cx38 n38_18 Q s = wC Try.prog cx38 n38_19 (sqW (wC Try.prog cx38 n38_32) Q) s := yS _ _
theorem n38_1_eq (Q : Ex × St → Prop) (s : St) : wC Try.prog cx38 n38_1 Q s = wC Try.prog cx38 n38_2 (sqW (wC Try.prog cx38 n38_18) Q) s := yS _ _
theorem n38_0_eq (Q : Ex × St → Prop) (env : Env) (h : Heap) : wC Try.prog cx38 n38_0 Q ⟨env, h⟩ = ( wC Try.prog cx38 n38_1 Q ⟨(Env.put env 6 .nilptr), h⟩) := (ySR 0 (cOps (cL n38_0)) (cR n38_0)).trans (by
  refine w0 ?_
  refine wT 6 .nilptr ?_
  exact wE)
theorem fn38 : Try.prog.funcs[38]? = some Try.f38 := by kernel_rfl
theorem q38 {a0 a1 a2 : AV} {h : Heap} {K : AV × Heap → Prop} (H : ∀ env : Env, env.get 0 = a0 → env.get 1 = a1 → env.get 2 = a2 → wC Try.prog cx38 n38_0 (retW (fun s => (bnd (some (s.env.get 6)) fun v => bnd (some []) fun vs => some (v :: vs))) K) ⟨env, h⟩) : SpecQ Try.prog 38 [a0, a1, a2] h K :=
  bodyW_sound (C := cx38) TT_ok mixed_ok fn38 (by kernel_rfl) (show _ = some n38_0 by kernel_rfl) (by kernel_rfl) (by kernel_rfl) (of_decide_eq_true (by kernel_rfl)) ((show wC Try.prog cx38 n38_0 (retW (fun s => resAll cx38 s Try.f38.results.toList) K) ⟨env0 cx38 [a0, a1, a2], h⟩ = wC Try.prog cx38 n38_0 (retW (fun s => (bnd (some (s.env.get 6)) fun v => bnd (some []) fun vs => some (v :: vs))) K) ⟨[(0, a0), (1, a1), (2, a2), (3, .junk), (4, .junk), (5, .junk), (6, .junk), (7, .junk), (8, .junk), (19, .junk), (30, .junk), (44, .junk), (45, .junk), (46, .junk)], h⟩ by kernel_rfl).mpr (H [(0, a0), (1, a1), (2, a2), (3, .junk), (4, .junk), (5, .junk), (6, .junk), (7, .junk), (8, .junk), (19, .junk), (30, .junk), (44, .junk), (45, .junk), (46, .junk)] rfl rfl rfl))
def sn38 := And.intro n38_6_eq (And.intro n38_5_eq (And.intro n38_11_eq (And.intro n38_10_eq (And.intro n38_9_eq (And.intro n38_16_eq (And.intro n38_15_eq (And.intro n38_14_eq (And.intro n38_17_eq (And.intro n38_13_eq (And.intro n38_12_eq (And.intro n38_8_eq (And.intro n38_7_eq (And.intro n38_4_eq (And.intro n38_3_eq (And.intro n38_2_eq (And.intro n38_25_eq (And.intro n38_26_eq (And.intro n38_24_eq (And.intro n38_29_eq (And.intro n38_28_eq (And.intro n38_31_eq (And.intro n38_27_eq (And.intro n38_23_eq (And.intro n38_22_eq (And.intro n38_21_eq (And.intro n38_20_eq (And.intro n38_19_eq (And.intro n38_33_eq (And.intro n38_32_eq (And.intro n38_18_eq (And.intro n38_1_eq (n38_0_eq))))))))))))))))))))))))))))))))
-- draws: n38_30
end Go.Vab

/- How the code of a function is read. Printed by wip/tools/gen2.py (own work). -/
namespace Go.Vab
open Go Go.Proofs
/-! (*vestry/pack.Writer).Raw -/
def cx63 : Ctx := ⟨fun _ _ _ => none, TT, 24, [5, 6, 7, 8, 9, 10, 11, 12, 14, 15, 16, 17, 18, 19, 20, 21, 22, 23]⟩
noncomputable def n63_0 : Code := bodyOf Try.f63
noncomputable def n63_1 : Code := cR n63_0
noncomputable def n63_2 : Code := cL n63_1
noncomputable def n63_3 : Code := cR n63_2
noncomputable def n63_4 : Code := cL n63_3
noncomputable def n63_5 : Code := cR n63_3
noncomputable def n63_6 : Code := cR n63_1
noncomputable def n63_7 : Code := cR n63_6
theorem n63_4_eq (Q : Ex × St → Prop) (env : Env) (h : Heap) : wC Try.prog cx63 n63_4 Q ⟨env, h⟩ = (Evs (mNilCheck (env.get 0)) fun v2 => Evs (mFieldAddr tWriter v2 0) fun v3 => Evs (mLoad .cell v3 h) fun v4 => appA (.int .u8) 1 (u8 0#8) v4 (env.get 1) h fun r6 => Evs (mNilCheck (env.get 0)) fun v7 => Evs (mFieldAddr tWriter v7 0) fun v8 => Evs (stU .cell v8 r6.1 r6.2) fun r9 => Q (.nrm, ⟨env, r9.2⟩)) := (yR 2 (cOps n63_4)).trans (by
  refine w0 ?_
  refine wT 14 (env.get 0) ?_
  refine wT 15 (env.get 0) ?_
  refine wP 16 fun v2 => ?_
  refine wP 17 fun v3 => ?_
  refine wP 18 fun v4 => ?_
  refine wT 19 (env.get 1) ?_
  refine wH 20 fun r6 => ?_
  refine wP 21 fun v7 => ?_
  refine wP 22 fun v8 => ?_
  refine wHn fun r9 => ?_
  exact wE)
theorem n63_5_eq (Q : Ex × St → Prop) (s : St) : wC Try.prog cx63 n63_5 Q s = Q (.nrm, s) := yK
theorem n63_3_eq (Q : Ex × St → Prop) (s : St) : wC Try.prog cx63 n63_3 Q s = cndW (s.env.get 13) (wL Try.prog cx63 n63_4 Q s) (wL Try.prog cx63 n63_5 Q s) := yC 13 _ _
theorem n63_2_eq (Q : Ex × St → Prop) (env : Env) (h : Heap) : wC Try.prog cx63 n63_2 Q ⟨env, h⟩ = (Evs (mBinP .neq (env.get 0) .nilptr) fun v1 => Evs (gv v1 true (some (env.get 0))) fun v3 => Evs (gv v1 true (mNilCheck v3)) fun v4 => Evs (gv v1 true (mFieldAddr tWriter v4 1)) fun v5 => Evs (gv v1 true (mLoad (.int .i64) v5 h)) fun v6 => Evs (gv v1 true (mBin .eql v6 (nat 0))) fun v7 => Evs (mPick v1 v7 (.bool false)) fun v8 => wC Try.prog cx63 n63_3 Q ⟨(Env.put env 13 v8), h⟩) := (ySR 1 (cOps (cL n63_2)) (cR n63_2)).trans (by
  refine w0 ?_
  refine wT 5 (env.get 0) ?_
  refine wP 6 fun v1 => ?_
  refine wT 7 v1 ?_
  refine wG 8 fun v3 => ?_
  refine wG 9 fun v4 => ?_
  refine wG 10 fun v5 => ?_
  refine wG 11 fun v6 => ?_
  refine wG 12 fun v7 => ?_
  refine wP 13 fun v8 => ?_
  exact wE)
theorem n63_7_eq (Q : Ex × St → Prop) (s : St) : wC Try.prog cx63 n63_7 Q s = Q (.ret, s) := yE
theorem n63_6_eq (Q : Ex × St → Prop) (env : Env) (h : Heap) : wC Try.prog cx63 n63_6 Q ⟨env, h⟩ = ( wC Try.prog cx63 n63_7 Q ⟨(Env.put env 4 (env.get 0)), h⟩) := (ySR 3 (cOps (cL n63_6)) (cR n63_6)).trans (by
  refine w0 ?_
  refine wT 23 (env.get 0) ?_
  refine wT 4 (env.get 0) ?_
  exact wE)
theorem n63_1_eq (Q : Ex × St → Prop) (s : St) : wC Try.prog cx63 n63_1 Q s = wC Try.prog cx63 n63_2 (sqW (wC Try.prog cx63 n63_6) Q) s := yS _ _
theorem n63_0_eq (Q : Ex × St → Prop) (env : Env) (h : Heap) : wC Try.prog cx63 n63_0 Q ⟨env, h⟩ = ( wC Try.prog cx63 n63_1 Q ⟨(Env.put env 4 .nilptr), h⟩) := (ySR 0 (cOps (cL n63_0)) (cR n63_0)).trans (by
  refine w0 ?_
  refine wT 4 .nilptr ?_
  exact wE)
theorem fn63 : Try.prog.funcs[63]? = some Try.f63 := by kernel_rfl
theorem q63 {a0 a1 : AV} {h : Heap} {K : AV × Heap → Prop} (H : ∀ env : Env, env.get 0 = a0 → env.get 1 = a1 → wC Try.prog cx63 n63_0 (retW (fun s => (bnd (some (s.env.get 4)) fun v => bnd (some []) fun vs => some (v :: vs))) K) ⟨env, h⟩) : SpecQ Try.prog 63 [a0, a1] h K :=
  bodyW_sound (C := cx63) TT_ok mixed_ok fn63 (by kernel_rfl) (show _ = some n63_0 by kernel_rfl) (by kernel_rfl) (by kernel_rfl) (of_decide_eq_true (by kernel_rfl)) ((show wC Try.prog cx63 n63_0 (retW (fun s => resAll cx63 s Try.f63.results.toList) K) ⟨env0 cx63 [a0, a1], h⟩ = wC Try.prog cx63 n63_0 (retW (fun s => (bnd (some (s.env.get 4)) fun v => bnd (some []) fun vs => some (v :: vs))) K) ⟨[(0, a0), (1, a1), (2, .junk), (3, .junk), (4, .junk), (13, .junk)], h⟩ by kernel_rfl).mpr (H [(0, a0), (1, a1), (2, .junk), (3, .junk), (4, .junk), (13, .junk)] rfl rfl))
def sn63 := And.intro n63_4_eq (And.intro n63_5_eq (And.intro n63_3_eq (And.intro n63_2_eq (And.intro n63_7_eq (And.intro n63_6_eq (And.intro n63_1_eq (n63_0_eq)))))))
-- draws: 
end Go.Vab

/- How the code of a function is read. Printed by wip/tools/gen2.py (own work). -/
namespace Go.Vab
open Go Go.Proofs
/-! (*vestry/pack.Writer).Text -/
def cx40 : Ctx := ⟨fun _ _ _ => none, TT, 30, [5, 6, 7, 8, 9, 10, 11, 12, 13, 14, 15, 16, 17, 19, 20, 21, 22, 23, 24, 25, 26, 27, 28, 29]⟩
noncomputable def n40_0 : Code := bodyOf Try.f40
noncomputable def n40_1 : Code := cR n40_0
noncomputable def n40_2 : Code := cL n40_1
noncomputable def n40_3 : Code := cR n40_2
noncomputable def n40_4 : Code := cL n40_3
noncomputable def n40_5 : Code := cR n40_3
noncomputable def n40_6 : Code := cR n40_1
noncomputable def n40_7 : Code := cR n40_6
theorem n40_4_eq (Q : Ex × St → Prop) (env : Env) (h : Heap) : wC Try.prog cx40 n40_4 Q ⟨env, h⟩ = (Evs (mNilCheck (env.get 0)) fun v1 => Evs (mFieldAddr tWriter v1 1) fun v2 => Evs (stU (.int .i64) v2 (nat 3) h) fun r3 => Q (.nrm, ⟨env, r3.2⟩)) := (yR 2 (cOps n40_4)).trans (by
  refine w0 ?_
  refine wT 19 (env.get 0) ?_
  refine wP 20 fun v1 => ?_
  refine wP 21 fun v2 => ?_
  refine wHn fun r3 => ?_
  exact wE)
theorem n40_5_eq (Q : Ex × St → Prop) (s : St) : wC Try.prog cx40 n40_5 Q s = Q (.nrm, s) := yK
theorem n40_3_eq (Q : Ex × St → Prop) (s : St) : wC Try.prog cx40 n40_3 Q s = cndW (s.env.get 18) (wL Try.prog cx40 n40_4 Q s) (wL Try.prog cx40 n40_5 Q s) := yC 18 _ _
theorem n40_2_eq (Q : Ex × St → Prop) (env : Env) (h : Heap) : wC Try.prog cx40 n40_2 Q ⟨env, h⟩ = (Evs (mBinP .neq (env.get 0) .nilptr) fun v1 => Evs (gv v1 true (some (env.get 0))) fun v3 => Evs (gv v1 true (mNilCheck v3)) fun v4 => Evs (gv v1 true (mFieldAddr tWriter v4 1)) fun v5 => Evs (gv v1 true (mLoad (.int .i64) v5 h)) fun v6 => Evs (gv v1 true (mBin .eql v6 (nat 0))) fun v7 => Evs (mPick v1 v7 (.bool false)) fun v8 => Evs (gv v8 true (some (env.get 1))) fun v10 => Evs (gv v8 true (mLenS v10)) fun v11 => Evs (gv v8 true (mBin .gtr v11 (nat 60000))) fun v12 => Evs (mPick v8 v12 (.bool false)) fun v13 => wC Try.prog cx40 n40_3 Q ⟨(Env.put env 18 v13), h⟩) := (ySR 1 (cOps (cL n40_2)) (cR n40_2)).trans (by
  refine w0 ?_
  refine wT 5 (env.get 0) ?_
  refine wP 6 fun v1 => ?_
  refine wT 7 v1 ?_
  refine wG 8 fun v3 => ?_
  refine wG 9 fun v4 => ?_
  refine wG 10 fun v5 => ?_
  refine wG 11 fun v6 => ?_
  refine wG 12 fun v7 => ?_
  refine wP 13 fun v8 => ?_
  refine wT 14 v8 ?_
  refine wG 15 fun v10 => ?_
  refine wG 16 fun v11 => ?_
  refine wG 17 fun v12 => ?_
  refine wP 18 fun v13 => ?_
  exact wE)
theorem n40_7_eq (Q : Ex × St → Prop) (s : St) : wC Try.prog cx40 n40_7 Q s = Q (.ret, s) := yE
theorem n40_6_eq (Q : Ex × St → Prop) (env : Env) (h : Heap) : wC Try.prog cx40 n40_6 Q ⟨env, h⟩ = (Evs (mLenS (env.get 1)) fun v2 => Evs (mConv .u64 v2) fun v3 => Evs (mBin .and v3 (u64 65535#64)) fun v4 => SpecA Try.prog 38 [(env.get 0), v4, (nat 2)] h fun r5 => SpecA Try.prog 63 [r5.1, (env.get 1)] r5.2 fun r7 => wC Try.prog cx40 n40_7 Q ⟨(Env.put env 4 r7.1), r7.2⟩) := (ySR 3 (cOps (cL n40_6)) (cR n40_6)).trans (by
  refine w0 ?_
  refine wT 22 (env.get 0) ?_
  refine wT 23 (env.get 1) ?_
  refine wP 24 fun v2 => ?_
  refine wP 25 fun v3 => ?_
  refine wP 26 fun v4 => ?_
  refine wH 27 fun r5 => ?_
  refine wT 28 (env.get 1) ?_
  refine wH 29 fun r7 => ?_
  refine wT 4 r7.1 ?_
  exact wE)
theorem n40_1_eq (Q : Ex × St → Prop) (s : St) : wC Try.prog cx40 n40_1 Q s = wC Try.prog cx40 n40_2 (sqW (wC Try.prog cx40 n40_6) Q) s := yS _ _
theorem n40_0_eq (Q : Ex × St → Prop) (env : Env) (h : Heap) : wC Try.prog cx40 n40_0 Q ⟨env, h⟩ = ( wC Try.prog cx40 n40_1 Q ⟨(Env.put env 4 .nilptr), h⟩) := (ySR 0 (cOps (cL n40_0)) (cR n40_0)).trans (by
  refine w0 ?_
  refine wT 4 .nilptr ?_
  exact wE)
theorem fn40 : Try.prog.funcs[40]? = some Try.f40 := by kernel_rfl
theorem q40 {a0 a1 : AV} {h : Heap} {K : AV × Heap → Prop} (H : ∀ env : Env, env.get 0 = a0 → env.get 1 = a1 → wC Try.prog cx40 n40_0 (retW (fun s => (bnd (some (s.env.get 4)) fun v => bnd (some []) fun vs => some (v :: vs))) K) ⟨env, h⟩) : SpecQ Try.prog 40 [a0, a1] h K :=
  bodyW_sound (C := cx40) TT_ok mixed_ok fn40 (by kernel_rfl) (show _ = some n40_0 by kernel_rfl) (by kernel_rfl) (by kernel_rfl) (of_decide_eq_true (by kernel_rfl)) ((show wC Try.prog cx40 n40_0 (retW (fun s => resAll cx40 s Try.f40.results.toList) K) ⟨env0 cx40 [a0, a1], h⟩ = wC Try.prog cx40 n40_0 (retW (fun s => (bnd (some (s.env.get 4)) fun v => bnd (some []) fun vs => some (v :: vs))) K) ⟨[(0, a0), (1, a1), (2, .junk), (3, .junk), (4, .junk), (18, .junk)], h⟩ by kernel_rfl).mpr (H [(0, a0), (1, a1), (2, .junk), (3, .junk), (4, .junk), (18, .junk)] rfl rfl))
def sn40 := And.intro n40_4_eq (And.intro n40_5_eq (And.intro n40_3_eq (And.intro n40_2_eq (And.intro n40_7_eq (And.intro n40_6_eq (And.intro n40_1_eq (n40_0_eq)))))))
-- draws: 
end Go.Vab

/- How the code of a function is read. Printed by wip/tools/gen2.py (own work). -/
namespace Go.Vab
open Go Go.Proofs
/-! (*vestry/forms.writer).point -/
def cx39 : Ctx := ⟨fun _ _ _ => none, TT, 9, [4, 5, 6, 7, 8]⟩
noncomputable def n39_0 : Code := bodyOf Try.f39
noncomputable def n39_1 : Code := cR n39_0
theorem n39_1_ok : treeOk (cOps n39_1).toList [4] [0, 1, 3, 0, 15] = true := by kernel_rfl
theorem n39_1_w (Q : Ex × St → Prop) (env : Env) (h : Heap) (H : Evs (mNilCheck (env.get 0)) fun v1_1 => Evs (mFieldAddr tLwriter v1_1 0) fun v2_2 => Evs (mSliceA (.arr 32 (.int .u8)) (env.get 3) none none none) fun v3_3 => SpecA Try.prog 63 [v2_2, v3_3] h fun r4_4 => Q (.nrm, ⟨env, r4_4.2⟩)) : wC Try.prog cx39 n39_1 Q ⟨env, h⟩ := by
  refine yD 1 (cOps n39_1) [4] [0, 1, 3, 0, 15] [0, 1, 2, 3] n39_1_ok ?_
  refine rT 4 (env.get 0) ?_
  refine rP H 5 fun v1_1 H => ?_
  refine rP H 6 fun v2_2 H => ?_
  refine rP H 7 fun v3_3 H => ?_
  refine rE ?_
  refine tN 4 [] ?_
  refine aN1 ?_
  refine tH H 8 [] [] (fun r4_4 H => ?_)
  refine ⟨sNil, ?_⟩
  refine rE ?_
  exact tE H
theorem n39_0_eq (Q : Ex × St → Prop) (env : Env) (h : Heap) : wC Try.prog cx39 n39_0 Q ⟨env, h⟩ = (Evs (mNew (.arr 32 (.int .u8)) (env.get 1) h) fun r0 => wC Try.prog cx39 n39_1 Q ⟨(Env.put env 3 r0.1), r0.2⟩) := (ySR 0 (cOps (cL n39_0)) (cR n39_0)).trans (by
  refine w0 ?_
  refine wH 3 fun r0 => ?_
  exact wE)
theorem fn39 : Try.prog.funcs[39]? = some Try.f39 := by kernel_rfl
theorem q39 {a0 a1 : AV} {h : Heap} {K : AV × Heap → Prop} (H : ∀ env : Env, env.get 0 = a0 → env.get 1 = a1 → wC Try.prog cx39 n39_0 (retW (fun s => (some [])) K) ⟨env, h⟩) : SpecQ Try.prog 39 [a0, a1] h K :=
  bodyW_sound (C := cx39) TT_ok mixed_ok fn39 (by kernel_rfl) (show _ = some n39_0 by kernel_rfl) (by kernel_rfl) (by kernel_rfl) (of_decide_eq_true (by kernel_rfl)) ((show wC Try.prog cx39 n39_0 (retW (fun s => resAll cx39 s Try.f39.results.toList) K) ⟨env0 cx39 [a0, a1], h⟩ = wC Try.prog cx39 n39_0 (retW (fun s => (some [])) K) ⟨[(0, a0), (1, a1), (2, .junk), (3, .junk)], h⟩ by kernel_rfl).mpr (H [(0, a0), (1, a1), (2, .junk), (3, .junk)] rfl rfl))
def sn39 := n39_0_eq
-- draws: n39_1
end Go.Vab

/- How the code of a function is read. Printed by wip/tools/gen2.py (own work). -/
namespace Go.Vab
open Go Go.Proofs
/-! (*vestry/forms.writer).cipher -/
def cx42 : Ctx := ⟨fun _ _ _ => none, TT, 12, [4, 5, 6, 7, 8, 9, 10, 11]⟩
noncomputable def n42_0 : Code := bodyOf Try.f42
noncomputable def n42_1 : Code := cR n42_0
noncomputable def n42_2 : Code := cR n42_1
theorem n42_2_eq (Q : Ex × St → Prop) (env : Env) (h : Heap) : wC Try.prog cx42 n42_2 Q ⟨env, h⟩ = (Evs (mFieldAddr tCipher (env.get 3) 1) fun v1 => Evs (mLoad (.arr 32 (.int .u8)) v1 h) fun v2 => SpecA Try.prog 39 [(env.get 0), v2] h fun r3 => Q (.nrm, ⟨env, r3.2⟩)) := (yR 2 (cOps n42_2)).trans (by
  refine w0 ?_
  refine wT 8 (env.get 0) ?_
  refine wP 9 fun v1 => ?_
  refine wP 10 fun v2 => ?_
  refine wH 11 fun r3 => ?_
  exact wE)
theorem n42_1_eq (Q : Ex × St → Prop) (env : Env) (h : Heap) : wC Try.prog cx42 n42_1 Q ⟨env, h⟩ = (Evs (mFieldAddr tCipher (env.get 3) 0) fun v1 => Evs (mLoad (.arr 32 (.int .u8)) v1 h) fun v2 => SpecA Try.prog 39 [(env.get 0), v2] h fun r3 => wC Try.prog cx42 n42_2 Q ⟨env, r3.2⟩) := (ySR 1 (cOps (cL n42_1)) (cR n42_1)).trans (by
  refine w0 ?_
  refine wT 4 (env.get 0) ?_
  refine wP 5 fun v1 => ?_
  refine wP 6 fun v2 => ?_
  refine wH 7 fun r3 => ?_
  exact wE)
theorem n42_0_eq (Q : Ex × St → Prop) (env : Env) (h : Heap) : wC Try.prog cx42 n42_0 Q ⟨env, h⟩ = (Evs (mNew tCipher (env.get 1) h) fun r0 => wC Try.prog cx42 n42_1 Q ⟨(Env.put env 3 r0.1), r0.2⟩) := (ySR 0 (cOps (cL n42_0)) (cR n42_0)).trans (by
  refine w0 ?_
  refine wH 3 fun r0 => ?_
  exact wE)
theorem fn42 : Try.prog.funcs[42]? = some Try.f42 := by kernel_rfl
theorem q42 {a0 a1 : AV} {h : Heap} {K : AV × Heap → Prop} (H : ∀ env : Env, env.get 0 = a0 → env.get 1 = a1 → wC Try.prog cx42 n42_0 (retW (fun s => (some [])) K) ⟨env, h⟩) : SpecQ Try.prog 42 [a0, a1] h K :=
  bodyW_sound (C := cx42) TT_ok mixed_ok fn42 (by kernel_rfl) (show _ = some n42_0 by kernel_rfl) (by kernel_rfl) (by kernel_rfl) (of_decide_eq_true (by kernel_rfl)) ((show wC Try.prog cx42 n42_0 (retW (fun s => resAll cx42 s Try.f42.results.toList) K) ⟨env0 cx42 [a0, a1], h⟩ = wC Try.prog cx42 n42_0 (retW (fun s => (some [])) K) ⟨[(0, a0), (1, a1), (2, .junk), (3, .junk)], h⟩ by kernel_rfl).mpr (H [(0, a0), (1, a1), (2, .junk), (3, .junk)] rfl rfl))
def sn42 := And.intro n42_2_eq (And.intro n42_1_eq (n42_0_eq))
-- draws: 
end Go.Vab

/- How the code of a function is read. Printed by wip/tools/gen2.py (own work). -/
namespace Go.Vab
open Go Go.Proofs
/-! (*vestry/forms.writer).access -/
def cx41 : Ctx := ⟨fun _ _ _ => none, TT, 19, [4, 5, 6, 7, 8, 9, 10, 11, 12, 13, 14, 15, 16, 17, 18]⟩
noncomputable def n41_0 : Code := bodyOf Try.f41
noncomputable def n41_1 : Code := cR n41_0
theorem n41_1_ok : treeOk (cOps n41_1).toList [6, 10, 14] [0, 1, 3, 0, 8, 24, 63, 0, 128, 384, 1023, 0, 2048, 6144, 16383] = true := by kernel_rfl
theorem n41_1_w (Q : Ex × St → Prop) (env : Env) (h : Heap) (H : Evs (mNilCheck (env.get 0)) fun v1_1 => Evs (mFieldAddr tLwriter v1_1 0) fun v2_2 => Evs (mFieldAddr tAccess (env.get 3) 0) fun v3_3 => Evs (mLoad (.int .u8) v3_3 h) fun v4_4 => Evs (mConv .u64 v4_4) fun v5_5 => Evs (mFieldAddr tAccess (env.get 3) 1) fun v7_6 => Evs (mLoad (.int .u8) v7_6 h) fun v8_7 => Evs (mConv .u64 v8_7) fun v9_8 => Evs (mFieldAddr tAccess (env.get 3) 2) fun v11_9 => Evs (mLoad (.int .u8) v11_9 h) fun v12_10 => Evs (mConv .u64 v12_10) fun v13_11 => SpecA Try.prog 38 [v2_2, v5_5, (nat 1)] h fun r6_12 => stabP (mLoad (.int .u8) v7_6 r6_12.2 = some v8_7) (stabP (mConv .u64 v8_7 = some v9_8) (stabP (mLoad (.int .u8) v11_9 r6_12.2 = some v12_10) (stabP (mConv .u64 v12_10 = some v13_11) (SpecA Try.prog 38 [r6_12.1, v9_8, (nat 1)] r6_12.2 fun r10_13 => stabP (mLoad (.int .u8) v11_9 r10_13.2 = some v12_10) (stabP (mConv .u64 v12_10 = some v13_11) (SpecA Try.prog 38 [r10_13.1, v13_11, (nat 1)] r10_13.2 fun r14_14 => Q (.nrm, ⟨env, r14_14.2⟩)))))))) : wC Try.prog cx41 n41_1 Q ⟨env, h⟩ := by
  refine yD 1 (cOps n41_1) [6, 10, 14] [0, 1, 3, 0, 8, 24, 63, 0, 128, 384, 1023, 0, 2048, 6144, 16383] [0, 1, 2, 3, 4, 5, 7, 8, 9, 11, 12, 13] n41_1_ok ?_
  refine rT 4 (env.get 0) ?_
  refine rP H 5 fun v1_1 H => ?_
  refine rP H 6 fun v2_2 H => ?_
  refine rP H 7 fun v3_3 H => ?_
  refine rP H 8 fun v4_4 H => ?_
  refine rP H 9 fun v5_5 H => ?_
  refine rP H 11 fun v7_6 H => ?_
  refine rP H 12 fun v8_7 H => ?_
  refine rP H 13 fun v9_8 H => ?_
  refine rP H 15 fun v11_9 H => ?_
  refine rP H 16 fun v12_10 H => ?_
  refine rP H 17 fun v13_11 H => ?_
  refine rE ?_
  refine tN 6 [] ?_
  refine aN1 ?_
  refine tH H 10 [] [8, 9, 12, 13] (fun r6_12 H => ?_)
  refine sP v8_7 12 H (fun H => ?_) (by kernel_rfl) (by kernel_rfl) (by kernel_rfl)
  refine sP v9_8 13 H (fun H => ?_) (by kernel_rfl) (by kernel_rfl) (by kernel_rfl)
  refine sP v12_10 16 H (fun H => ?_) (by kernel_rfl) (by kernel_rfl) (by kernel_rfl)
  refine sP v13_11 17 H (fun H => ?_) (by kernel_rfl) (by kernel_rfl) (by kernel_rfl)
  refine ⟨sNil, ?_⟩
  refine rE ?_
  refine tN 10 [] ?_
  refine aN1 ?_
  refine tH H 14 [] [12, 13] (fun r10_13 H => ?_)
  refine sP v12_10 16 H (fun H => ?_) (by kernel_rfl) (by kernel_rfl) (by kernel_rfl)
  refine sP v13_11 17 H (fun H => ?_) (by kernel_rfl) (by kernel_rfl) (by kernel_rfl)
  refine ⟨sNil, ?_⟩
  refine rE ?_
  refine tN 14 [] ?_
  refine aN1 ?_
  refine tH H 18 [] [] (fun r14_14 H => ?_)
  refine ⟨sNil, ?_⟩
  refine rE ?_
  exact tE H
theorem n41_0_eq (Q : Ex × St → Prop) (env : Env) (h : Heap) : wC Try.prog cx41 n41_0 Q ⟨env, h⟩ = (Evs (mNew tAccess (env.get 1) h) fun r0 => wC Try.prog cx41 n41_1 Q ⟨(Env.put env 3 r0.1), r0.2⟩) := (ySR 0 (cOps (cL n41_0)) (cR n41_0)).trans (by
  refine w0 ?_
  refine wH 3 fun r0 => ?_
  exact wE)
theorem fn41 : Try.prog.funcs[41]? = some Try.f41 := by kernel_rfl
theorem q41 {a0 a1 : AV} {h : Heap} {K : AV × Heap → Prop} (H : ∀ env : Env, env.get 0 = a0 → env.get 1 = a1 → wC Try.prog cx41 n41_0 (retW (fun s => (some [])) K) ⟨env, h⟩) : SpecQ Try.prog 41 [a0, a1] h K :=
  bodyW_sound (C := cx41) TT_ok mixed_ok fn41 (by kernel_rfl) (show _ = some n41_0 by kernel_rfl) (by kernel_rfl) (by kernel_rfl) (of_decide_eq_true (by kernel_rfl)) ((show wC Try.prog cx41 n41_0 (retW (fun s => resAll cx41 s Try.f41.results.toList) K) ⟨env0 cx41 [a0, a1], h⟩ = wC Try.prog cx41 n41_0 (retW (fun s => (some [])) K) ⟨[(0, a0), (1, a1), (2, .junk), (3, .junk)], h⟩ by kernel_rfl).mpr (H [(0, a0), (1, a1), (2, .junk), (3, .junk)] rfl rfl))
def sn41 := n41_0_eq
-- draws: n41_1
end Go.Vab

/- How the code of a function is read. Printed by wip/tools/gen2.py (own work). -/
namespace Go.Vab
open Go Go.Proofs
/-! (*vestry/pack.Writer).Done -/
def cx43 : Ctx := ⟨fun _ _ _ => none, TT, 22, [5, 6, 8, 9, 10, 11, 12, 13, 14, 15, 16, 17, 18, 19, 20, 21]⟩
noncomputable def n43_0 : Code := bodyOf Try.f43
noncomputable def n43_1 : Code := cR n43_0
noncomputable def n43_2 : Code := cL n43_1
noncomputable def n43_3 : Code := cB n43_2
noncomputable def n43_4 : Code := cR n43_3
noncomputable def n43_5 : Code := cL n43_4
noncomputable def n43_6 : Code := cR n43_5
noncomputable def n43_7 : Code := cR n43_4
noncomputable def n43_8 : Code := cR n43_7
noncomputable def n43_9 : Code := cL n43_8
noncomputable def n43_10 : Code := cR n43_9
noncomputable def n43_11 : Code := cR n43_8
noncomputable def n43_12 : Code := cR n43_1
noncomputable def n43_13 : Code := cR n43_12
theorem n43_6_eq (Q : Ex × St → Prop) (s : St) : wC Try.prog cx43 n43_6 Q s = Q (.ret, s) := yE
theorem n43_5_eq (Q : Ex × St → Prop) (env : Env) (h : Heap) : wC Try.prog cx43 n43_5 Q ⟨env, h⟩ = ( wC Try.prog cx43 n43_6 Q ⟨(Env.put (Env.put env 2 .nilslice) 3 (nat 1)), h⟩) := (ySR 2 (cOps (cL n43_5)) (cR n43_5)).trans (by
  refine w0 ?_
  refine wT 2 .nilslice ?_
  refine wT 3 (nat 1) ?_
  exact wE)
theorem n43_10_eq (Q : Ex × St → Prop) (s : St) : wC Try.prog cx43 n43_10 Q s = Q (.ret, s) := yE
theorem n43_9_ok : treeOk (cOps (cL n43_9)).toList [] [0, 1, 3, 7, 0, 31] = true := by kernel_rfl
theorem n43_9_w (Q : Ex × St → Prop) (env : Env) (h : Heap) (H : Evs (mNilCheck (env.get 0)) fun v1_1 => Evs (mFieldAddr tWriter v1_1 1) fun v2_2 => Evs (mLoad (.int .i64) v2_2 h) fun v3_3 => wC Try.prog cx43 n43_10 Q ⟨(Env.put (Env.put env 2 .nilslice) 3 v3_3), h⟩) : wC Try.prog cx43 n43_9 Q ⟨env, h⟩ := by
  refine ySD 4 (cOps (cL n43_9)) (cR n43_9) [] [0, 1, 3, 7, 0, 31] [0, 1, 2, 3, 4, 5] n43_9_ok ?_
  refine rT 13 (env.get 0) ?_
  refine rP H 14 fun v1_1 H => ?_
  refine rP H 15 fun v2_2 H => ?_
  refine rP H 16 fun v3_3 H => ?_
  refine rT 2 .nilslice ?_
  refine rT 3 v3_3 ?_
  refine rE ?_
  exact tE H
theorem n43_11_eq (Q : Ex × St → Prop) (s : St) : wC Try.prog cx43 n43_11 Q s = Q (.nrm, s) := yK
theorem n43_8_eq (Q : Ex × St → Prop) (s : St) : wC Try.prog cx43 n43_8 Q s = cndW (s.env.get 7) (wL Try.prog cx43 n43_9 Q s) (wL Try.prog cx43 n43_11 Q s) := yC 7 _ _
theorem n43_7_eq (Q : Ex × St → Prop) (env : Env) (h : Heap) : wC Try.prog cx43 n43_7 Q ⟨env, h⟩ = (Evs (mNilCheck (env.get 0)) fun v1 => Evs (mFieldAddr tWriter v1 1) fun v2 => Evs (mLoad (.int .i64) v2 h) fun v3 => Evs (mBin .neq v3 (nat 0)) fun v4 => wC Try.prog cx43 n43_8 Q ⟨(Env.put env 7 v4), h⟩) := (ySR 3 (cOps (cL n43_7)) (cR n43_7)).trans (by
  refine w0 ?_
  refine wT 8 (env.get 0) ?_
  refine wP 9 fun v1 => ?_
  refine wP 10 fun v2 => ?_
  refine wP 11 fun v3 => ?_
  refine wP 12 fun v4 => ?_
  refine wT 7 v4 ?_
  exact wE)
theorem n43_4_eq (Q : Ex × St → Prop) (s : St) : wC Try.prog cx43 n43_4 Q s = cndW (s.env.get 4) (wL Try.prog cx43 n43_5 Q s) (wL Try.prog cx43 n43_7 Q s) := yC 4 _ _
theorem n43_3_eq (Q : Ex × St → Prop) (env : Env) (h : Heap) : wC Try.prog cx43 n43_3 Q ⟨env, h⟩ = (Evs (mBinP .eql (env.get 0) .nilptr) fun v1 => wC Try.prog cx43 n43_4 Q ⟨(Env.put env 4 v1), h⟩) := (ySR 1 (cOps (cL n43_3)) (cR n43_3)).trans (by
  refine w0 ?_
  refine wT 5 (env.get 0) ?_
  refine wP 6 fun v1 => ?_
  refine wT 4 v1 ?_
  exact wE)
theorem n43_2_eq (Q : Ex × St → Prop) (s : St) : wC Try.prog cx43 n43_2 Q s = wC Try.prog cx43 n43_3 (fun r => Q (inBlk 0 r)) s := yB 0 _
theorem n43_13_eq (Q : Ex × St → Prop) (s : St) : wC Try.prog cx43 n43_13 Q s = Q (.ret, s) := yE
theorem n43_12_eq (Q : Ex × St → Prop) (env : Env) (h : Heap) : wC Try.prog cx43 n43_12 Q ⟨env, h⟩ = (Evs (mNilCheck (env.get 0)) fun v1 => Evs (mFieldAddr tWriter v1 0) fun v2 => Evs (mLoad .cell v2 h) fun v3 => SpecA Try.prog 64 [v3] h fun r4 => wC Try.prog cx43 n43_13 Q ⟨(Env.put (Env.put env 2 r4.1) 3 (nat 0)), r4.2⟩) := (ySR 5 (cOps (cL n43_12)) (cR n43_12)).trans (by
  refine w0 ?_
  refine wT 17 (env.get 0) ?_
  refine wP 18 fun v1 => ?_
  refine wP 19 fun v2 => ?_
  refine wP 20 fun v3 => ?_
  refine wH 21 fun r4 => ?_
  refine wT 2 r4.1 ?_
  refine wT 3 (nat 0) ?_
  exact wE)
theorem n43_1_eq (Q : Ex × St → Prop) (s : St) : wC Try.prog cx43 n43_1 Q s = wC Try.prog cx43 n43_2 (sqW (wC Try.prog cx43 n43_12) Q) s := yS _ _
theorem n43_0_eq (Q : Ex × St → Prop) (env : Env) (h : Heap) : wC Try.prog cx43 n43_0 Q ⟨env, h⟩ = ( wC Try.prog cx43 n43_1 Q ⟨(Env.put (Env.put env 2 .nilslice) 3 (nat 0)), h⟩) := (ySR 0 (cOps (cL n43_0)) (cR n43_0)).trans (by
  refine w0 ?_
  refine wT 2 .nilslice ?_
  refine wT 3 (nat 0) ?_
  exact wE)
theorem fn43 : Try.prog.funcs[43]? = some Try.f43 := by kernel_rfl
theorem q43 {a0 : AV} {h : Heap} {K : AV × Heap → Prop} (H : ∀ env : Env, env.get 0 = a0 → wC Try.prog cx43 n43_0 (retW (fun s => (bnd (some (s.env.get 2)) fun v => bnd (bnd (some (s.env.get 3)) fun v => bnd (some []) fun vs => some (v :: vs)) fun vs => some (v :: vs))) K) ⟨env, h⟩) : SpecQ Try.prog 43 [a0] h K :=
  bodyW_sound (C := cx43) TT_ok mixed_ok fn43 (by kernel_rfl) (show _ = some n43_0 by kernel_rfl) (by kernel_rfl) (by kernel_rfl) (of_decide_eq_true (by kernel_rfl)) ((show wC Try.prog cx43 n43_0 (retW (fun s => resAll cx43 s Try.f43.results.toList) K) ⟨env0 cx43 [a0], h⟩ = wC Try.prog cx43 n43_0 (retW (fun s => (bnd (some (s.env.get 2)) fun v => bnd (bnd (some (s.env.get 3)) fun v => bnd (some []) fun vs => some (v :: vs)) fun vs => some (v :: vs))) K) ⟨[(0, a0), (1, .junk), (2, .junk), (3, .junk), (4, .junk), (7, .junk)], h⟩ by kernel_rfl).mpr (H [(0, a0), (1, .junk), (2, .junk), (3, .junk), (4, .junk), (7, .junk)] rfl))
def sn43 := And.intro n43_6_eq (And.intro n43_5_eq (And.intro n43_10_eq (And.intro n43_11_eq (And.intro n43_8_eq (And.intro n43_7_eq (And.intro n43_4_eq (And.intro n43_3_eq (And.intro n43_2_eq (And.intro n43_13_eq (And.intro n43_12_eq (And.intro n43_1_eq (n43_0_eq))))))))))))
-- draws: n43_9
end Go.Vab

/- How the code of a function is read. Printed by wip/tools/gen2.py (own work). -/
namespace Go.Vab
open Go Go.Proofs
/-! bytes.Clone -/
def cx64 : Ctx := ⟨fun _ _ _ => none, TT, 8, [3, 5, 6, 7]⟩
noncomputable def n64_0 : Code := bodyOf Try.f64
noncomputable def n64_1 : Code := cR n64_0
noncomputable def n64_2 : Code := cL n64_1
noncomputable def n64_3 : Code := cR n64_2
noncomputable def n64_4 : Code := cL n64_3
noncomputable def n64_5 : Code := cR n64_4
noncomputable def n64_6 : Code := cR n64_3
noncomputable def n64_7 : Code := cR n64_1
noncomputable def n64_8 : Code := cR n64_7
theorem n64_5_eq (Q : Ex × St → Prop) (s : St) : wC Try.prog cx64 n64_5 Q s = Q (.ret, s) := yE
theorem n64_4_eq (Q : Ex × St → Prop) (env : Env) (h : Heap) : wC Try.prog cx64 n64_4 Q ⟨env, h⟩ = ( wC Try.prog cx64 n64_5 Q ⟨(Env.put env 2 .nilslice), h⟩) := (ySR 2 (cOps (cL n64_4)) (cR n64_4)).trans (by
  refine w0 ?_
  refine wT 2 .nilslice ?_
  exact wE)
theorem n64_6_eq (Q : Ex × St → Prop) (s : St) : wC Try.prog cx64 n64_6 Q s = Q (.nrm, s) := yK
theorem n64_3_eq (Q : Ex × St → Prop) (s : St) : wC Try.prog cx64 n64_3 Q s = cndW (s.env.get 4) (wL Try.prog cx64 n64_4 Q s) (wL Try.prog cx64 n64_6 Q s) := yC 4 _ _
theorem n64_2_eq (Q : Ex × St → Prop) (env : Env) (h : Heap) : wC Try.prog cx64 n64_2 Q ⟨env, h⟩ = (Evs (mBinS .eql (env.get 0) .nilslice) fun v1 => wC Try.prog cx64 n64_3 Q ⟨(Env.put env 4 v1), h⟩) := (ySR 1 (cOps (cL n64_2)) (cR n64_2)).trans (by
  refine w0 ?_
  refine wT 3 (env.get 0) ?_
  refine wP 4 fun v1 => ?_
  exact wE)
theorem n64_8_eq (Q : Ex × St → Prop) (s : St) : wC Try.prog cx64 n64_8 Q s = Q (.ret, s) := yE
theorem n64_7_eq (Q : Ex × St → Prop) (env : Env) (h : Heap) : wC Try.prog cx64 n64_7 Q ⟨env, h⟩ = (Evs (mBuildSlice (.int .u8) (u8 0#8) 0 [] h) fun r0 => appA (.int .u8) 1 (u8 0#8) r0.1 (env.get 0) r0.2 fun r2 => wC Try.prog cx64 n64_8 Q ⟨(Env.put env 2 r2.1), r2.2⟩) := (ySR 3 (cOps (cL n64_7)) (cR n64_7)).trans (by
  refine w0 ?_
  refine wH 5 fun r0 => ?_
  refine wT 6 (env.get 0) ?_
  refine wH 7 fun r2 => ?_
  refine wT 2 r2.1 ?_
  exact wE)
theorem n64_1_eq (Q : Ex × St → Prop) (s : St) : wC Try.prog cx64 n64_1 Q s = wC Try.prog cx64 n64_2 (sqW (wC Try.prog cx64 n64_7) Q) s := yS _ _
theorem n64_0_eq (Q : Ex × St → Prop) (env : Env) (h : Heap) : wC Try.prog cx64 n64_0 Q ⟨env, h⟩ = ( wC Try.prog cx64 n64_1 Q ⟨(Env.put env 2 .nilslice), h⟩) := (ySR 0 (cOps (cL n64_0)) (cR n64_0)).trans (by
  refine w0 ?_
  refine wT 2 .nilslice ?_
  exact wE)
theorem fn64 : Try.prog.funcs[64]? = some Try.f64 := by kernel_rfl
theorem q64 {a0 : AV} {h : Heap} {K : AV × Heap → Prop} (H : ∀ env : Env, env.get 0 = a0 → wC Try.prog cx64 n64_0 (retW (fun s => (bnd (some (s.env.get 2)) fun v => bnd (some []) fun vs => some (v :: vs))) K) ⟨env, h⟩) : SpecQ Try.prog 64 [a0] h K :=
  bodyW_sound (C := cx64) TT_ok mixed_ok fn64 (by kernel_rfl) (show _ = some n64_0 by kernel_rfl) (by kernel_rfl) (by kernel_rfl) (of_decide_eq_true (by kernel_rfl)) ((show wC Try.prog cx64 n64_0 (retW (fun s => resAll cx64 s Try.f64.results.toList) K) ⟨env0 cx64 [a0], h⟩ = wC Try.prog cx64 n64_0 (retW (fun s => (bnd (some (s.env.get 2)) fun v => bnd (some []) fun vs => some (v :: vs))) K) ⟨[(0, a0), (1, .junk), (2, .junk), (4, .junk)], h⟩ by kernel_rfl).mpr (H [(0, a0), (1, .junk), (2, .junk), (4, .junk)] rfl))
def sn64 := And.intro n64_5_eq (And.intro n64_4_eq (And.intro n64_6_eq (And.intro n64_3_eq (And.intro n64_2_eq (And.intro n64_8_eq (And.intro n64_7_eq (And.intro n64_1_eq (n64_0_eq))))))))
-- draws: 
end Go.Vab

/-
  The writer, walked.
-/
namespace Go.Vab
open Go Go.Proofs

theorem c38 {h : Heap} {wc : Nat} {x : AV} {l : Bs} {n : BitVec 64} {size : Nat} (hw : Wx h wc x l) (h1 : 1 ≤ size) (h8 : size ≤ 8) (hn : n >>> (8 * size) = 0#64 ∨ size = 8) (hb : l.length + 8 ≤ 1099511627776) :
    SpecQ Try.prog 38 [wp wc, u64 n, nat size] h (WrQ h wc x (l ++ beN n size) (wp wc)) := by
  have gw := hw.blk
  have s1 : ¬ size < 1 := by omega
  have s8 : ¬ 8 < size := by omega
  refine q38 fun env g0 g1 g2 => ?_
  unfold wp at g0
  have hbl : (beN n size).length = size := by simp [beN]
  repeat' (first | ((with_reducible apply evs_of); (focus ((conv => lhs; simp (disch := omega) [g0, g1, g2, gw, s1, s8]); done)); try dsimp only) | ((with_reducible apply cndW_T); (focus (simp (disch := omega) [g0, g1, g2, gw, s1, s8] <;> omega))) | ((with_reducible apply cndW_F); (focus (simp (disch := omega) [g0, g1, g2, gw, s1, s8] <;> omega))) | ((with_reducible apply stabP_i); (focus (simp (disch := omega) [g0, g1, g2, gw, s1, s8]; done))) | (with_reducible apply wL_i) | ((with_reducible apply stabA_i); (focus ((conv => lhs; simp (disch := omega) [g0, g1, g2, gw, s1, s8]); done))) | ((with_reducible apply stabA_fn); (focus ((conv => lhs; simp (disch := omega) [g0, g1, g2, gw, s1, s8]); done))) | ((with_reducible apply appA_i); (focus ((conv => lhs; simp (disch := omega) [g0, g1, g2, gw, s1, s8]); done)); (focus ((conv => lhs; simp (disch := omega) [g0, g1, g2, gw, s1, s8]); done))) | ((with_reducible apply stab_do); (focus (simp (disch := omega) [g0, g1, g2, gw, s1, s8]; done))) | (simp (decide := true) only [sn38, sqW_nrm, sqW_exit, sqW_ret, inBlk_nrm, inBlk_ret, inBlk_same, inBlk_exit, if_true, if_false, retW_nrm, retW_ret]) | (with_reducible refine n38_30_w _ _ _ ?_) | ((with_reducible apply cndW_splitE); (focus ((conv => lhs; simp (disch := omega) [g0, g1, g2, gw, s1, s8]); done)); all_goals ((intro hb; try simp only [Bool.not_true, Bool.not_false] at hb); try simp only [hb])) | (with_reducible refine gv_split ?_ ?_ <;> (intro hb; try simp only [Bool.not_true, Bool.not_false] at hb) <;> try simp only [hb]) | (with_reducible refine cndW_split ?_ ?_ <;> (intro hb; try simp only [Bool.not_true, Bool.not_false] at hb) <;> try simp only [hb]))
  all_goals try (exfalso; rcases hn with hn | hn <;> simp_all <;> omega)
  all_goals
    refine loop_up size (fun i st => ∃ env' x' H, st = ⟨env', H⟩ ∧ env'.get 0 = .ptr wc 0 [0] tWriter ∧ env'.get 1 = u64 n ∧ env'.get 2 = nat size ∧ env'.get 44 = nat size ∧ env'.get 45 = nat i ∧ Wx H wc x' (l ++ (beN n size).take i) ∧ KeepW h H wc x x') ?_ ?_ ⟨_, x, h, rfl, by simp [g0], by simp [g1], by simp [g2], by simp [g2], by simp, by simpa using hw, KeepW.refl _ _ _⟩
    · rintro i st hi ⟨env', x', H, rfl, e0, e1, e2, e44, e45, w, kw⟩
      have gw := fun e => (w.app e).blk
      repeat' (first | ((with_reducible apply evs_of); (focus ((conv => lhs; simp (disch := omega) [e0, e1, e2, e44, e45, w.blk, gw]); done)); try dsimp only) | ((with_reducible apply cndW_T); (focus (simp (disch := omega) [e0, e1, e2, e44, e45, w.blk, gw] <;> omega))) | ((with_reducible apply cndW_F); (focus (simp (disch := omega) [e0, e1, e2, e44, e45, w.blk, gw] <;> omega))) | ((with_reducible apply stabP_i); (focus (simp (disch := omega) [e0, e1, e2, e44, e45, w.blk, gw]; done))) | (with_reducible apply wL_i) | ((with_reducible apply stabA_i); (focus ((conv => lhs; simp (disch := omega) [e0, e1, e2, e44, e45, w.blk, gw]); done))) | ((with_reducible apply stabA_fn); (focus ((conv => lhs; simp (disch := omega) [e0, e1, e2, e44, e45, w.blk, gw]); done))) | ((with_reducible apply appA_i); (focus ((conv => lhs; simp (disch := omega) [e0, e1, e2, e44, e45, w.blk, gw]); done)); (focus ((conv => lhs; simp (disch := omega) [e0, e1, e2, e44, e45, w.blk, gw]); done))) | ((with_reducible apply stab_do); (focus (simp (disch := omega) [e0, e1, e2, e44, e45, w.blk, gw]; done))) | (simp (decide := true) only [sn38, sqW_nrm, sqW_exit, sqW_ret, inBlk_nrm, inBlk_ret, inBlk_same, inBlk_exit, if_true, if_false, retW_nrm, retW_ret]) | (with_reducible refine n38_30_w _ _ _ ?_))
      refine appW_wr2 (w.app _) (byt1 _ _ []) (by simp [List.length_take]; omega) fun x2 H2 b2 cl2 w2 k2 => ?_
      repeat' (first | ((with_reducible apply evs_of); (focus ((conv => lhs; simp (disch := omega) [e0, e45, b2, cl2]); done)); try dsimp only) | ((with_reducible apply cndW_T); (focus (simp (disch := omega) [e0, e45, b2, cl2] <;> omega))) | ((with_reducible apply cndW_F); (focus (simp (disch := omega) [e0, e45, b2, cl2] <;> omega))) | ((with_reducible apply stabP_i); (focus (simp (disch := omega) [e0, e45, b2, cl2]; done))) | (with_reducible apply wL_i) | ((with_reducible apply stabA_i); (focus ((conv => lhs; simp (disch := omega) [e0, e45, b2, cl2]); done))) | ((with_reducible apply stabA_fn); (focus ((conv => lhs; simp (disch := omega) [e0, e45, b2, cl2]); done))) | ((with_reducible apply appA_i); (focus ((conv => lhs; simp (disch := omega) [e0, e45, b2, cl2]); done)); (focus ((conv => lhs; simp (disch := omega) [e0, e45, b2, cl2]); done))) | ((with_reducible apply stab_do); (focus (simp (disch := omega) [e0, e45, b2, cl2]; done))) | (simp (decide := true) only [sn38, sqW_nrm, sqW_exit, sqW_ret, inBlk_nrm, inBlk_ret, inBlk_same, inBlk_exit, if_true, if_false, retW_nrm, retW_ret]) | (with_reducible refine n38_30_w _ _ _ ?_))
      refine .inl ⟨by simp, _, x2, _, rfl, by simp [e0], by simp [e1], by simp [e2], by simp [e44], by simp, ?_, (kw.trans (KeepW.ext _ _ _ _)).trans k2⟩
      have : (beN n size).take (i + 1) = (beN n size).take i ++ [(n >>> (8 * (size - 1 - i))).setWidth 8] := by
        rw [List.take_succ]
        congr 1
        simp [beN, hi]
      rw [this, ← List.append_assoc]
      simpa using w2
    · rintro st ⟨env', x', H, rfl, e0, e1, e2, e44, e45, w, kw⟩
      repeat' (first | ((with_reducible apply evs_of); (focus ((conv => lhs; simp (disch := omega) [e0, e44, e45]); done)); try dsimp only) | ((with_reducible apply cndW_T); (focus (simp (disch := omega) [e0, e44, e45] <;> omega))) | ((with_reducible apply cndW_F); (focus (simp (disch := omega) [e0, e44, e45] <;> omega))) | ((with_reducible apply stabP_i); (focus (simp (disch := omega) [e0, e44, e45]; done))) | (with_reducible apply wL_i) | ((with_reducible apply stabA_i); (focus ((conv => lhs; simp (disch := omega) [e0, e44, e45]); done))) | ((with_reducible apply stabA_fn); (focus ((conv => lhs; simp (disch := omega) [e0, e44, e45]); done))) | ((with_reducible apply appA_i); (focus ((conv => lhs; simp (disch := omega) [e0, e44, e45]); done)); (focus ((conv => lhs; simp (disch := omega) [e0, e44, e45]); done))) | ((with_reducible apply stab_do); (focus (simp (disch := omega) [e0, e44, e45]; done))) | (simp (decide := true) only [sn38, sqW_nrm, sqW_exit, sqW_ret, inBlk_nrm, inBlk_ret, inBlk_same, inBlk_exit, if_true, if_false, retW_nrm, retW_ret]) | (with_reducible refine n38_30_w _ _ _ ?_))
      refine ⟨by simp, ?_⟩
      repeat' (first | ((with_reducible apply evs_of); (focus ((conv => lhs; simp (disch := omega) [e0]); done)); try dsimp only) | ((with_reducible apply cndW_T); (focus (simp (disch := omega) [e0] <;> omega))) | ((with_reducible apply cndW_F); (focus (simp (disch := omega) [e0] <;> omega))) | ((with_reducible apply stabP_i); (focus (simp (disch := omega) [e0]; done))) | (with_reducible apply wL_i) | ((with_reducible apply stabA_i); (focus ((conv => lhs; simp (disch := omega) [e0]); done))) | ((with_reducible apply stabA_fn); (focus ((conv => lhs; simp (disch := omega) [e0]); done))) | ((with_reducible apply appA_i); (focus ((conv => lhs; simp (disch := omega) [e0]); done)); (focus ((conv => lhs; simp (disch := omega) [e0]); done))) | ((with_reducible apply stab_do); (focus (simp (disch := omega) [e0]; done))) | (simp (decide := true) only [sn38, sqW_nrm, sqW_exit, sqW_ret, inBlk_nrm, inBlk_ret, inBlk_same, inBlk_exit, if_true, if_false, retW_nrm, retW_ret]) | (with_reducible refine n38_30_w _ _ _ ?_))
      refine ⟨by simp [oneOrTuple, wp], x', ?_, kw⟩
      have : (beN n size).take size = beN n size := List.take_of_length_le (by omega)
      rwa [this] at w

theorem c63 {h : Heap} {wc : Nat} {x y : AV} {l m : Bs} (hw : Wx h wc x l) (hy : BytL h y m) (hb : l.length + m.length ≤ 1099511627776) :
    SpecQ Try.prog 63 [wp wc, y] h (WrQ h wc x (l ++ m) (wp wc)) := by
  have gw := hw.blk
  refine q63 fun env g0 g1 => ?_
  unfold wp at g0
  repeat' (first | ((with_reducible apply evs_of); (focus ((conv => lhs; simp (disch := omega) [g0, g1, gw]); done)); try dsimp only) | ((with_reducible apply cndW_T); (focus (simp (disch := omega) [g0, g1, gw] <;> omega))) | ((with_reducible apply cndW_F); (focus (simp (disch := omega) [g0, g1, gw] <;> omega))) | (with_reducible apply wL_i) | ((with_reducible apply appA_i); (focus ((conv => lhs; simp (disch := omega) [g0, g1, gw]); done)); (focus ((conv => lhs; simp (disch := omega) [g0, g1, gw]); done))) | (simp (decide := true) only [sn63, sqW_nrm, sqW_exit, sqW_ret, inBlk_nrm, inBlk_ret, inBlk_same, inBlk_exit, if_true, if_false, retW_nrm, retW_ret]))
  refine appW_wr2 hw hy hb fun x2 H2 b2 cl2 w2 k2 => ?_
  repeat' (first | ((with_reducible apply evs_of); (focus ((conv => lhs; simp (disch := omega) [g0, g1, b2, cl2]); done)); try dsimp only) | ((with_reducible apply cndW_T); (focus (simp (disch := omega) [g0, g1, b2, cl2] <;> omega))) | ((with_reducible apply cndW_F); (focus (simp (disch := omega) [g0, g1, b2, cl2] <;> omega))) | (with_reducible apply wL_i) | ((with_reducible apply appA_i); (focus ((conv => lhs; simp (disch := omega) [g0, g1, b2, cl2]); done)); (focus ((conv => lhs; simp (disch := omega) [g0, g1, b2, cl2]); done))) | (simp (decide := true) only [sn63, sqW_nrm, sqW_exit, sqW_ret, inBlk_nrm, inBlk_ret, inBlk_same, inBlk_exit, if_true, if_false, retW_nrm, retW_ret]))
  exact ⟨by simp [oneOrTuple, wp], x2, by simpa using w2, by simpa using k2⟩

theorem c40 {h : Heap} {wc : Nat} {x y : AV} {l m : Bs} (hw : Wx h wc x l) (hy : BytL h y m) (hap : Ap h y wc x) (hm : m.length ≤ 60000) (hb : l.length ≤ 1099511000000) :
    SpecQ Try.prog 40 [wp wc, y] h (WrQ h wc x (l ++ beN (BitVec.ofNat 64 m.length) 2 ++ m) (wp wc)) := by
  have gw := hw.blk
  have ly := hy.len
  have hand : BitVec.ofNat 64 m.length &&& 65535#64 = BitVec.ofNat 64 m.length := by
    apply BitVec.eq_of_toNat_eq
    rw [BitVec.toNat_and, BitVec.toNat_ofNat, Nat.mod_eq_of_lt (by omega)]
    show m.length &&& 65535 = _
    rw [show 65535 = 2 ^ 16 - 1 by rfl, Nat.and_two_pow_sub_one_eq_mod, Nat.mod_eq_of_lt (by omega)]
  have hsh : BitVec.ofNat 64 m.length >>> (8 * 2) = 0#64 := by
    apply BitVec.eq_of_toNat_eq
    rw [BitVec.toNat_ushiftRight, BitVec.toNat_ofNat, Nat.mod_eq_of_lt (by omega), Nat.shiftRight_eq_div_pow]
    simp; omega
  refine q40 fun env g0 g1 => ?_
  unfold wp at g0
  repeat' (first | ((with_reducible apply evs_of); (focus ((conv => lhs; simp (disch := omega) [g0, g1, gw, ly, hm, hand]); done)); try dsimp only) | ((with_reducible apply cndW_T); (focus (simp (disch := omega) [g0, g1, gw, ly, hm, hand] <;> omega))) | ((with_reducible apply cndW_F); (focus (simp (disch := omega) [g0, g1, gw, ly, hm, hand] <;> omega))) | (with_reducible apply wL_i) | ((with_reducible apply SpecA_i); (focus ((conv => lhs; simp (disch := omega) [g0, g1, gw, ly, hm, hand]); done))) | (simp (decide := true) only [sn40, sqW_nrm, sqW_exit, sqW_ret, inBlk_nrm, inBlk_ret, inBlk_same, inBlk_exit, if_true, if_false, retW_nrm, retW_ret]))
  refine SpecQ.step (c38 (size := 2) hw (by omega) (by omega) (.inl hsh) (by omega)) ?_
  rintro ⟨v, h'⟩ ⟨rfl, x', w', k'⟩
  unfold wp
  repeat' (first | ((with_reducible apply evs_of); (focus ((conv => lhs; simp (disch := omega) [g0, g1]); done)); try dsimp only) | ((with_reducible apply cndW_T); (focus (simp (disch := omega) [g0, g1] <;> omega))) | ((with_reducible apply cndW_F); (focus (simp (disch := omega) [g0, g1] <;> omega))) | (with_reducible apply wL_i) | ((with_reducible apply SpecA_i); (focus ((conv => lhs; simp (disch := omega) [g0, g1]); done))) | (simp (decide := true) only [sn40, sqW_nrm, sqW_exit, sqW_ret, inBlk_nrm, inBlk_ret, inBlk_same, inBlk_exit, if_true, if_false, retW_nrm, retW_ret]))
  refine SpecQ.step (c63 w' (hy.keep k' hap) (by simp [beN]; omega)) ?_
  rintro ⟨v, h2⟩ ⟨rfl, x2, w2, k2⟩
  repeat' (first | ((with_reducible apply evs_of); (focus ((conv => lhs; simp (disch := omega) [g0, g1]); done)); try dsimp only) | ((with_reducible apply cndW_T); (focus (simp (disch := omega) [g0, g1] <;> omega))) | ((with_reducible apply cndW_F); (focus (simp (disch := omega) [g0, g1] <;> omega))) | (with_reducible apply wL_i) | ((with_reducible apply SpecA_i); (focus ((conv => lhs; simp (disch := omega) [g0, g1]); done))) | (simp (decide := true) only [sn40, sqW_nrm, sqW_exit, sqW_ret, inBlk_nrm, inBlk_ret, inBlk_same, inBlk_exit, if_true, if_false, retW_nrm, retW_ret]))
  exact ⟨by simp [oneOrTuple, wp], x2, w2, k'.trans k2⟩

theorem c39 {h : Heap} {wc : Nat} {x : AV} {l : Bs} {p : Pt} (hw : Wx h wc x l) (hb : l.length + 100 ≤ 1099511627776) :
    SpecQ Try.prog 39 [wq wc, pt p] h (WrQ h wc x (l ++ p.l) (.tuple [])) := by
  refine q39 fun env g0 g1 => ?_
  unfold wq at g0
  repeat' (first | ((with_reducible apply evs_of); (focus ((conv => lhs; simp (disch := omega) [g0, g1]); done)); try dsimp only) | ((with_reducible apply SpecA_i); (focus ((conv => lhs; simp (disch := omega) [g0, g1]); done))) | (simp (decide := true) only [sn39, sqW_nrm, sqW_exit, sqW_ret, inBlk_nrm, inBlk_ret, inBlk_same, inBlk_exit, if_true, if_false, retW_nrm, retW_ret]) | (with_reducible refine n39_1_w _ _ _ ?_))
  refine SpecQ.step (c63 (hw.app _) (pt_byt (p := p) (by simp)) (by rw [p.h]; omega)) ?_
  rintro ⟨v, h2⟩ ⟨rfl, x2, w2, k2⟩
  repeat' (first | ((with_reducible apply evs_of); (focus ((conv => lhs; simp (disch := omega) [g0, g1]); done)); try dsimp only) | ((with_reducible apply SpecA_i); (focus ((conv => lhs; simp (disch := omega) [g0, g1]); done))) | (simp (decide := true) only [sn39, sqW_nrm, sqW_exit, sqW_ret, inBlk_nrm, inBlk_ret, inBlk_same, inBlk_exit, if_true, if_false, retW_nrm, retW_ret]) | (with_reducible refine n39_1_w _ _ _ ?_))
  exact ⟨by simp [oneOrTuple], x2, w2, (KeepW.ext _ _ _ _).trans k2⟩

theorem c42 {h : Heap} {wc : Nat} {x : AV} {l : Bs} {c : Ci} (hw : Wx h wc x l) (hb : l.length + 200 ≤ 1099511627776) :
    SpecQ Try.prog 42 [wq wc, eCi c] h (WrQ h wc x (l ++ c.e.l ++ c.f.l) (.tuple [])) := by
  have hx : rb x ≠ some h.length := fun e => by
    obtain ⟨_, ⟨rfl, _⟩ | ⟨b, c, g, rfl, h2, _⟩⟩ := hw.2
    · cases e
    · cases e
      have := (List.getElem?_eq_some_iff.1 h2).1
      omega
  refine q42 fun env g0 g1 => ?_
  unfold wq at g0
  repeat' (first | ((with_reducible apply evs_of); (focus ((conv => lhs; simp (disch := omega) [g0, g1]); done)); try dsimp only) | ((with_reducible apply SpecA_i); (focus ((conv => lhs; simp (disch := omega) [g0, g1]); done))) | (simp (decide := true) only [sn42, sqW_nrm, sqW_exit, sqW_ret, inBlk_nrm, inBlk_ret, inBlk_same, inBlk_exit, if_true, if_false, retW_nrm, retW_ret]))
  refine SpecQ.step (c39 (hw.app _) (by omega)) ?_
  rintro ⟨v, h2⟩ ⟨rfl, x2, w2, k2⟩
  have bc := k2.blk (i := h.length) (ver := 0) (b := ⟨eCi c, 0, .own⟩) (by simp) (by have := hw.lt; omega) hx
  repeat' (first | ((with_reducible apply evs_of); (focus ((conv => lhs; simp (disch := omega) [g0, g1, bc]); done)); try dsimp only) | ((with_reducible apply SpecA_i); (focus ((conv => lhs; simp (disch := omega) [g0, g1, bc]); done))) | (simp (decide := true) only [sn42, sqW_nrm, sqW_exit, sqW_ret, inBlk_nrm, inBlk_ret, inBlk_same, inBlk_exit, if_true, if_false, retW_nrm, retW_ret]))
  refine SpecQ.step (c39 w2 (by rw [List.length_append, c.e.h]; omega)) ?_
  rintro ⟨v, h3⟩ ⟨rfl, x3, w3, k3⟩
  repeat' (first | ((with_reducible apply evs_of); (focus ((conv => lhs; simp (disch := omega) [g0, g1, bc]); done)); try dsimp only) | ((with_reducible apply SpecA_i); (focus ((conv => lhs; simp (disch := omega) [g0, g1, bc]); done))) | (simp (decide := true) only [sn42, sqW_nrm, sqW_exit, sqW_ret, inBlk_nrm, inBlk_ret, inBlk_same, inBlk_exit, if_true, if_false, retW_nrm, retW_ret]))
  exact ⟨by simp [oneOrTuple], x3, w3, ((KeepW.ext _ _ _ _).trans k2).trans k3⟩

theorem sh8 (x : BitVec 8) : (x.setWidth 64) >>> (8 * 1) = 0#64 := by
  apply BitVec.eq_of_toNat_eq
  have := x.isLt
  rw [BitVec.toNat_ushiftRight, BitVec.toNat_setWidth, Nat.mod_eq_of_lt (by omega), Nat.shiftRight_eq_div_pow]
  simp <;> omega

theorem c41 {h : Heap} {wc : Nat} {x : AV} {l : Bs} {a : Acc} (hw : Wx h wc x l) (hb : l.length + 200 ≤ 1099511627776) :
    SpecQ Try.prog 41 [wq wc, eAcc a] h (WrQ h wc x (l ++ beN (a.title.setWidth 64) 1 ++ beN (a.members.setWidth 64) 1 ++ beN (a.link.setWidth 64) 1) (.tuple [])) := by
  have hx : rb x ≠ some h.length := fun e => by
    obtain ⟨_, ⟨rfl, _⟩ | ⟨b, c, g, rfl, h2, _⟩⟩ := hw.2
    · cases e
    · cases e
      have := (List.getElem?_eq_some_iff.1 h2).1
      omega
  have hl : ∀ n : BitVec 64, (beN n 1).length = 1 := fun n => by simp [beN]
  refine q41 fun env g0 g1 => ?_
  unfold wq at g0
  repeat' (first | ((with_reducible apply evs_of); (focus ((conv => lhs; simp (disch := omega) [g0, g1]); done)); try dsimp only) | ((with_reducible apply stabP_i); (focus (simp (disch := omega) [g0, g1]; done))) | ((with_reducible apply SpecA_i); (focus ((conv => lhs; simp (disch := omega) [g0, g1]); done))) | ((with_reducible apply stabA_i); (focus ((conv => lhs; simp (disch := omega) [g0, g1]); done))) | ((with_reducible apply stabA_fn); (focus ((conv => lhs; simp (disch := omega) [g0, g1]); done))) | ((with_reducible apply stab_do); (focus (simp (disch := omega) [g0, g1]; done))) | (simp (decide := true) only [sn41, sqW_nrm, sqW_exit, sqW_ret, inBlk_nrm, inBlk_ret, inBlk_same, inBlk_exit, if_true, if_false, retW_nrm, retW_ret]) | (with_reducible refine n41_1_w _ _ _ ?_))
  refine SpecQ.step (c38 (size := 1) (hw.app _) (by omega) (by omega) (.inl (sh8 _)) (by omega)) ?_
  rintro ⟨v, h2⟩ ⟨rfl, x2, w2, k2⟩
  have b2 := k2.blk (i := h.length) (ver := 0) (b := ⟨eAcc a, 0, .own⟩) (by simp) (by have := hw.lt; omega) hx
  unfold wp
  repeat' (first | ((with_reducible apply evs_of); (focus ((conv => lhs; simp (disch := omega) [g0, g1, b2]); done)); try dsimp only) | ((with_reducible apply stabP_i); (focus (simp (disch := omega) [g0, g1, b2]; done))) | ((with_reducible apply SpecA_i); (focus ((conv => lhs; simp (disch := omega) [g0, g1, b2]); done))) | ((with_reducible apply stabA_i); (focus ((conv => lhs; simp (disch := omega) [g0, g1, b2]); done))) | ((with_reducible apply stabA_fn); (focus ((conv => lhs; simp (disch := omega) [g0, g1, b2]); done))) | ((with_reducible apply stab_do); (focus (simp (disch := omega) [g0, g1, b2]; done))) | (simp (decide := true) only [sn41, sqW_nrm, sqW_exit, sqW_ret, inBlk_nrm, inBlk_ret, inBlk_same, inBlk_exit, if_true, if_false, retW_nrm, retW_ret]) | (with_reducible refine n41_1_w _ _ _ ?_))
  refine SpecQ.step (c38 (size := 1) w2 (by omega) (by omega) (.inl (sh8 _)) (by rw [List.length_append, hl]; omega)) ?_
  rintro ⟨v, h3⟩ ⟨rfl, x3, w3, k3⟩
  have hx2 : rb x2 ≠ some h.length := fun e => by
    rcases k2.row _ e with h4 | h4
    · exact hx h4
    · simp at h4; omega
  have b3 := k3.blk b2 (by have := hw.lt; omega) hx2
  unfold wp
  repeat' (first | ((with_reducible apply evs_of); (focus ((conv => lhs; simp (disch := omega) [g0, g1, b2, b3]); done)); try dsimp only) | ((with_reducible apply stabP_i); (focus (simp (disch := omega) [g0, g1, b2, b3]; done))) | ((with_reducible apply SpecA_i); (focus ((conv => lhs; simp (disch := omega) [g0, g1, b2, b3]); done))) | ((with_reducible apply stabA_i); (focus ((conv => lhs; simp (disch := omega) [g0, g1, b2, b3]); done))) | ((with_reducible apply stabA_fn); (focus ((conv => lhs; simp (disch := omega) [g0, g1, b2, b3]); done))) | ((with_reducible apply stab_do); (focus (simp (disch := omega) [g0, g1, b2, b3]; done))) | (simp (decide := true) only [sn41, sqW_nrm, sqW_exit, sqW_ret, inBlk_nrm, inBlk_ret, inBlk_same, inBlk_exit, if_true, if_false, retW_nrm, retW_ret]) | (with_reducible refine n41_1_w _ _ _ ?_))
  refine SpecQ.step (c38 (size := 1) w3 (by omega) (by omega) (.inl (sh8 _)) (by rw [List.length_append, List.length_append, hl, hl]; omega)) ?_
  rintro ⟨v, h4⟩ ⟨rfl, x4, w4, k4⟩
  repeat' (first | ((with_reducible apply evs_of); (focus ((conv => lhs; simp (disch := omega) [g0, g1, b2, b3]); done)); try dsimp only) | ((with_reducible apply stabP_i); (focus (simp (disch := omega) [g0, g1, b2, b3]; done))) | ((with_reducible apply SpecA_i); (focus ((conv => lhs; simp (disch := omega) [g0, g1, b2, b3]); done))) | ((with_reducible apply stabA_i); (focus ((conv => lhs; simp (disch := omega) [g0, g1, b2, b3]); done))) | ((with_reducible apply stabA_fn); (focus ((conv => lhs; simp (disch := omega) [g0, g1, b2, b3]); done))) | ((with_reducible apply stab_do); (focus (simp (disch := omega) [g0, g1, b2, b3]; done))) | (simp (decide := true) only [sn41, sqW_nrm, sqW_exit, sqW_ret, inBlk_nrm, inBlk_ret, inBlk_same, inBlk_exit, if_true, if_false, retW_nrm, retW_ret]) | (with_reducible refine n41_1_w _ _ _ ?_))
  exact ⟨by simp [oneOrTuple], x4, w4, (((KeepW.ext _ _ _ _).trans k2).trans k3).trans k4⟩

theorem c64 {h : Heap} {y : AV} {m : Bs} (hy : BytL h y m) (hm : m.length ≤ 1099511627776) : SpecQ Try.prog 64 [y] h fun r => ∃ t, r.2 = h ++ t ∧ BytL (h ++ t) r.1 m := by
  refine q64 fun env g0 => ?_
  cases y with
  | nilslice =>
    repeat' (first | ((with_reducible apply evs_of); (focus ((conv => lhs; simp (disch := omega) [g0]); done)); try dsimp only) | ((with_reducible apply cndW_T); (focus (simp (disch := omega) [g0] <;> omega))) | ((with_reducible apply cndW_F); (focus (simp (disch := omega) [g0] <;> omega))) | (with_reducible apply wL_i) | ((with_reducible apply appA_i); (focus ((conv => lhs; simp (disch := omega) [g0]); done)); (focus ((conv => lhs; simp (disch := omega) [g0]); done))) | (simp (decide := true) only [sn64, sqW_nrm, sqW_exit, sqW_ret, inBlk_nrm, inBlk_ret, inBlk_same, inBlk_exit, if_true, if_false, retW_nrm, retW_ret]))
    exact ⟨[], by simp, by simpa [oneOrTuple] using hy⟩
  | slice b ver path t off len cap =>
    repeat' (first | ((with_reducible apply evs_of); (focus ((conv => lhs; simp (disch := omega) [g0]); done)); try dsimp only) | ((with_reducible apply cndW_T); (focus (simp (disch := omega) [g0] <;> omega))) | ((with_reducible apply cndW_F); (focus (simp (disch := omega) [g0] <;> omega))) | (with_reducible apply wL_i) | ((with_reducible apply appA_i); (focus ((conv => lhs; simp (disch := omega) [g0]); done)); (focus ((conv => lhs; simp (disch := omega) [g0]); done))) | (simp (decide := true) only [sn64, sqW_nrm, sqW_exit, sqW_ret, inBlk_nrm, inBlk_ret, inBlk_same, inBlk_exit, if_true, if_false, retW_nrm, retW_ret]))
    refine copyB0 (by simp [mElems_slc]) (hy.app _) (by simp) fun y1 e1 f1 => ?_
    repeat' (first | ((with_reducible apply evs_of); (focus ((conv => lhs; simp (disch := omega) [g0]); done)); try dsimp only) | ((with_reducible apply cndW_T); (focus (simp (disch := omega) [g0] <;> omega))) | ((with_reducible apply cndW_F); (focus (simp (disch := omega) [g0] <;> omega))) | (with_reducible apply wL_i) | ((with_reducible apply appA_i); (focus ((conv => lhs; simp (disch := omega) [g0]); done)); (focus ((conv => lhs; simp (disch := omega) [g0]); done))) | (simp (decide := true) only [sn64, sqW_nrm, sqW_exit, sqW_ret, inBlk_nrm, inBlk_ret, inBlk_same, inBlk_exit, if_true, if_false, retW_nrm, retW_ret]))
    exact ⟨_, rfl, f1.to0 (e := []) (by simp)⟩
  | _ => cases hy.1.2


theorem c43 {h : Heap} {wc : Nat} {x : AV} {l : Bs} (hw : Wx h wc x l) :
    SpecQ Try.prog 43 [wp wc] h fun r => ∃ y t, r = (.tuple [y, nat 0], h ++ t) ∧ BytL (h ++ t) y l := by
  have gw := hw.blk
  refine q43 fun env g0 => ?_
  unfold wp at g0
  repeat' (first | ((with_reducible apply evs_of); (focus ((conv => lhs; simp (disch := omega) [g0, gw]); done)); try dsimp only) | ((with_reducible apply cndW_T); (focus (simp (disch := omega) [g0, gw] <;> omega))) | ((with_reducible apply cndW_F); (focus (simp (disch := omega) [g0, gw] <;> omega))) | (with_reducible apply wL_i) | ((with_reducible apply SpecA_i); (focus ((conv => lhs; simp (disch := omega) [g0, gw]); done))) | (simp (decide := true) only [sn43, sqW_nrm, sqW_exit, sqW_ret, inBlk_nrm, inBlk_ret, inBlk_same, inBlk_exit, if_true, if_false, retW_nrm, retW_ret]) | (with_reducible refine n43_9_w _ _ _ ?_))
  refine SpecQ.step (c64 hw.2.byt hw.2.1) ?_
  rintro ⟨v, h2⟩ ⟨t, rfl, hv⟩
  repeat' (first | ((with_reducible apply evs_of); (focus ((conv => lhs; simp (disch := omega) [g0]); done)); try dsimp only) | ((with_reducible apply cndW_T); (focus (simp (disch := omega) [g0] <;> omega))) | ((with_reducible apply cndW_F); (focus (simp (disch := omega) [g0] <;> omega))) | (with_reducible apply wL_i) | ((with_reducible apply SpecA_i); (focus ((conv => lhs; simp (disch := omega) [g0]); done))) | (simp (decide := true) only [sn43, sqW_nrm, sqW_exit, sqW_ret, inBlk_nrm, inBlk_ret, inBlk_same, inBlk_exit, if_true, if_false, retW_nrm, retW_ret]) | (with_reducible refine n43_9_w _ _ _ ?_))
  exact ⟨v, t, by simp [oneOrTuple], hv⟩

end Go.Vab

/- How the code of a function is read. Printed by wip/tools/gen2.py (own work). -/
namespace Go.Vab
open Go Go.Proofs
/-! (*vestry/forms.writer).action -/
def cx45 : Ctx := ⟨fun _ _ _ => none, TT, 62, [5, 6, 7, 8, 9, 10, 11, 12, 13, 14, 15, 16, 17, 18, 19, 21, 22, 23, 24, 25, 27, 28, 29, 30, 31, 33, 34, 35, 36, 37, 38, 39, 40, 42, 43, 44, 45, 46, 47, 48, 50, 51, 52, 53, 54, 56, 57, 58, 59, 60, 61]⟩
noncomputable def n45_0 : Code := bodyOf Try.f45
noncomputable def n45_1 : Code := cR n45_0
noncomputable def n45_2 : Code := cR n45_1
noncomputable def n45_3 : Code := cR n45_2
noncomputable def n45_4 : Code := cL n45_3
noncomputable def n45_5 : Code := cR n45_4
noncomputable def n45_6 : Code := cL n45_5
noncomputable def n45_7 : Code := cR n45_5
noncomputable def n45_8 : Code := cR n45_3
noncomputable def n45_9 : Code := cL n45_8
noncomputable def n45_10 : Code := cR n45_9
noncomputable def n45_11 : Code := cL n45_10
noncomputable def n45_12 : Code := cR n45_10
noncomputable def n45_13 : Code := cR n45_8
noncomputable def n45_14 : Code := cL n45_13
noncomputable def n45_15 : Code := cR n45_14
noncomputable def n45_16 : Code := cL n45_15
noncomputable def n45_17 : Code := cR n45_15
noncomputable def n45_18 : Code := cR n45_13
noncomputable def n45_19 : Code := cL n45_18
noncomputable def n45_20 : Code := cR n45_19
noncomputable def n45_21 : Code := cL n45_20
noncomputable def n45_22 : Code := cR n45_20
noncomputable def n45_23 : Code := cR n45_18
noncomputable def n45_24 : Code := cL n45_23
noncomputable def n45_25 : Code := cR n45_24
noncomputable def n45_26 : Code := cL n45_25
noncomputable def n45_27 : Code := cR n45_25
noncomputable def n45_28 : Code := cR n45_23
noncomputable def n45_29 : Code := cR n45_28
noncomputable def n45_30 : Code := cL n45_29
noncomputable def n45_31 : Code := cR n45_29
theorem n45_6_eq (Q : Ex × St → Prop) (env : Env) (h : Heap) : wC Try.prog cx45 n45_6 Q ⟨env, h⟩ = (Evs (mFieldAddr tAction (env.get 3) 2) fun v1 => Evs (mLoad tCipher v1 h) fun v2 => SpecA Try.prog 42 [(env.get 0), v2] h fun r3 => Q (.nrm, ⟨env, r3.2⟩)) := (yR 4 (cOps n45_6)).trans (by
  refine w0 ?_
  refine wT 21 (env.get 0) ?_
  refine wP 22 fun v1 => ?_
  refine wP 23 fun v2 => ?_
  refine wH 24 fun r3 => ?_
  exact wE)
theorem n45_7_eq (Q : Ex × St → Prop) (s : St) : wC Try.prog cx45 n45_7 Q s = Q (.nrm, s) := yK
theorem n45_5_eq (Q : Ex × St → Prop) (s : St) : wC Try.prog cx45 n45_5 Q s = cndW (s.env.get 20) (wL Try.prog cx45 n45_6 Q s) (wL Try.prog cx45 n45_7 Q s) := yC 20 _ _
theorem n45_4_eq (Q : Ex × St → Prop) (env : Env) (h : Heap) : wC Try.prog cx45 n45_4 Q ⟨env, h⟩ = (Evs (mFieldAddr tLhas (env.get 4) 0) fun v0 => Evs (mLoad .cell v0 h) fun v1 => wC Try.prog cx45 n45_5 Q ⟨(Env.put env 20 v1), h⟩) := (ySR 3 (cOps (cL n45_4)) (cR n45_4)).trans (by
  refine w0 ?_
  refine wP 19 fun v0 => ?_
  refine wP 20 fun v1 => ?_
  exact wE)
theorem n45_11_eq (Q : Ex × St → Prop) (env : Env) (h : Heap) : wC Try.prog cx45 n45_11 Q ⟨env, h⟩ = (Evs (mFieldAddr tAction (env.get 3) 3) fun v1 => Evs (mLoad (.arr 32 (.int .u8)) v1 h) fun v2 => SpecA Try.prog 39 [(env.get 0), v2] h fun r3 => Q (.nrm, ⟨env, r3.2⟩)) := (yR 6 (cOps n45_11)).trans (by
  refine w0 ?_
  refine wT 27 (env.get 0) ?_
  refine wP 28 fun v1 => ?_
  refine wP 29 fun v2 => ?_
  refine wH 30 fun r3 => ?_
  exact wE)
theorem n45_12_eq (Q : Ex × St → Prop) (s : St) : wC Try.prog cx45 n45_12 Q s = Q (.nrm, s) := yK
theorem n45_10_eq (Q : Ex × St → Prop) (s : St) : wC Try.prog cx45 n45_10 Q s = cndW (s.env.get 26) (wL Try.prog cx45 n45_11 Q s) (wL Try.prog cx45 n45_12 Q s) := yC 26 _ _
theorem n45_9_eq (Q : Ex × St → Prop) (env : Env) (h : Heap) : wC Try.prog cx45 n45_9 Q ⟨env, h⟩ = (Evs (mFieldAddr tLhas (env.get 4) 1) fun v0 => Evs (mLoad .cell v0 h) fun v1 => wC Try.prog cx45 n45_10 Q ⟨(Env.put env 26 v1), h⟩) := (ySR 5 (cOps (cL n45_9)) (cR n45_9)).trans (by
  refine w0 ?_
  refine wP 25 fun v0 => ?_
  refine wP 26 fun v1 => ?_
  exact wE)
theorem n45_16_ok : treeOk (cOps n45_16).toList [6] [0, 1, 3, 0, 8, 24, 63] = true := by kernel_rfl
theorem n45_16_w (Q : Ex × St → Prop) (env : Env) (h : Heap) (H : Evs (mNilCheck (env.get 0)) fun v1_1 => Evs (mFieldAddr tLwriter v1_1 0) fun v2_2 => Evs (mFieldAddr tAction (env.get 3) 4) fun v3_3 => Evs (mLoad (.int .u8) v3_3 h) fun v4_4 => Evs (mConv .u64 v4_4) fun v5_5 => SpecA Try.prog 38 [v2_2, v5_5, (nat 1)] h fun r6_6 => Q (.nrm, ⟨env, r6_6.2⟩)) : wC Try.prog cx45 n45_16 Q ⟨env, h⟩ := by
  refine yD 8 (cOps n45_16) [6] [0, 1, 3, 0, 8, 24, 63] [0, 1, 2, 3, 4, 5] n45_16_ok ?_
  refine rT 33 (env.get 0) ?_
  refine rP H 34 fun v1_1 H => ?_
  refine rP H 35 fun v2_2 H => ?_
  refine rP H 36 fun v3_3 H => ?_
  refine rP H 37 fun v4_4 H => ?_
  refine rP H 38 fun v5_5 H => ?_
  refine rE ?_
  refine tN 6 [] ?_
  refine aN1 ?_
  refine tH H 39 [] [] (fun r6_6 H => ?_)
  refine ⟨sNil, ?_⟩
  refine rE ?_
  exact tE H
theorem n45_17_eq (Q : Ex × St → Prop) (s : St) : wC Try.prog cx45 n45_17 Q s = Q (.nrm, s) := yK
theorem n45_15_eq (Q : Ex × St → Prop) (s : St) : wC Try.prog cx45 n45_15 Q s = cndW (s.env.get 32) (wL Try.prog cx45 n45_16 Q s) (wL Try.prog cx45 n45_17 Q s) := yC 32 _ _
theorem n45_14_eq (Q : Ex × St → Prop) (env : Env) (h : Heap) : wC Try.prog cx45 n45_14 Q ⟨env, h⟩ = (Evs (mFieldAddr tLhas (env.get 4) 2) fun v0 => Evs (mLoad .cell v0 h) fun v1 => wC Try.prog cx45 n45_15 Q ⟨(Env.put env 32 v1), h⟩) := (ySR 7 (cOps (cL n45_14)) (cR n45_14)).trans (by
  refine w0 ?_
  refine wP 31 fun v0 => ?_
  refine wP 32 fun v1 => ?_
  exact wE)
theorem n45_21_ok : treeOk (cOps n45_21).toList [5] [0, 1, 3, 0, 8, 31] = true := by kernel_rfl
theorem n45_21_w (Q : Ex × St → Prop) (env : Env) (h : Heap) (H : Evs (mNilCheck (env.get 0)) fun v1_1 => Evs (mFieldAddr tLwriter v1_1 0) fun v2_2 => Evs (mFieldAddr tAction (env.get 3) 5) fun v3_3 => Evs (mLoad .cell v3_3 h) fun v4_4 => SpecA Try.prog 40 [v2_2, v4_4] h fun r5_5 => Q (.nrm, ⟨env, r5_5.2⟩)) : wC Try.prog cx45 n45_21 Q ⟨env, h⟩ := by
  refine yD 10 (cOps n45_21) [5] [0, 1, 3, 0, 8, 31] [0, 1, 2, 3, 4] n45_21_ok ?_
  refine rT 42 (env.get 0) ?_
  refine rP H 43 fun v1_1 H => ?_
  refine rP H 44 fun v2_2 H => ?_
  refine rP H 45 fun v3_3 H => ?_
  refine rP H 46 fun v4_4 H => ?_
  refine rE ?_
  refine tN 5 [] ?_
  refine aN1 ?_
  refine tH H 47 [] [] (fun r5_5 H => ?_)
  refine ⟨sNil, ?_⟩
  refine rE ?_
  exact tE H
theorem n45_22_eq (Q : Ex × St → Prop) (s : St) : wC Try.prog cx45 n45_22 Q s = Q (.nrm, s) := yK
theorem n45_20_eq (Q : Ex × St → Prop) (s : St) : wC Try.prog cx45 n45_20 Q s = cndW (s.env.get 41) (wL Try.prog cx45 n45_21 Q s) (wL Try.prog cx45 n45_22 Q s) := yC 41 _ _
theorem n45_19_eq (Q : Ex × St → Prop) (env : Env) (h : Heap) : wC Try.prog cx45 n45_19 Q ⟨env, h⟩ = (Evs (mFieldAddr tLhas (env.get 4) 3) fun v0 => Evs (mLoad .cell v0 h) fun v1 => wC Try.prog cx45 n45_20 Q ⟨(Env.put env 41 v1), h⟩) := (ySR 9 (cOps (cL n45_19)) (cR n45_19)).trans (by
  refine w0 ?_
  refine wP 40 fun v0 => ?_
  refine wP 41 fun v1 => ?_
  exact wE)
theorem n45_26_eq (Q : Ex × St → Prop) (env : Env) (h : Heap) : wC Try.prog cx45 n45_26 Q ⟨env, h⟩ = (Evs (mFieldAddr tAction (env.get 3) 6) fun v1 => Evs (mLoad tAccess v1 h) fun v2 => SpecA Try.prog 41 [(env.get 0), v2] h fun r3 => Q (.nrm, ⟨env, r3.2⟩)) := (yR 12 (cOps n45_26)).trans (by
  refine w0 ?_
  refine wT 50 (env.get 0) ?_
  refine wP 51 fun v1 => ?_
  refine wP 52 fun v2 => ?_
  refine wH 53 fun r3 => ?_
  exact wE)
theorem n45_27_eq (Q : Ex × St → Prop) (s : St) : wC Try.prog cx45 n45_27 Q s = Q (.nrm, s) := yK
theorem n45_25_eq (Q : Ex × St → Prop) (s : St) : wC Try.prog cx45 n45_25 Q s = cndW (s.env.get 49) (wL Try.prog cx45 n45_26 Q s) (wL Try.prog cx45 n45_27 Q s) := yC 49 _ _
theorem n45_24_eq (Q : Ex × St → Prop) (env : Env) (h : Heap) : wC Try.prog cx45 n45_24 Q ⟨env, h⟩ = (Evs (mFieldAddr tLhas (env.get 4) 4) fun v0 => Evs (mLoad .cell v0 h) fun v1 => wC Try.prog cx45 n45_25 Q ⟨(Env.put env 49 v1), h⟩) := (ySR 11 (cOps (cL n45_24)) (cR n45_24)).trans (by
  refine w0 ?_
  refine wP 48 fun v0 => ?_
  refine wP 49 fun v1 => ?_
  exact wE)
theorem n45_30_ok : treeOk (cOps n45_30).toList [5] [0, 1, 3, 0, 8, 31] = true := by kernel_rfl
theorem n45_30_w (Q : Ex × St → Prop) (env : Env) (h : Heap) (H : Evs (mNilCheck (env.get 0)) fun v1_1 => Evs (mFieldAddr tLwriter v1_1 0) fun v2_2 => Evs (mFieldAddr tAction (env.get 3) 7) fun v3_3 => Evs (mLoad .cell v3_3 h) fun v4_4 => SpecA Try.prog 40 [v2_2, v4_4] h fun r5_5 => Q (.nrm, ⟨env, r5_5.2⟩)) : wC Try.prog cx45 n45_30 Q ⟨env, h⟩ := by
  refine yD 14 (cOps n45_30) [5] [0, 1, 3, 0, 8, 31] [0, 1, 2, 3, 4] n45_30_ok ?_
  refine rT 56 (env.get 0) ?_
  refine rP H 57 fun v1_1 H => ?_
  refine rP H 58 fun v2_2 H => ?_
  refine rP H 59 fun v3_3 H => ?_
  refine rP H 60 fun v4_4 H => ?_
  refine rE ?_
  refine tN 5 [] ?_
  refine aN1 ?_
  refine tH H 61 [] [] (fun r5_5 H => ?_)
  refine ⟨sNil, ?_⟩
  refine rE ?_
  exact tE H
theorem n45_31_eq (Q : Ex × St → Prop) (s : St) : wC Try.prog cx45 n45_31 Q s = Q (.nrm, s) := yK
theorem n45_29_eq (Q : Ex × St → Prop) (s : St) : wC Try.prog cx45 n45_29 Q s = cndW (s.env.get 55) (wL Try.prog cx45 n45_30 Q s) (wL Try.prog cx45 n45_31 Q s) := yC 55 _ _
theorem n45_28_eq (Q : Ex × St → Prop) (env : Env) (h : Heap) : wC Try.prog cx45 n45_28 Q ⟨env, h⟩ = (Evs (mFieldAddr tLhas (env.get 4) 5) fun v0 => Evs (mLoad .cell v0 h) fun v1 => wC Try.prog cx45 n45_29 Q ⟨(Env.put env 55 v1), h⟩) := (ySR 13 (cOps (cL n45_28)) (cR n45_28)).trans (by
  refine w0 ?_
  refine wP 54 fun v0 => ?_
  refine wP 55 fun v1 => ?_
  exact wE)
theorem n45_23_eq (Q : Ex × St → Prop) (s : St) : wC Try.prog cx45 n45_23 Q s = wC Try.prog cx45 n45_24 (sqW (wC Try.prog cx45 n45_28) Q) s := yS _ _
theorem n45_18_eq (Q : Ex × St → Prop) (s : St) : wC Try.prog cx45 n45_18 Q s = wC Try.prog cx45 n45_19 (sqW (wC Try.prog cx45 n45_23) Q) s := yS _ _
theorem n45_13_eq (Q : Ex × St → Prop) (s : St) : wC Try.prog cx45 n45_13 Q s = wC Try.prog cx45 n45_14 (sqW (wC Try.prog cx45 n45_18) Q) s := yS _ _
theorem n45_8_eq (Q : Ex × St → Prop) (s : St) : wC Try.prog cx45 n45_8 Q s = wC Try.prog cx45 n45_9 (sqW (wC Try.prog cx45 n45_13) Q) s := yS _ _
theorem n45_3_eq (Q : Ex × St → Prop) (s : St) : wC Try.prog cx45 n45_3 Q s = wC Try.prog cx45 n45_4 (sqW (wC Try.prog cx45 n45_8) Q) s := yS _ _
theorem n45_2_ok : treeOk (cOps (cL n45_2)).toList [6, 10] [0, 1, 3, 0, 8, 24, 63, 0, 128, 384, 1023] = true := by kernel_rfl
theorem n45_2_w (Q : Ex × St → Prop) (env : Env) (h : Heap) (H : Evs (mNilCheck (env.get 0)) fun v1_1 => Evs (mFieldAddr tLwriter v1_1 0) fun v2_2 => Evs (mFieldAddr tAction (env.get 3) 0) fun v3_3 => Evs (mLoad (.int .u32) v3_3 h) fun v4_4 => Evs (mConv .u64 v4_4) fun v5_5 => Evs (mFieldAddr tAction (env.get 3) 1) fun v7_6 => Evs (mLoad (.int .u8) v7_6 h) fun v8_7 => Evs (mConv .u64 v8_7) fun v9_8 => SpecA Try.prog 38 [v2_2, v5_5, (nat 4)] h fun r6_9 => stabP (mLoad (.int .u8) v7_6 r6_9.2 = some v8_7) (stabP (mConv .u64 v8_7 = some v9_8) (SpecA Try.prog 38 [r6_9.1, v9_8, (nat 1)] r6_9.2 fun r10_10 => wC Try.prog cx45 n45_3 Q ⟨env, r10_10.2⟩))) : wC Try.prog cx45 n45_2 Q ⟨env, h⟩ := by
  refine ySD 2 (cOps (cL n45_2)) (cR n45_2) [6, 10] [0, 1, 3, 0, 8, 24, 63, 0, 128, 384, 1023] [0, 1, 2, 3, 4, 5, 7, 8, 9] n45_2_ok ?_
  refine rT 8 (env.get 0) ?_
  refine rP H 9 fun v1_1 H => ?_
  refine rP H 10 fun v2_2 H => ?_
  refine rP H 11 fun v3_3 H => ?_
  refine rP H 12 fun v4_4 H => ?_
  refine rP H 13 fun v5_5 H => ?_
  refine rP H 15 fun v7_6 H => ?_
  refine rP H 16 fun v8_7 H => ?_
  refine rP H 17 fun v9_8 H => ?_
  refine rE ?_
  refine tN 6 [] ?_
  refine aN1 ?_
  refine tH H 14 [] [8, 9] (fun r6_9 H => ?_)
  refine sP v8_7 16 H (fun H => ?_) (by kernel_rfl) (by kernel_rfl) (by kernel_rfl)
  refine sP v9_8 17 H (fun H => ?_) (by kernel_rfl) (by kernel_rfl) (by kernel_rfl)
  refine ⟨sNil, ?_⟩
  refine rE ?_
  refine tN 10 [] ?_
  refine aN1 ?_
  refine tH H 18 [] [] (fun r10_10 H => ?_)
  refine ⟨sNil, ?_⟩
  refine rE ?_
  exact tE H
theorem n45_1_eq (Q : Ex × St → Prop) (env : Env) (h : Heap) : wC Try.prog cx45 n45_1 Q ⟨env, h⟩ = (Evs (mFieldAddr tAction (env.get 3) 1) fun v0 => Evs (mLoad (.int .u8) v0 h) fun v1 => SpecA Try.prog 65 [v1] h fun r2 => Evs (mNew tLhas (.node [(.bool false), (.bool false), (.bool false), (.bool false), (.bool false), (.bool false)]) r2.2) fun r3 => Evs (stU tLhas r3.1 r2.1 r3.2) fun r4 => wC Try.prog cx45 n45_2 Q ⟨(Env.put env 4 r3.1), r4.2⟩) := (ySR 1 (cOps (cL n45_1)) (cR n45_1)).trans (by
  refine w0 ?_
  refine wP 5 fun v0 => ?_
  refine wP 6 fun v1 => ?_
  refine wH 7 fun r2 => ?_
  refine wH 4 fun r3 => ?_
  refine wHn fun r4 => ?_
  exact wE)
theorem n45_0_eq (Q : Ex × St → Prop) (env : Env) (h : Heap) : wC Try.prog cx45 n45_0 Q ⟨env, h⟩ = (Evs (mNew tAction (env.get 1) h) fun r0 => wC Try.prog cx45 n45_1 Q ⟨(Env.put env 3 r0.1), r0.2⟩) := (ySR 0 (cOps (cL n45_0)) (cR n45_0)).trans (by
  refine w0 ?_
  refine wH 3 fun r0 => ?_
  exact wE)
theorem fn45 : Try.prog.funcs[45]? = some Try.f45 := by kernel_rfl
theorem q45 {a0 a1 : AV} {h : Heap} {K : AV × Heap → Prop} (H : ∀ env : Env, env.get 0 = a0 → env.get 1 = a1 → wC Try.prog cx45 n45_0 (retW (fun s => (some [])) K) ⟨env, h⟩) : SpecQ Try.prog 45 [a0, a1] h K :=
  bodyW_sound (C := cx45) TT_ok mixed_ok fn45 (by kernel_rfl) (show _ = some n45_0 by kernel_rfl) (by kernel_rfl) (by kernel_rfl) (of_decide_eq_true (by kernel_rfl)) ((show wC Try.prog cx45 n45_0 (retW (fun s => resAll cx45 s Try.f45.results.toList) K) ⟨env0 cx45 [a0, a1], h⟩ = wC Try.prog cx45 n45_0 (retW (fun s => (some [])) K) ⟨[(0, a0), (1, a1), (2, .junk), (3, .junk), (4, .junk), (20, .junk), (26, .junk), (32, .junk), (41, .junk), (49, .junk), (55, .junk)], h⟩ by kernel_rfl).mpr (H [(0, a0), (1, a1), (2, .junk), (3, .junk), (4, .junk), (20, .junk), (26, .junk), (32, .junk), (41, .junk), (49, .junk), (55, .junk)] rfl rfl))
def sn45 := And.intro n45_6_eq (And.intro n45_7_eq (And.intro n45_5_eq (And.intro n45_4_eq (And.intro n45_11_eq (And.intro n45_12_eq (And.intro n45_10_eq (And.intro n45_9_eq (And.intro n45_17_eq (And.intro n45_15_eq (And.intro n45_14_eq (And.intro n45_22_eq (And.intro n45_20_eq (And.intro n45_19_eq (And.intro n45_26_eq (And.intro n45_27_eq (And.intro n45_25_eq (And.intro n45_24_eq (And.intro n45_31_eq (And.intro n45_29_eq (And.intro n45_28_eq (And.intro n45_23_eq (And.intro n45_18_eq (And.intro n45_13_eq (And.intro n45_8_eq (And.intro n45_3_eq (And.intro n45_1_eq (n45_0_eq)))))))))))))))))))))))))))
-- draws: n45_16 n45_21 n45_30 n45_2
end Go.Vab

/- How the code of a function is read. Printed by wip/tools/gen2.py (own work). -/
namespace Go.Vab
open Go Go.Proofs
/-! vestry/forms.Action -/
def cx22 : Ctx := ⟨fun _ _ _ => none, TT, 14, [5, 6, 8, 9, 10, 11, 12, 13]⟩
noncomputable def n22_0 : Code := bodyOf Try.f22
noncomputable def n22_1 : Code := cR n22_0
noncomputable def n22_2 : Code := cL n22_1
noncomputable def n22_3 : Code := cR n22_2
noncomputable def n22_4 : Code := cL n22_3
noncomputable def n22_5 : Code := cR n22_4
noncomputable def n22_6 : Code := cR n22_3
noncomputable def n22_7 : Code := cR n22_1
noncomputable def n22_8 : Code := cR n22_7
noncomputable def n22_9 : Code := cR n22_8
noncomputable def n22_10 : Code := cR n22_9
theorem n22_5_eq (Q : Ex × St → Prop) (s : St) : wC Try.prog cx22 n22_5 Q s = Q (.ret, s) := yE
theorem n22_4_eq (Q : Ex × St → Prop) (env : Env) (h : Heap) : wC Try.prog cx22 n22_4 Q ⟨env, h⟩ = ( wC Try.prog cx22 n22_5 Q ⟨(Env.put (Env.put env 2 .nilslice) 3 (nat 2)), h⟩) := (ySR 2 (cOps (cL n22_4)) (cR n22_4)).trans (by
  refine w0 ?_
  refine wT 2 .nilslice ?_
  refine wT 3 (nat 2) ?_
  exact wE)
theorem n22_6_eq (Q : Ex × St → Prop) (s : St) : wC Try.prog cx22 n22_6 Q s = Q (.nrm, s) := yK
theorem n22_3_eq (Q : Ex × St → Prop) (s : St) : wC Try.prog cx22 n22_3 Q s = cndW (s.env.get 7) (wL Try.prog cx22 n22_4 Q s) (wL Try.prog cx22 n22_6 Q s) := yC 7 _ _
theorem n22_2_eq (Q : Ex × St → Prop) (env : Env) (h : Heap) : wC Try.prog cx22 n22_2 Q ⟨env, h⟩ = (Evs (mLoad tAction (env.get 1) h) fun v0 => SpecA Try.prog 44 [v0] h fun r1 => Evs (mUn .not r1.1) fun v2 => wC Try.prog cx22 n22_3 Q ⟨(Env.put env 7 v2), r1.2⟩) := (ySR 1 (cOps (cL n22_2)) (cR n22_2)).trans (by
  refine w0 ?_
  refine wP 5 fun v0 => ?_
  refine wH 6 fun r1 => ?_
  refine wP 7 fun v2 => ?_
  exact wE)
theorem n22_10_eq (Q : Ex × St → Prop) (s : St) : wC Try.prog cx22 n22_10 Q s = Q (.ret, s) := yE
theorem n22_9_eq (Q : Ex × St → Prop) (env : Env) (h : Heap) : wC Try.prog cx22 n22_9 Q ⟨env, h⟩ = (Evs (mFieldAddr tLwriter (env.get 4) 0) fun v0 => SpecA Try.prog 43 [v0] h fun r1 => Evs (mExtract r1.1 0) fun v2 => Evs (mExtract r1.1 1) fun v3 => wC Try.prog cx22 n22_10 Q ⟨(Env.put (Env.put env 2 v2) 3 v3), r1.2⟩) := (ySR 5 (cOps (cL n22_9)) (cR n22_9)).trans (by
  refine w0 ?_
  refine wP 10 fun v0 => ?_
  refine wH 11 fun r1 => ?_
  refine wP 12 fun v2 => ?_
  refine wP 13 fun v3 => ?_
  refine wT 2 v2 ?_
  refine wT 3 v3 ?_
  exact wE)
theorem n22_8_eq (Q : Ex × St → Prop) (env : Env) (h : Heap) : wC Try.prog cx22 n22_8 Q ⟨env, h⟩ = (Evs (mLoad tAction (env.get 1) h) fun v0 => SpecA Try.prog 45 [(env.get 4), v0] h fun r1 => wC Try.prog cx22 n22_9 Q ⟨env, r1.2⟩) := (ySR 4 (cOps (cL n22_8)) (cR n22_8)).trans (by
  refine w0 ?_
  refine wP 8 fun v0 => ?_
  refine wH 9 fun r1 => ?_
  exact wE)
theorem n22_7_eq (Q : Ex × St → Prop) (env : Env) (h : Heap) : wC Try.prog cx22 n22_7 Q ⟨env, h⟩ = (Evs (mNew tLwriter (.node [(.node [.nilslice, (nat 0)])]) h) fun r0 => wC Try.prog cx22 n22_8 Q ⟨(Env.put env 4 r0.1), r0.2⟩) := (ySR 3 (cOps (cL n22_7)) (cR n22_7)).trans (by
  refine w0 ?_
  refine wH 4 fun r0 => ?_
  exact wE)
theorem n22_1_eq (Q : Ex × St → Prop) (s : St) : wC Try.prog cx22 n22_1 Q s = wC Try.prog cx22 n22_2 (sqW (wC Try.prog cx22 n22_7) Q) s := yS _ _
theorem n22_0_eq (Q : Ex × St → Prop) (env : Env) (h : Heap) : wC Try.prog cx22 n22_0 Q ⟨env, h⟩ = (Evs (mNew tAction (env.get 0) h) fun r0 => wC Try.prog cx22 n22_1 Q ⟨(Env.put (Env.put (Env.put env 1 r0.1) 2 .nilslice) 3 (nat 0)), r0.2⟩) := (ySR 0 (cOps (cL n22_0)) (cR n22_0)).trans (by
  refine w0 ?_
  refine wH 1 fun r0 => ?_
  refine wT 2 .nilslice ?_
  refine wT 3 (nat 0) ?_
  exact wE)
theorem fn22 : Try.prog.funcs[22]? = some Try.f22 := by kernel_rfl
theorem q22 {a0 : AV} {h : Heap} {K : AV × Heap → Prop} (H : ∀ env : Env, env.get 0 = a0 → wC Try.prog cx22 n22_0 (retW (fun s => (bnd (some (s.env.get 2)) fun v => bnd (bnd (some (s.env.get 3)) fun v => bnd (some []) fun vs => some (v :: vs)) fun vs => some (v :: vs))) K) ⟨env, h⟩) : SpecQ Try.prog 22 [a0] h K :=
  bodyW_sound (C := cx22) TT_ok mixed_ok fn22 (by kernel_rfl) (show _ = some n22_0 by kernel_rfl) (by kernel_rfl) (by kernel_rfl) (of_decide_eq_true (by kernel_rfl)) ((show wC Try.prog cx22 n22_0 (retW (fun s => resAll cx22 s Try.f22.results.toList) K) ⟨env0 cx22 [a0], h⟩ = wC Try.prog cx22 n22_0 (retW (fun s => (bnd (some (s.env.get 2)) fun v => bnd (bnd (some (s.env.get 3)) fun v => bnd (some []) fun vs => some (v :: vs)) fun vs => some (v :: vs))) K) ⟨[(0, a0), (1, .junk), (2, .junk), (3, .junk), (4, .junk), (7, .junk)], h⟩ by kernel_rfl).mpr (H [(0, a0), (1, .junk), (2, .junk), (3, .junk), (4, .junk), (7, .junk)] rfl))
def sn22 := And.intro n22_5_eq (And.intro n22_4_eq (And.intro n22_6_eq (And.intro n22_3_eq (And.intro n22_2_eq (And.intro n22_10_eq (And.intro n22_9_eq (And.intro n22_8_eq (And.intro n22_7_eq (And.intro n22_1_eq (n22_0_eq))))))))))
-- draws: 
end Go.Vab

/-
  Actions, written.
-/
namespace Go.Vab
open Go Go.Proofs

theorem sh32 (x : BitVec 32) : (x.setWidth 64) >>> (8 * 4) = 0#64 := by
  apply BitVec.eq_of_toNat_eq
  have := x.isLt
  rw [BitVec.toNat_ushiftRight, BitVec.toNat_setWidth, Nat.mod_eq_of_lt (by omega), Nat.shiftRight_eq_div_pow]
  simp <;> omega
theorem beN_len (n : BitVec 64) (k : Nat) : (beN n k).length = k := by simp [beN]

theorem flags (k : BitVec 8) : (hW k = true ∧ hE k = false ∧ hR k = true ∧ hT k = false ∧ hA k = false ∧ hP k = false) ∨ (hW k = true ∧ hE k = false ∧ hR k = false ∧ hT k = false ∧ hA k = false ∧ hP k = true) ∨ (hW k = false ∧ hE k = false ∧ hR k = false ∧ hT k = false ∧ hA k = false ∧ hP k = true) ∨ (hW k = false ∧ hE k = true ∧ hR k = true ∧ hT k = false ∧ hA k = false ∧ hP k = false) ∨ (hW k = false ∧ hE k = true ∧ hR k = false ∧ hT k = false ∧ hA k = false ∧ hP k = false) ∨ (hW k = false ∧ hE k = false ∧ hR k = false ∧ hT k = true ∧ hA k = false ∧ hP k = false) ∨ (hW k = false ∧ hE k = false ∧ hR k = false ∧ hT k = false ∧ hA k = true ∧ hP k = false) ∨ (hW k = false ∧ hE k = false ∧ hR k = false ∧ hT k = false ∧ hA k = false ∧ hP k = false) := by
  revert k
  decide

set_option maxHeartbeats 4000000 in
theorem c45 {h : Heap} {wc : Nat} {x : AV} {l : Bs} {a : Actn} {vt vp : AV} (hw : Wx h wc x l) (ra : ActR h a vt vp) (at_ : Ap h vt wc x) (ap : Ap h vp wc x) (ht : a.title.length ≤ 60000) (hp : a.pass.length ≤ 60000) (hb : l.length ≤ 1099510000000) :
    SpecQ Try.prog 45 [wq wc, eAct a vt vp] h (WrQ h wc x (l ++ actB a) (.tuple [])) := by
  have ta := ra.cells
  have f1 : (0 : Nat) = 0 := rfl
  have f2 := f1
  have f3 := f1
  have f4 := f1
  have f5 := f1
  have f6 := f1
  refine q45 fun env g0 g1 => ?_
  unfold wq at g0
  repeat' (first | ((with_reducible apply evs_of); (focus ((conv => lhs; simp (disch := omega) [g0, g1, ta, hasV]); done)); try dsimp only) | ((with_reducible apply cndW_T); (focus (simp (disch := omega) [g0, g1, ta, hasV] <;> omega))) | ((with_reducible apply cndW_F); (focus (simp (disch := omega) [g0, g1, ta, hasV] <;> omega))) | ((with_reducible apply stabP_i); (focus (simp (disch := omega) [g0, g1, ta, hasV]; done))) | (with_reducible apply wL_i) | (with_reducible refine SpecQ.step (c65) ?_; rintro _ rfl; try dsimp only) | (with_reducible refine stabP_i (c65) ?_) | ((with_reducible apply SpecA_i); (focus ((conv => lhs; simp (disch := omega) [g0, g1, ta, hasV]); done))) | ((with_reducible apply stabA_i); (focus ((conv => lhs; simp (disch := omega) [g0, g1, ta, hasV]); done))) | ((with_reducible apply stabA_fn); (focus ((conv => lhs; simp (disch := omega) [g0, g1, ta, hasV]); done))) | ((with_reducible apply stab_do); (focus (simp (disch := omega) [g0, g1, ta, hasV]; done))) | (simp (decide := true) only [sn45, sqW_nrm, sqW_exit, sqW_ret, inBlk_nrm, inBlk_ret, inBlk_same, inBlk_exit, if_true, if_false, retW_nrm, retW_ret]) | (with_reducible refine n45_16_w _ _ _ ?_) | (with_reducible refine n45_21_w _ _ _ ?_) | (with_reducible refine n45_30_w _ _ _ ?_) | (with_reducible refine n45_2_w _ _ _ ?_))
  have bt := ra.t.app [⟨eAct a vt vp, 0, .own⟩, ⟨hasV a.kind, 0, .own⟩]
  have bp := ra.p.app [⟨eAct a vt vp, 0, .own⟩, ⟨hasV a.kind, 0, .own⟩]
  have cl := Cells.new hw [⟨eAct a vt vp, 0, .own⟩, ⟨hasV a.kind, 0, .own⟩]
  have kk := KeepW.ext h [⟨eAct a vt vp, 0, .own⟩, ⟨hasV a.kind, 0, .own⟩] wc x
  have at_ := at_.app [⟨eAct a vt vp, 0, .own⟩, ⟨hasV a.kind, 0, .own⟩]
  have ap := ap.app [⟨eAct a vt vp, 0, .own⟩, ⟨hasV a.kind, 0, .own⟩]
  have hw := hw.app [⟨eAct a vt vp, 0, .own⟩, ⟨hasV a.kind, 0, .own⟩]
  refine SpecQ.step (c38 (size := 4) hw (by omega) (by omega) (.inl (sh32 _)) (by omega)) ?_
  rintro ⟨v, h2⟩ ⟨rfl, x2, hw, k2⟩
  have bt := bt.keep k2 at_
  have bp := bp.keep k2 ap
  have at_ := at_.step k2
  have ap := ap.step k2
  have cl := cl.step k2
  have kk := kk.trans k2
  have b0 : blkAt h2 h.length 0 = some ⟨eAct a vt vp, 0, .own⟩ := cl.blk 0 rfl
  have b1 : blkAt h2 (h.length + 1) 0 = some ⟨hasV a.kind, 0, .own⟩ := cl.blk 1 rfl
  try unfold wp
  unfold hasV at b1
  repeat' (first | ((with_reducible apply evs_of); (focus ((conv => lhs; simp (disch := omega) [g0, b0, b1, ta, f1, f2, f3, f4, f5, f6]); done)); try dsimp only) | ((with_reducible apply cndW_T); (focus (simp (disch := omega) [g0, b0, b1, ta, f1, f2, f3, f4, f5, f6] <;> omega))) | ((with_reducible apply cndW_F); (focus (simp (disch := omega) [g0, b0, b1, ta, f1, f2, f3, f4, f5, f6] <;> omega))) | ((with_reducible apply stabP_i); (focus (simp (disch := omega) [g0, b0, b1, ta, f1, f2, f3, f4, f5, f6]; done))) | (with_reducible apply wL_i) | ((with_reducible apply SpecA_i); (focus ((conv => lhs; simp (disch := omega) [g0, b0, b1, ta, f1, f2, f3, f4, f5, f6]); done))) | ((with_reducible apply stabA_i); (focus ((conv => lhs; simp (disch := omega) [g0, b0, b1, ta, f1, f2, f3, f4, f5, f6]); done))) | ((with_reducible apply stabA_fn); (focus ((conv => lhs; simp (disch := omega) [g0, b0, b1, ta, f1, f2, f3, f4, f5, f6]); done))) | ((with_reducible apply stab_do); (focus (simp (disch := omega) [g0, b0, b1, ta, f1, f2, f3, f4, f5, f6]; done))) | (simp (decide := true) only [sn45, sqW_nrm, sqW_exit, sqW_ret, inBlk_nrm, inBlk_ret, inBlk_same, inBlk_exit, if_true, if_false, retW_nrm, retW_ret]) | (with_reducible refine n45_16_w _ _ _ ?_) | (with_reducible refine n45_21_w _ _ _ ?_) | (with_reducible refine n45_30_w _ _ _ ?_) | (with_reducible refine n45_2_w _ _ _ ?_))
  refine SpecQ.step (c38 (size := 1) hw (by omega) (by omega) (.inl (sh8 _)) (by simp [beN_len, Pt.h]; omega)) ?_
  rcases flags a.kind with ⟨f1, f2, f3, f4, f5, f6⟩ | ⟨f1, f2, f3, f4, f5, f6⟩ | ⟨f1, f2, f3, f4, f5, f6⟩ | ⟨f1, f2, f3, f4, f5, f6⟩ | ⟨f1, f2, f3, f4, f5, f6⟩ | ⟨f1, f2, f3, f4, f5, f6⟩ | ⟨f1, f2, f3, f4, f5, f6⟩ | ⟨f1, f2, f3, f4, f5, f6⟩
  · as_aux_lemma =>
    rintro ⟨v, h2⟩ ⟨rfl, x2, hw, k2⟩
    have bt := bt.keep k2 at_
    have bp := bp.keep k2 ap
    have at_ := at_.step k2
    have ap := ap.step k2
    have cl := cl.step k2
    have kk := kk.trans k2
    have b0 : blkAt h2 h.length 0 = some ⟨eAct a vt vp, 0, .own⟩ := cl.blk 0 rfl
    have b1 : blkAt h2 (h.length + 1) 0 = some ⟨hasV a.kind, 0, .own⟩ := cl.blk 1 rfl
    try unfold wp
    unfold hasV at b1
    repeat' (first | ((with_reducible apply evs_of); (focus ((conv => lhs; simp (disch := omega) [g0, b0, b1, ta, f1, f2, f3, f4, f5, f6]); done)); try dsimp only) | ((with_reducible apply cndW_T); (focus (simp (disch := omega) [g0, b0, b1, ta, f1, f2, f3, f4, f5, f6] <;> omega))) | ((with_reducible apply cndW_F); (focus (simp (disch := omega) [g0, b0, b1, ta, f1, f2, f3, f4, f5, f6] <;> omega))) | ((with_reducible apply stabP_i); (focus (simp (disch := omega) [g0, b0, b1, ta, f1, f2, f3, f4, f5, f6]; done))) | (with_reducible apply wL_i) | ((with_reducible apply SpecA_i); (focus ((conv => lhs; simp (disch := omega) [g0, b0, b1, ta, f1, f2, f3, f4, f5, f6]); done))) | ((with_reducible apply stabA_i); (focus ((conv => lhs; simp (disch := omega) [g0, b0, b1, ta, f1, f2, f3, f4, f5, f6]); done))) | ((with_reducible apply stabA_fn); (focus ((conv => lhs; simp (disch := omega) [g0, b0, b1, ta, f1, f2, f3, f4, f5, f6]); done))) | ((with_reducible apply stab_do); (focus (simp (disch := omega) [g0, b0, b1, ta, f1, f2, f3, f4, f5, f6]; done))) | (simp (decide := true) only [sn45, sqW_nrm, sqW_exit, sqW_ret, inBlk_nrm, inBlk_ret, inBlk_same, inBlk_exit, if_true, if_false, retW_nrm, retW_ret]) | (with_reducible refine n45_16_w _ _ _ ?_) | (with_reducible refine n45_21_w _ _ _ ?_) | (with_reducible refine n45_30_w _ _ _ ?_) | (with_reducible refine n45_2_w _ _ _ ?_))
    refine SpecQ.step (c42 hw (by simp [beN_len, Pt.h]; omega)) ?_
    as_aux_lemma =>
      rintro ⟨v, h2⟩ ⟨rfl, x2, hw, k2⟩
      have bt := bt.keep k2 at_
      have bp := bp.keep k2 ap
      have at_ := at_.step k2
      have ap := ap.step k2
      have cl := cl.step k2
      have kk := kk.trans k2
      have b0 : blkAt h2 h.length 0 = some ⟨eAct a vt vp, 0, .own⟩ := cl.blk 0 rfl
      have b1 : blkAt h2 (h.length + 1) 0 = some ⟨hasV a.kind, 0, .own⟩ := cl.blk 1 rfl
      try unfold wp
      unfold hasV at b1
      repeat' (first | ((with_reducible apply evs_of); (focus ((conv => lhs; simp (disch := omega) [g0, b0, b1, ta, f1, f2, f3, f4, f5, f6]); done)); try dsimp only) | ((with_reducible apply cndW_T); (focus (simp (disch := omega) [g0, b0, b1, ta, f1, f2, f3, f4, f5, f6] <;> omega))) | ((with_reducible apply cndW_F); (focus (simp (disch := omega) [g0, b0, b1, ta, f1, f2, f3, f4, f5, f6] <;> omega))) | ((with_reducible apply stabP_i); (focus (simp (disch := omega) [g0, b0, b1, ta, f1, f2, f3, f4, f5, f6]; done))) | (with_reducible apply wL_i) | ((with_reducible apply SpecA_i); (focus ((conv => lhs; simp (disch := omega) [g0, b0, b1, ta, f1, f2, f3, f4, f5, f6]); done))) | ((with_reducible apply stabA_i); (focus ((conv => lhs; simp (disch := omega) [g0, b0, b1, ta, f1, f2, f3, f4, f5, f6]); done))) | ((with_reducible apply stabA_fn); (focus ((conv => lhs; simp (disch := omega) [g0, b0, b1, ta, f1, f2, f3, f4, f5, f6]); done))) | ((with_reducible apply stab_do); (focus (simp (disch := omega) [g0, b0, b1, ta, f1, f2, f3, f4, f5, f6]; done))) | (simp (decide := true) only [sn45, sqW_nrm, sqW_exit, sqW_ret, inBlk_nrm, inBlk_ret, inBlk_same, inBlk_exit, if_true, if_false, retW_nrm, retW_ret]) | (with_reducible refine n45_16_w _ _ _ ?_) | (with_reducible refine n45_21_w _ _ _ ?_) | (with_reducible refine n45_30_w _ _ _ ?_) | (with_reducible refine n45_2_w _ _ _ ?_))
      refine SpecQ.step (c38 (size := 1) hw (by omega) (by omega) (.inl (sh8 _)) (by simp [beN_len, Pt.h]; omega)) ?_
      as_aux_lemma =>
        rintro ⟨v, h2⟩ ⟨rfl, x2, hw, k2⟩
        have bt := bt.keep k2 at_
        have bp := bp.keep k2 ap
        have at_ := at_.step k2
        have ap := ap.step k2
        have cl := cl.step k2
        have kk := kk.trans k2
        have b0 : blkAt h2 h.length 0 = some ⟨eAct a vt vp, 0, .own⟩ := cl.blk 0 rfl
        have b1 : blkAt h2 (h.length + 1) 0 = some ⟨hasV a.kind, 0, .own⟩ := cl.blk 1 rfl
        try unfold wp
        unfold hasV at b1
        repeat' (first | ((with_reducible apply evs_of); (focus ((conv => lhs; simp (disch := omega) [g0, b0, b1, ta, f1, f2, f3, f4, f5, f6]); done)); try dsimp only) | ((with_reducible apply cndW_T); (focus (simp (disch := omega) [g0, b0, b1, ta, f1, f2, f3, f4, f5, f6] <;> omega))) | ((with_reducible apply cndW_F); (focus (simp (disch := omega) [g0, b0, b1, ta, f1, f2, f3, f4, f5, f6] <;> omega))) | ((with_reducible apply stabP_i); (focus (simp (disch := omega) [g0, b0, b1, ta, f1, f2, f3, f4, f5, f6]; done))) | (with_reducible apply wL_i) | ((with_reducible apply SpecA_i); (focus ((conv => lhs; simp (disch := omega) [g0, b0, b1, ta, f1, f2, f3, f4, f5, f6]); done))) | ((with_reducible apply stabA_i); (focus ((conv => lhs; simp (disch := omega) [g0, b0, b1, ta, f1, f2, f3, f4, f5, f6]); done))) | ((with_reducible apply stabA_fn); (focus ((conv => lhs; simp (disch := omega) [g0, b0, b1, ta, f1, f2, f3, f4, f5, f6]); done))) | ((with_reducible apply stab_do); (focus (simp (disch := omega) [g0, b0, b1, ta, f1, f2, f3, f4, f5, f6]; done))) | (simp (decide := true) only [sn45, sqW_nrm, sqW_exit, sqW_ret, inBlk_nrm, inBlk_ret, inBlk_same, inBlk_exit, if_true, if_false, retW_nrm, retW_ret]) | (with_reducible refine n45_16_w _ _ _ ?_) | (with_reducible refine n45_21_w _ _ _ ?_) | (with_reducible refine n45_30_w _ _ _ ?_) | (with_reducible refine n45_2_w _ _ _ ?_))
        refine ⟨by simp [oneOrTuple], x2, ?_, kk⟩
        have e : l ++ actB a = _ := rfl
        simp only [actB, when_, f1, f2, f3, f4, f5, f6, ciB, textB, accB, if_true, if_false, Bool.false_eq_true, List.append_nil, ← List.append_assoc]
        exact hw
  · as_aux_lemma =>
    rintro ⟨v, h2⟩ ⟨rfl, x2, hw, k2⟩
    have bt := bt.keep k2 at_
    have bp := bp.keep k2 ap
    have at_ := at_.step k2
    have ap := ap.step k2
    have cl := cl.step k2
    have kk := kk.trans k2
    have b0 : blkAt h2 h.length 0 = some ⟨eAct a vt vp, 0, .own⟩ := cl.blk 0 rfl
    have b1 : blkAt h2 (h.length + 1) 0 = some ⟨hasV a.kind, 0, .own⟩ := cl.blk 1 rfl
    try unfold wp
    unfold hasV at b1
    repeat' (first | ((with_reducible apply evs_of); (focus ((conv => lhs; simp (disch := omega) [g0, b0, b1, ta, f1, f2, f3, f4, f5, f6]); done)); try dsimp only) | ((with_reducible apply cndW_T); (focus (simp (disch := omega) [g0, b0, b1, ta, f1, f2, f3, f4, f5, f6] <;> omega))) | ((with_reducible apply cndW_F); (focus (simp (disch := omega) [g0, b0, b1, ta, f1, f2, f3, f4, f5, f6] <;> omega))) | ((with_reducible apply stabP_i); (focus (simp (disch := omega) [g0, b0, b1, ta, f1, f2, f3, f4, f5, f6]; done))) | (with_reducible apply wL_i) | ((with_reducible apply SpecA_i); (focus ((conv => lhs; simp (disch := omega) [g0, b0, b1, ta, f1, f2, f3, f4, f5, f6]); done))) | ((with_reducible apply stabA_i); (focus ((conv => lhs; simp (disch := omega) [g0, b0, b1, ta, f1, f2, f3, f4, f5, f6]); done))) | ((with_reducible apply stabA_fn); (focus ((conv => lhs; simp (disch := omega) [g0, b0, b1, ta, f1, f2, f3, f4, f5, f6]); done))) | ((with_reducible apply stab_do); (focus (simp (disch := omega) [g0, b0, b1, ta, f1, f2, f3, f4, f5, f6]; done))) | (simp (decide := true) only [sn45, sqW_nrm, sqW_exit, sqW_ret, inBlk_nrm, inBlk_ret, inBlk_same, inBlk_exit, if_true, if_false, retW_nrm, retW_ret]) | (with_reducible refine n45_16_w _ _ _ ?_) | (with_reducible refine n45_21_w _ _ _ ?_) | (with_reducible refine n45_30_w _ _ _ ?_) | (with_reducible refine n45_2_w _ _ _ ?_))
    refine SpecQ.step (c42 hw (by simp [beN_len, Pt.h]; omega)) ?_
    as_aux_lemma =>
      rintro ⟨v, h2⟩ ⟨rfl, x2, hw, k2⟩
      have bt := bt.keep k2 at_
      have bp := bp.keep k2 ap
      have at_ := at_.step k2
      have ap := ap.step k2
      have cl := cl.step k2
      have kk := kk.trans k2
      have b0 : blkAt h2 h.length 0 = some ⟨eAct a vt vp, 0, .own⟩ := cl.blk 0 rfl
      have b1 : blkAt h2 (h.length + 1) 0 = some ⟨hasV a.kind, 0, .own⟩ := cl.blk 1 rfl
      try unfold wp
      unfold hasV at b1
      repeat' (first | ((with_reducible apply evs_of); (focus ((conv => lhs; simp (disch := omega) [g0, b0, b1, ta, f1, f2, f3, f4, f5, f6]); done)); try dsimp only) | ((with_reducible apply cndW_T); (focus (simp (disch := omega) [g0, b0, b1, ta, f1, f2, f3, f4, f5, f6] <;> omega))) | ((with_reducible apply cndW_F); (focus (simp (disch := omega) [g0, b0, b1, ta, f1, f2, f3, f4, f5, f6] <;> omega))) | ((with_reducible apply stabP_i); (focus (simp (disch := omega) [g0, b0, b1, ta, f1, f2, f3, f4, f5, f6]; done))) | (with_reducible apply wL_i) | ((with_reducible apply SpecA_i); (focus ((conv => lhs; simp (disch := omega) [g0, b0, b1, ta, f1, f2, f3, f4, f5, f6]); done))) | ((with_reducible apply stabA_i); (focus ((conv => lhs; simp (disch := omega) [g0, b0, b1, ta, f1, f2, f3, f4, f5, f6]); done))) | ((with_reducible apply stabA_fn); (focus ((conv => lhs; simp (disch := omega) [g0, b0, b1, ta, f1, f2, f3, f4, f5, f6]); done))) | ((with_reducible apply stab_do); (focus (simp (disch := omega) [g0, b0, b1, ta, f1, f2, f3, f4, f5, f6]; done))) | (simp (decide := true) only [sn45, sqW_nrm, sqW_exit, sqW_ret, inBlk_nrm, inBlk_ret, inBlk_same, inBlk_exit, if_true, if_false, retW_nrm, retW_ret]) | (with_reducible refine n45_16_w _ _ _ ?_) | (with_reducible refine n45_21_w _ _ _ ?_) | (with_reducible refine n45_30_w _ _ _ ?_) | (with_reducible refine n45_2_w _ _ _ ?_))
      refine SpecQ.step (c40 hw bp ap hp (by simp [beN_len, Pt.h]; omega)) ?_
      as_aux_lemma =>
        rintro ⟨v, h2⟩ ⟨rfl, x2, hw, k2⟩
        have bt := bt.keep k2 at_
        have bp := bp.keep k2 ap
        have at_ := at_.step k2
        have ap := ap.step k2
        have cl := cl.step k2
        have kk := kk.trans k2
        have b0 : blkAt h2 h.length 0 = some ⟨eAct a vt vp, 0, .own⟩ := cl.blk 0 rfl
        have b1 : blkAt h2 (h.length + 1) 0 = some ⟨hasV a.kind, 0, .own⟩ := cl.blk 1 rfl
        try unfold wp
        unfold hasV at b1
        repeat' (first | ((with_reducible apply evs_of); (focus ((conv => lhs; simp (disch := omega) [g0, b0, b1, ta, f1, f2, f3, f4, f5, f6]); done)); try dsimp only) | ((with_reducible apply cndW_T); (focus (simp (disch := omega) [g0, b0, b1, ta, f1, f2, f3, f4, f5, f6] <;> omega))) | ((with_reducible apply cndW_F); (focus (simp (disch := omega) [g0, b0, b1, ta, f1, f2, f3, f4, f5, f6] <;> omega))) | ((with_reducible apply stabP_i); (focus (simp (disch := omega) [g0, b0, b1, ta, f1, f2, f3, f4, f5, f6]; done))) | (with_reducible apply wL_i) | ((with_reducible apply SpecA_i); (focus ((conv => lhs; simp (disch := omega) [g0, b0, b1, ta, f1, f2, f3, f4, f5, f6]); done))) | ((with_reducible apply stabA_i); (focus ((conv => lhs; simp (disch := omega) [g0, b0, b1, ta, f1, f2, f3, f4, f5, f6]); done))) | ((with_reducible apply stabA_fn); (focus ((conv => lhs; simp (disch := omega) [g0, b0, b1, ta, f1, f2, f3, f4, f5, f6]); done))) | ((with_reducible apply stab_do); (focus (simp (disch := omega) [g0, b0, b1, ta, f1, f2, f3, f4, f5, f6]; done))) | (simp (decide := true) only [sn45, sqW_nrm, sqW_exit, sqW_ret, inBlk_nrm, inBlk_ret, inBlk_same, inBlk_exit, if_true, if_false, retW_nrm, retW_ret]) | (with_reducible refine n45_16_w _ _ _ ?_) | (with_reducible refine n45_21_w _ _ _ ?_) | (with_reducible refine n45_30_w _ _ _ ?_) | (with_reducible refine n45_2_w _ _ _ ?_))
        refine ⟨by simp [oneOrTuple], x2, ?_, kk⟩
        have e : l ++ actB a = _ := rfl
        simp only [actB, when_, f1, f2, f3, f4, f5, f6, ciB, textB, accB, if_true, if_false, Bool.false_eq_true, List.append_nil, ← List.append_assoc]
        exact hw
  · as_aux_lemma =>
    rintro ⟨v, h2⟩ ⟨rfl, x2, hw, k2⟩
    have bt := bt.keep k2 at_
    have bp := bp.keep k2 ap
    have at_ := at_.step k2
    have ap := ap.step k2
    have cl := cl.step k2
    have kk := kk.trans k2
    have b0 : blkAt h2 h.length 0 = some ⟨eAct a vt vp, 0, .own⟩ := cl.blk 0 rfl
    have b1 : blkAt h2 (h.length + 1) 0 = some ⟨hasV a.kind, 0, .own⟩ := cl.blk 1 rfl
    try unfold wp
    unfold hasV at b1
    repeat' (first | ((with_reducible apply evs_of); (focus ((conv => lhs; simp (disch := omega) [g0, b0, b1, ta, f1, f2, f3, f4, f5, f6]); done)); try dsimp only) | ((with_reducible apply cndW_T); (focus (simp (disch := omega) [g0, b0, b1, ta, f1, f2, f3, f4, f5, f6] <;> omega))) | ((with_reducible apply cndW_F); (focus (simp (disch := omega) [g0, b0, b1, ta, f1, f2, f3, f4, f5, f6] <;> omega))) | ((with_reducible apply stabP_i); (focus (simp (disch := omega) [g0, b0, b1, ta, f1, f2, f3, f4, f5, f6]; done))) | (with_reducible apply wL_i) | ((with_reducible apply SpecA_i); (focus ((conv => lhs; simp (disch := omega) [g0, b0, b1, ta, f1, f2, f3, f4, f5, f6]); done))) | ((with_reducible apply stabA_i); (focus ((conv => lhs; simp (disch := omega) [g0, b0, b1, ta, f1, f2, f3, f4, f5, f6]); done))) | ((with_reducible apply stabA_fn); (focus ((conv => lhs; simp (disch := omega) [g0, b0, b1, ta, f1, f2, f3, f4, f5, f6]); done))) | ((with_reducible apply stab_do); (focus (simp (disch := omega) [g0, b0, b1, ta, f1, f2, f3, f4, f5, f6]; done))) | (simp (decide := true) only [sn45, sqW_nrm, sqW_exit, sqW_ret, inBlk_nrm, inBlk_ret, inBlk_same, inBlk_exit, if_true, if_false, retW_nrm, retW_ret]) | (with_reducible refine n45_16_w _ _ _ ?_) | (with_reducible refine n45_21_w _ _ _ ?_) | (with_reducible refine n45_30_w _ _ _ ?_) | (with_reducible refine n45_2_w _ _ _ ?_))
    refine SpecQ.step (c40 hw bp ap hp (by simp [beN_len, Pt.h]; omega)) ?_
    as_aux_lemma =>
      rintro ⟨v, h2⟩ ⟨rfl, x2, hw, k2⟩
      have bt := bt.keep k2 at_
      have bp := bp.keep k2 ap
      have at_ := at_.step k2
      have ap := ap.step k2
      have cl := cl.step k2
      have kk := kk.trans k2
      have b0 : blkAt h2 h.length 0 = some ⟨eAct a vt vp, 0, .own⟩ := cl.blk 0 rfl
      have b1 : blkAt h2 (h.length + 1) 0 = some ⟨hasV a.kind, 0, .own⟩ := cl.blk 1 rfl
      try unfold wp
      unfold hasV at b1
      repeat' (first | ((with_reducible apply evs_of); (focus ((conv => lhs; simp (disch := omega) [g0, b0, b1, ta, f1, f2, f3, f4, f5, f6]); done)); try dsimp only) | ((with_reducible apply cndW_T); (focus (simp (disch := omega) [g0, b0, b1, ta, f1, f2, f3, f4, f5, f6] <;> omega))) | ((with_reducible apply cndW_F); (focus (simp (disch := omega) [g0, b0, b1, ta, f1, f2, f3, f4, f5, f6] <;> omega))) | ((with_reducible apply stabP_i); (focus (simp (disch := omega) [g0, b0, b1, ta, f1, f2, f3, f4, f5, f6]; done))) | (with_reducible apply wL_i) | ((with_reducible apply SpecA_i); (focus ((conv => lhs; simp (disch := omega) [g0, b0, b1, ta, f1, f2, f3, f4, f5, f6]); done))) | ((with_reducible apply stabA_i); (focus ((conv => lhs; simp (disch := omega) [g0, b0, b1, ta, f1, f2, f3, f4, f5, f6]); done))) | ((with_reducible apply stabA_fn); (focus ((conv => lhs; simp (disch := omega) [g0, b0, b1, ta, f1, f2, f3, f4, f5, f6]); done))) | ((with_reducible apply stab_do); (focus (simp (disch := omega) [g0, b0, b1, ta, f1, f2, f3, f4, f5, f6]; done))) | (simp (decide := true) only [sn45, sqW_nrm, sqW_exit, sqW_ret, inBlk_nrm, inBlk_ret, inBlk_same, inBlk_exit, if_true, if_false, retW_nrm, retW_ret]) | (with_reducible refine n45_16_w _ _ _ ?_) | (with_reducible refine n45_21_w _ _ _ ?_) | (with_reducible refine n45_30_w _ _ _ ?_) | (with_reducible refine n45_2_w _ _ _ ?_))
      refine ⟨by simp [oneOrTuple], x2, ?_, kk⟩
      have e : l ++ actB a = _ := rfl
      simp only [actB, when_, f1, f2, f3, f4, f5, f6, ciB, textB, accB, if_true, if_false, Bool.false_eq_true, List.append_nil, ← List.append_assoc]
      exact hw
  · as_aux_lemma =>
    rintro ⟨v, h2⟩ ⟨rfl, x2, hw, k2⟩
    have bt := bt.keep k2 at_
    have bp := bp.keep k2 ap
    have at_ := at_.step k2
    have ap := ap.step k2
    have cl := cl.step k2
    have kk := kk.trans k2
    have b0 : blkAt h2 h.length 0 = some ⟨eAct a vt vp, 0, .own⟩ := cl.blk 0 rfl
    have b1 : blkAt h2 (h.length + 1) 0 = some ⟨hasV a.kind, 0, .own⟩ := cl.blk 1 rfl
    try unfold wp
    unfold hasV at b1
    repeat' (first | ((with_reducible apply evs_of); (focus ((conv => lhs; simp (disch := omega) [g0, b0, b1, ta, f1, f2, f3, f4, f5, f6]); done)); try dsimp only) | ((with_reducible apply cndW_T); (focus (simp (disch := omega) [g0, b0, b1, ta, f1, f2, f3, f4, f5, f6] <;> omega))) | ((with_reducible apply cndW_F); (focus (simp (disch := omega) [g0, b0, b1, ta, f1, f2, f3, f4, f5, f6] <;> omega))) | ((with_reducible apply stabP_i); (focus (simp (disch := omega) [g0, b0, b1, ta, f1, f2, f3, f4, f5, f6]; done))) | (with_reducible apply wL_i) | ((with_reducible apply SpecA_i); (focus ((conv => lhs; simp (disch := omega) [g0, b0, b1, ta, f1, f2, f3, f4, f5, f6]); done))) | ((with_reducible apply stabA_i); (focus ((conv => lhs; simp (disch := omega) [g0, b0, b1, ta, f1, f2, f3, f4, f5, f6]); done))) | ((with_reducible apply stabA_fn); (focus ((conv => lhs; simp (disch := omega) [g0, b0, b1, ta, f1, f2, f3, f4, f5, f6]); done))) | ((with_reducible apply stab_do); (focus (simp (disch := omega) [g0, b0, b1, ta, f1, f2, f3, f4, f5, f6]; done))) | (simp (decide := true) only [sn45, sqW_nrm, sqW_exit, sqW_ret, inBlk_nrm, inBlk_ret, inBlk_same, inBlk_exit, if_true, if_false, retW_nrm, retW_ret]) | (with_reducible refine n45_16_w _ _ _ ?_) | (with_reducible refine n45_21_w _ _ _ ?_) | (with_reducible refine n45_30_w _ _ _ ?_) | (with_reducible refine n45_2_w _ _ _ ?_))
    refine SpecQ.step (c39 hw (by simp [beN_len, Pt.h]; omega)) ?_
    as_aux_lemma =>
      rintro ⟨v, h2⟩ ⟨rfl, x2, hw, k2⟩
      have bt := bt.keep k2 at_
      have bp := bp.keep k2 ap
      have at_ := at_.step k2
      have ap := ap.step k2
      have cl := cl.step k2
      have kk := kk.trans k2
      have b0 : blkAt h2 h.length 0 = some ⟨eAct a vt vp, 0, .own⟩ := cl.blk 0 rfl
      have b1 : blkAt h2 (h.length + 1) 0 = some ⟨hasV a.kind, 0, .own⟩ := cl.blk 1 rfl
      try unfold wp
      unfold hasV at b1
      repeat' (first | ((with_reducible apply evs_of); (focus ((conv => lhs; simp (disch := omega) [g0, b0, b1, ta, f1, f2, f3, f4, f5, f6]); done)); try dsimp only) | ((with_reducible apply cndW_T); (focus (simp (disch := omega) [g0, b0, b1, ta, f1, f2, f3, f4, f5, f6] <;> omega))) | ((with_reducible apply cndW_F); (focus (simp (disch := omega) [g0, b0, b1, ta, f1, f2, f3, f4, f5, f6] <;> omega))) | ((with_reducible apply stabP_i); (focus (simp (disch := omega) [g0, b0, b1, ta, f1, f2, f3, f4, f5, f6]; done))) | (with_reducible apply wL_i) | ((with_reducible apply SpecA_i); (focus ((conv => lhs; simp (disch := omega) [g0, b0, b1, ta, f1, f2, f3, f4, f5, f6]); done))) | ((with_reducible apply stabA_i); (focus ((conv => lhs; simp (disch := omega) [g0, b0, b1, ta, f1, f2, f3, f4, f5, f6]); done))) | ((with_reducible apply stabA_fn); (focus ((conv => lhs; simp (disch := omega) [g0, b0, b1, ta, f1, f2, f3, f4, f5, f6]); done))) | ((with_reducible apply stab_do); (focus (simp (disch := omega) [g0, b0, b1, ta, f1, f2, f3, f4, f5, f6]; done))) | (simp (decide := true) only [sn45, sqW_nrm, sqW_exit, sqW_ret, inBlk_nrm, inBlk_ret, inBlk_same, inBlk_exit, if_true, if_false, retW_nrm, retW_ret]) | (with_reducible refine n45_16_w _ _ _ ?_) | (with_reducible refine n45_21_w _ _ _ ?_) | (with_reducible refine n45_30_w _ _ _ ?_) | (with_reducible refine n45_2_w _ _ _ ?_))
      refine SpecQ.step (c38 (size := 1) hw (by omega) (by omega) (.inl (sh8 _)) (by simp [beN_len, Pt.h]; omega)) ?_
      as_aux_lemma =>
        rintro ⟨v, h2⟩ ⟨rfl, x2, hw, k2⟩
        have bt := bt.keep k2 at_
        have bp := bp.keep k2 ap
        have at_ := at_.step k2
        have ap := ap.step k2
        have cl := cl.step k2
        have kk := kk.trans k2
        have b0 : blkAt h2 h.length 0 = some ⟨eAct a vt vp, 0, .own⟩ := cl.blk 0 rfl
        have b1 : blkAt h2 (h.length + 1) 0 = some ⟨hasV a.kind, 0, .own⟩ := cl.blk 1 rfl
        try unfold wp
        unfold hasV at b1
        repeat' (first | ((with_reducible apply evs_of); (focus ((conv => lhs; simp (disch := omega) [g0, b0, b1, ta, f1, f2, f3, f4, f5, f6]); done)); try dsimp only) | ((with_reducible apply cndW_T); (focus (simp (disch := omega) [g0, b0, b1, ta, f1, f2, f3, f4, f5, f6] <;> omega))) | ((with_reducible apply cndW_F); (focus (simp (disch := omega) [g0, b0, b1, ta, f1, f2, f3, f4, f5, f6] <;> omega))) | ((with_reducible apply stabP_i); (focus (simp (disch := omega) [g0, b0, b1, ta, f1, f2, f3, f4, f5, f6]; done))) | (with_reducible apply wL_i) | ((with_reducible apply SpecA_i); (focus ((conv => lhs; simp (disch := omega) [g0, b0, b1, ta, f1, f2, f3, f4, f5, f6]); done))) | ((with_reducible apply stabA_i); (focus ((conv => lhs; simp (disch := omega) [g0, b0, b1, ta, f1, f2, f3, f4, f5, f6]); done))) | ((with_reducible apply stabA_fn); (focus ((conv => lhs; simp (disch := omega) [g0, b0, b1, ta, f1, f2, f3, f4, f5, f6]); done))) | ((with_reducible apply stab_do); (focus (simp (disch := omega) [g0, b0, b1, ta, f1, f2, f3, f4, f5, f6]; done))) | (simp (decide := true) only [sn45, sqW_nrm, sqW_exit, sqW_ret, inBlk_nrm, inBlk_ret, inBlk_same, inBlk_exit, if_true, if_false, retW_nrm, retW_ret]) | (with_reducible refine n45_16_w _ _ _ ?_) | (with_reducible refine n45_21_w _ _ _ ?_) | (with_reducible refine n45_30_w _ _ _ ?_) | (with_reducible refine n45_2_w _ _ _ ?_))
        refine ⟨by simp [oneOrTuple], x2, ?_, kk⟩
        have e : l ++ actB a = _ := rfl
        simp only [actB, when_, f1, f2, f3, f4, f5, f6, ciB, textB, accB, if_true, if_false, Bool.false_eq_true, List.append_nil, ← List.append_assoc]
        exact hw
  · as_aux_lemma =>
    rintro ⟨v, h2⟩ ⟨rfl, x2, hw, k2⟩
    have bt := bt.keep k2 at_
    have bp := bp.keep k2 ap
    have at_ := at_.step k2
    have ap := ap.step k2
    have cl := cl.step k2
    have kk := kk.trans k2
    have b0 : blkAt h2 h.length 0 = some ⟨eAct a vt vp, 0, .own⟩ := cl.blk 0 rfl
    have b1 : blkAt h2 (h.length + 1) 0 = some ⟨hasV a.kind, 0, .own⟩ := cl.blk 1 rfl
    try unfold wp
    unfold hasV at b1
    repeat' (first | ((with_reducible apply evs_of); (focus ((conv => lhs; simp (disch := omega) [g0, b0, b1, ta, f1, f2, f3, f4, f5, f6]); done)); try dsimp only) | ((with_reducible apply cndW_T); (focus (simp (disch := omega) [g0, b0, b1, ta, f1, f2, f3, f4, f5, f6] <;> omega))) | ((with_reducible apply cndW_F); (focus (simp (disch := omega) [g0, b0, b1, ta, f1, f2, f3, f4, f5, f6] <;> omega))) | ((with_reducible apply stabP_i); (focus (simp (disch := omega) [g0, b0, b1, ta, f1, f2, f3, f4, f5, f6]; done))) | (with_reducible apply wL_i) | ((with_reducible apply SpecA_i); (focus ((conv => lhs; simp (disch := omega) [g0, b0, b1, ta, f1, f2, f3, f4, f5, f6]); done))) | ((with_reducible apply stabA_i); (focus ((conv => lhs; simp (disch := omega) [g0, b0, b1, ta, f1, f2, f3, f4, f5, f6]); done))) | ((with_reducible apply stabA_fn); (focus ((conv => lhs; simp (disch := omega) [g0, b0, b1, ta, f1, f2, f3, f4, f5, f6]); done))) | ((with_reducible apply stab_do); (focus (simp (disch := omega) [g0, b0, b1, ta, f1, f2, f3, f4, f5, f6]; done))) | (simp (decide := true) only [sn45, sqW_nrm, sqW_exit, sqW_ret, inBlk_nrm, inBlk_ret, inBlk_same, inBlk_exit, if_true, if_false, retW_nrm, retW_ret]) | (with_reducible refine n45_16_w _ _ _ ?_) | (with_reducible refine n45_21_w _ _ _ ?_) | (with_reducible refine n45_30_w _ _ _ ?_) | (with_reducible refine n45_2_w _ _ _ ?_))
    refine SpecQ.step (c39 hw (by simp [beN_len, Pt.h]; omega)) ?_
    as_aux_lemma =>
      rintro ⟨v, h2⟩ ⟨rfl, x2, hw, k2⟩
      have bt := bt.keep k2 at_
      have bp := bp.keep k2 ap
      have at_ := at_.step k2
      have ap := ap.step k2
      have cl := cl.step k2
      have kk := kk.trans k2
      have b0 : blkAt h2 h.length 0 = some ⟨eAct a vt vp, 0, .own⟩ := cl.blk 0 rfl
      have b1 : blkAt h2 (h.length + 1) 0 = some ⟨hasV a.kind, 0, .own⟩ := cl.blk 1 rfl
      try unfold wp
      unfold hasV at b1
      repeat' (first | ((with_reducible apply evs_of); (focus ((conv => lhs; simp (disch := omega) [g0, b0, b1, ta, f1, f2, f3, f4, f5, f6]); done)); try dsimp only) | ((with_reducible apply cndW_T); (focus (simp (disch := omega) [g0, b0, b1, ta, f1, f2, f3, f4, f5, f6] <;> omega))) | ((with_reducible apply cndW_F); (focus (simp (disch := omega) [g0, b0, b1, ta, f1, f2, f3, f4, f5, f6] <;> omega))) | ((with_reducible apply stabP_i); (focus (simp (disch := omega) [g0, b0, b1, ta, f1, f2, f3, f4, f5, f6]; done))) | (with_reducible apply wL_i) | ((with_reducible apply SpecA_i); (focus ((conv => lhs; simp (disch := omega) [g0, b0, b1, ta, f1, f2, f3, f4, f5, f6]); done))) | ((with_reducible apply stabA_i); (focus ((conv => lhs; simp (disch := omega) [g0, b0, b1, ta, f1, f2, f3, f4, f5, f6]); done))) | ((with_reducible apply stabA_fn); (focus ((conv => lhs; simp (disch := omega) [g0, b0, b1, ta, f1, f2, f3, f4, f5, f6]); done))) | ((with_reducible apply stab_do); (focus (simp (disch := omega) [g0, b0, b1, ta, f1, f2, f3, f4, f5, f6]; done))) | (simp (decide := true) only [sn45, sqW_nrm, sqW_exit, sqW_ret, inBlk_nrm, inBlk_ret, inBlk_same, inBlk_exit, if_true, if_false, retW_nrm, retW_ret]) | (with_reducible refine n45_16_w _ _ _ ?_) | (with_reducible refine n45_21_w _ _ _ ?_) | (with_reducible refine n45_30_w _ _ _ ?_) | (with_reducible refine n45_2_w _ _ _ ?_))
      refine ⟨by simp [oneOrTuple], x2, ?_, kk⟩
      have e : l ++ actB a = _ := rfl
      simp only [actB, when_, f1, f2, f3, f4, f5, f6, ciB, textB, accB, if_true, if_false, Bool.false_eq_true, List.append_nil, ← List.append_assoc]
      exact hw
  · as_aux_lemma =>
    rintro ⟨v, h2⟩ ⟨rfl, x2, hw, k2⟩
    have bt := bt.keep k2 at_
    have bp := bp.keep k2 ap
    have at_ := at_.step k2
    have ap := ap.step k2
    have cl := cl.step k2
    have kk := kk.trans k2
    have b0 : blkAt h2 h.length 0 = some ⟨eAct a vt vp, 0, .own⟩ := cl.blk 0 rfl
    have b1 : blkAt h2 (h.length + 1) 0 = some ⟨hasV a.kind, 0, .own⟩ := cl.blk 1 rfl
    try unfold wp
    unfold hasV at b1
    repeat' (first | ((with_reducible apply evs_of); (focus ((conv => lhs; simp (disch := omega) [g0, b0, b1, ta, f1, f2, f3, f4, f5, f6]); done)); try dsimp only) | ((with_reducible apply cndW_T); (focus (simp (disch := omega) [g0, b0, b1, ta, f1, f2, f3, f4, f5, f6] <;> omega))) | ((with_reducible apply cndW_F); (focus (simp (disch := omega) [g0, b0, b1, ta, f1, f2, f3, f4, f5, f6] <;> omega))) | ((with_reducible apply stabP_i); (focus (simp (disch := omega) [g0, b0, b1, ta, f1, f2, f3, f4, f5, f6]; done))) | (with_reducible apply wL_i) | ((with_reducible apply SpecA_i); (focus ((conv => lhs; simp (disch := omega) [g0, b0, b1, ta, f1, f2, f3, f4, f5, f6]); done))) | ((with_reducible apply stabA_i); (focus ((conv => lhs; simp (disch := omega) [g0, b0, b1, ta, f1, f2, f3, f4, f5, f6]); done))) | ((with_reducible apply stabA_fn); (focus ((conv => lhs; simp (disch := omega) [g0, b0, b1, ta, f1, f2, f3, f4, f5, f6]); done))) | ((with_reducible apply stab_do); (focus (simp (disch := omega) [g0, b0, b1, ta, f1, f2, f3, f4, f5, f6]; done))) | (simp (decide := true) only [sn45, sqW_nrm, sqW_exit, sqW_ret, inBlk_nrm, inBlk_ret, inBlk_same, inBlk_exit, if_true, if_false, retW_nrm, retW_ret]) | (with_reducible refine n45_16_w _ _ _ ?_) | (with_reducible refine n45_21_w _ _ _ ?_) | (with_reducible refine n45_30_w _ _ _ ?_) | (with_reducible refine n45_2_w _ _ _ ?_))
    refine SpecQ.step (c40 hw bt at_ ht (by simp [beN_len, Pt.h]; omega)) ?_
    as_aux_lemma =>
      rintro ⟨v, h2⟩ ⟨rfl, x2, hw, k2⟩
      have bt := bt.keep k2 at_
      have bp := bp.keep k2 ap
      have at_ := at_.step k2
      have ap := ap.step k2
      have cl := cl.step k2
      have kk := kk.trans k2
      have b0 : blkAt h2 h.length 0 = some ⟨eAct a vt vp, 0, .own⟩ := cl.blk 0 rfl
      have b1 : blkAt h2 (h.length + 1) 0 = some ⟨hasV a.kind, 0, .own⟩ := cl.blk 1 rfl
      try unfold wp
      unfold hasV at b1
      repeat' (first | ((with_reducible apply evs_of); (focus ((conv => lhs; simp (disch := omega) [g0, b0, b1, ta, f1, f2, f3, f4, f5, f6]); done)); try dsimp only) | ((with_reducible apply cndW_T); (focus (simp (disch := omega) [g0, b0, b1, ta, f1, f2, f3, f4, f5, f6] <;> omega))) | ((with_reducible apply cndW_F); (focus (simp (disch := omega) [g0, b0, b1, ta, f1, f2, f3, f4, f5, f6] <;> omega))) | ((with_reducible apply stabP_i); (focus (simp (disch := omega) [g0, b0, b1, ta, f1, f2, f3, f4, f5, f6]; done))) | (with_reducible apply wL_i) | ((with_reducible apply SpecA_i); (focus ((conv => lhs; simp (disch := omega) [g0, b0, b1, ta, f1, f2, f3, f4, f5, f6]); done))) | ((with_reducible apply stabA_i); (focus ((conv => lhs; simp (disch := omega) [g0, b0, b1, ta, f1, f2, f3, f4, f5, f6]); done))) | ((with_reducible apply stabA_fn); (focus ((conv => lhs; simp (disch := omega) [g0, b0, b1, ta, f1, f2, f3, f4, f5, f6]); done))) | ((with_reducible apply stab_do); (focus (simp (disch := omega) [g0, b0, b1, ta, f1, f2, f3, f4, f5, f6]; done))) | (simp (decide := true) only [sn45, sqW_nrm, sqW_exit, sqW_ret, inBlk_nrm, inBlk_ret, inBlk_same, inBlk_exit, if_true, if_false, retW_nrm, retW_ret]) | (with_reducible refine n45_16_w _ _ _ ?_) | (with_reducible refine n45_21_w _ _ _ ?_) | (with_reducible refine n45_30_w _ _ _ ?_) | (with_reducible refine n45_2_w _ _ _ ?_))
      refine ⟨by simp [oneOrTuple], x2, ?_, kk⟩
      have e : l ++ actB a = _ := rfl
      simp only [actB, when_, f1, f2, f3, f4, f5, f6, ciB, textB, accB, if_true, if_false, Bool.false_eq_true, List.append_nil, ← List.append_assoc]
      exact hw
  · as_aux_lemma =>
    rintro ⟨v, h2⟩ ⟨rfl, x2, hw, k2⟩
    have bt := bt.keep k2 at_
    have bp := bp.keep k2 ap
    have at_ := at_.step k2
    have ap := ap.step k2
    have cl := cl.step k2
    have kk := kk.trans k2
    have b0 : blkAt h2 h.length 0 = some ⟨eAct a vt vp, 0, .own⟩ := cl.blk 0 rfl
    have b1 : blkAt h2 (h.length + 1) 0 = some ⟨hasV a.kind, 0, .own⟩ := cl.blk 1 rfl
    try unfold wp
    unfold hasV at b1
    repeat' (first | ((with_reducible apply evs_of); (focus ((conv => lhs; simp (disch := omega) [g0, b0, b1, ta, f1, f2, f3, f4, f5, f6]); done)); try dsimp only) | ((with_reducible apply cndW_T); (focus (simp (disch := omega) [g0, b0, b1, ta, f1, f2, f3, f4, f5, f6] <;> omega))) | ((with_reducible apply cndW_F); (focus (simp (disch := omega) [g0, b0, b1, ta, f1, f2, f3, f4, f5, f6] <;> omega))) | ((with_reducible apply stabP_i); (focus (simp (disch := omega) [g0, b0, b1, ta, f1, f2, f3, f4, f5, f6]; done))) | (with_reducible apply wL_i) | ((with_reducible apply SpecA_i); (focus ((conv => lhs; simp (disch := omega) [g0, b0, b1, ta, f1, f2, f3, f4, f5, f6]); done))) | ((with_reducible apply stabA_i); (focus ((conv => lhs; simp (disch := omega) [g0, b0, b1, ta, f1, f2, f3, f4, f5, f6]); done))) | ((with_reducible apply stabA_fn); (focus ((conv => lhs; simp (disch := omega) [g0, b0, b1, ta, f1, f2, f3, f4, f5, f6]); done))) | ((with_reducible apply stab_do); (focus (simp (disch := omega) [g0, b0, b1, ta, f1, f2, f3, f4, f5, f6]; done))) | (simp (decide := true) only [sn45, sqW_nrm, sqW_exit, sqW_ret, inBlk_nrm, inBlk_ret, inBlk_same, inBlk_exit, if_true, if_false, retW_nrm, retW_ret]) | (with_reducible refine n45_16_w _ _ _ ?_) | (with_reducible refine n45_21_w _ _ _ ?_) | (with_reducible refine n45_30_w _ _ _ ?_) | (with_reducible refine n45_2_w _ _ _ ?_))
    refine SpecQ.step (c41 hw (by simp [beN_len, Pt.h]; omega)) ?_
    as_aux_lemma =>
      rintro ⟨v, h2⟩ ⟨rfl, x2, hw, k2⟩
      have bt := bt.keep k2 at_
      have bp := bp.keep k2 ap
      have at_ := at_.step k2
      have ap := ap.step k2
      have cl := cl.step k2
      have kk := kk.trans k2
      have b0 : blkAt h2 h.length 0 = some ⟨eAct a vt vp, 0, .own⟩ := cl.blk 0 rfl
      have b1 : blkAt h2 (h.length + 1) 0 = some ⟨hasV a.kind, 0, .own⟩ := cl.blk 1 rfl
      try unfold wp
      unfold hasV at b1
      repeat' (first | ((with_reducible apply evs_of); (focus ((conv => lhs; simp (disch := omega) [g0, b0, b1, ta, f1, f2, f3, f4, f5, f6]); done)); try dsimp only) | ((with_reducible apply cndW_T); (focus (simp (disch := omega) [g0, b0, b1, ta, f1, f2, f3, f4, f5, f6] <;> omega))) | ((with_reducible apply cndW_F); (focus (simp (disch := omega) [g0, b0, b1, ta, f1, f2, f3, f4, f5, f6] <;> omega))) | ((with_reducible apply stabP_i); (focus (simp (disch := omega) [g0, b0, b1, ta, f1, f2, f3, f4, f5, f6]; done))) | (with_reducible apply wL_i) | ((with_reducible apply SpecA_i); (focus ((conv => lhs; simp (disch := omega) [g0, b0, b1, ta, f1, f2, f3, f4, f5, f6]); done))) | ((with_reducible apply stabA_i); (focus ((conv => lhs; simp (disch := omega) [g0, b0, b1, ta, f1, f2, f3, f4, f5, f6]); done))) | ((with_reducible apply stabA_fn); (focus ((conv => lhs; simp (disch := omega) [g0, b0, b1, ta, f1, f2, f3, f4, f5, f6]); done))) | ((with_reducible apply stab_do); (focus (simp (disch := omega) [g0, b0, b1, ta, f1, f2, f3, f4, f5, f6]; done))) | (simp (decide := true) only [sn45, sqW_nrm, sqW_exit, sqW_ret, inBlk_nrm, inBlk_ret, inBlk_same, inBlk_exit, if_true, if_false, retW_nrm, retW_ret]) | (with_reducible refine n45_16_w _ _ _ ?_) | (with_reducible refine n45_21_w _ _ _ ?_) | (with_reducible refine n45_30_w _ _ _ ?_) | (with_reducible refine n45_2_w _ _ _ ?_))
      refine ⟨by simp [oneOrTuple], x2, ?_, kk⟩
      have e : l ++ actB a = _ := rfl
      simp only [actB, when_, f1, f2, f3, f4, f5, f6, ciB, textB, accB, if_true, if_false, Bool.false_eq_true, List.append_nil, ← List.append_assoc]
      exact hw
  · as_aux_lemma =>
    rintro ⟨v, h2⟩ ⟨rfl, x2, hw, k2⟩
    have bt := bt.keep k2 at_
    have bp := bp.keep k2 ap
    have at_ := at_.step k2
    have ap := ap.step k2
    have cl := cl.step k2
    have kk := kk.trans k2
    have b0 : blkAt h2 h.length 0 = some ⟨eAct a vt vp, 0, .own⟩ := cl.blk 0 rfl
    have b1 : blkAt h2 (h.length + 1) 0 = some ⟨hasV a.kind, 0, .own⟩ := cl.blk 1 rfl
    try unfold wp
    unfold hasV at b1
    repeat' (first | ((with_reducible apply evs_of); (focus ((conv => lhs; simp (disch := omega) [g0, b0, b1, ta, f1, f2, f3, f4, f5, f6]); done)); try dsimp only) | ((with_reducible apply cndW_T); (focus (simp (disch := omega) [g0, b0, b1, ta, f1, f2, f3, f4, f5, f6] <;> omega))) | ((with_reducible apply cndW_F); (focus (simp (disch := omega) [g0, b0, b1, ta, f1, f2, f3, f4, f5, f6] <;> omega))) | ((with_reducible apply stabP_i); (focus (simp (disch := omega) [g0, b0, b1, ta, f1, f2, f3, f4, f5, f6]; done))) | (with_reducible apply wL_i) | ((with_reducible apply SpecA_i); (focus ((conv => lhs; simp (disch := omega) [g0, b0, b1, ta, f1, f2, f3, f4, f5, f6]); done))) | ((with_reducible apply stabA_i); (focus ((conv => lhs; simp (disch := omega) [g0, b0, b1, ta, f1, f2, f3, f4, f5, f6]); done))) | ((with_reducible apply stabA_fn); (focus ((conv => lhs; simp (disch := omega) [g0, b0, b1, ta, f1, f2, f3, f4, f5, f6]); done))) | ((with_reducible apply stab_do); (focus (simp (disch := omega) [g0, b0, b1, ta, f1, f2, f3, f4, f5, f6]; done))) | (simp (decide := true) only [sn45, sqW_nrm, sqW_exit, sqW_ret, inBlk_nrm, inBlk_ret, inBlk_same, inBlk_exit, if_true, if_false, retW_nrm, retW_ret]) | (with_reducible refine n45_16_w _ _ _ ?_) | (with_reducible refine n45_21_w _ _ _ ?_) | (with_reducible refine n45_30_w _ _ _ ?_) | (with_reducible refine n45_2_w _ _ _ ?_))
    refine ⟨by simp [oneOrTuple], x2, ?_, kk⟩
    have e : l ++ actB a = _ := rfl
    simp only [actB, when_, f1, f2, f3, f4, f5, f6, ciB, textB, accB, if_true, if_false, Bool.false_eq_true, List.append_nil, ← List.append_assoc]
    exact hw

end Go.Vab

/- How the code of a function is read. Printed by wip/tools/gen2.py (own work). -/
namespace Go.Vab
open Go Go.Proofs
/-! vestry/vestrylaw18.known -/
def cx7 : Ctx := ⟨fun _ _ _ => none, TT, 15, [3, 4, 5, 6, 7, 8, 9, 10, 11, 12, 13, 14]⟩
noncomputable def n7_0 : Code := bodyOf Try.f7
noncomputable def n7_1 : Code := cR n7_0
noncomputable def n7_2 : Code := cR n7_1
noncomputable def n7_3 : Code := cR n7_2
theorem n7_3_eq (Q : Ex × St → Prop) (s : St) : wC Try.prog cx7 n7_3 Q s = Q (.ret, s) := yE
theorem n7_2_eq (Q : Ex × St → Prop) (env : Env) (h : Heap) : wC Try.prog cx7 n7_2 Q ⟨env, h⟩ = (Evs (mBin .eql (env.get 2) (nat 0)) fun v1 => Evs (gv v1 true (some (env.get 1))) fun v3 => Evs (gv v1 true (mStr v3 h)) fun v4 => Evs (gv v1 true (mBinT .eql v4 (.str { data := #[0, 0, 0, 3, 4] }))) fun v5 => Evs (mPick v1 v5 (.bool false)) fun v6 => wC Try.prog cx7 n7_3 Q ⟨(Env.put env 0 v6), h⟩) := (ySR 2 (cOps (cL n7_2)) (cR n7_2)).trans (by
  refine w0 ?_
  refine wT 8 (env.get 2) ?_
  refine wP 9 fun v1 => ?_
  refine wT 10 v1 ?_
  refine wG 11 fun v3 => ?_
  refine wG 12 fun v4 => ?_
  refine wG 13 fun v5 => ?_
  refine wP 14 fun v6 => ?_
  refine wT 0 v6 ?_
  exact wE)
theorem n7_1_eq (Q : Ex × St → Prop) (env : Env) (h : Heap) : wC Try.prog cx7 n7_1 Q ⟨env, h⟩ = (Evs (fillRow tAction (.node [(u32 0#32), (u8 0#8), (.node [(arr 32 fun _ => 0#8), (arr 32 fun _ => 0#8)]), (arr 32 fun _ => 0#8), (u8 0#8), .nilslice, (.node [(u8 0#8), (u8 0#8), (u8 0#8)]), .nilslice]) [(0, (u32 3#32)), (1, (u8 4#8))]) fun v0 => SpecA Try.prog 22 [v0] h fun r1 => Evs (mExtract r1.1 0) fun v3 => Evs (mExtract r1.1 1) fun v4 => wC Try.prog cx7 n7_2 Q ⟨(Env.put (Env.put env 1 v3) 2 v4), r1.2⟩) := (ySR 1 (cOps (cL n7_1)) (cR n7_1)).trans (by
  refine w0 ?_
  refine wP 4 fun v0 => ?_
  refine wH 5 fun r1 => ?_
  refine wT 3 r1.1 ?_
  refine wP 6 fun v3 => ?_
  refine wP 7 fun v4 => ?_
  refine wT 1 v3 ?_
  refine wT 2 v4 ?_
  exact wE)
theorem n7_0_eq (Q : Ex × St → Prop) (env : Env) (h : Heap) : wC Try.prog cx7 n7_0 Q ⟨env, h⟩ = ( wC Try.prog cx7 n7_1 Q ⟨(Env.put env 0 (.bool false)), h⟩) := (ySR 0 (cOps (cL n7_0)) (cR n7_0)).trans (by
  refine w0 ?_
  refine wT 0 (.bool false) ?_
  exact wE)
theorem fn7 : Try.prog.funcs[7]? = some Try.f7 := by kernel_rfl
theorem q7 {h : Heap} {K : AV × Heap → Prop} (H : ∀ env : Env, wC Try.prog cx7 n7_0 (retW (fun s => (bnd (some (s.env.get 0)) fun v => bnd (some []) fun vs => some (v :: vs))) K) ⟨env, h⟩) : SpecQ Try.prog 7 [] h K :=
  bodyW_sound (C := cx7) TT_ok mixed_ok fn7 (by kernel_rfl) (show _ = some n7_0 by kernel_rfl) (by kernel_rfl) (by kernel_rfl) (of_decide_eq_true (by kernel_rfl)) ((show wC Try.prog cx7 n7_0 (retW (fun s => resAll cx7 s Try.f7.results.toList) K) ⟨env0 cx7 [], h⟩ = wC Try.prog cx7 n7_0 (retW (fun s => (bnd (some (s.env.get 0)) fun v => bnd (some []) fun vs => some (v :: vs))) K) ⟨[(0, .junk), (1, .junk), (2, .junk)], h⟩ by kernel_rfl).mpr (H [(0, .junk), (1, .junk), (2, .junk)]))
def sn7 := And.intro n7_3_eq (And.intro n7_2_eq (And.intro n7_1_eq (n7_0_eq)))
-- draws: 
end Go.Vab

/-
  An action's form; the known one.
-/
namespace Go.Vab
open Go Go.Proofs

theorem BytL.rb_lt {h : Heap} {y : AV} {m : Bs} (hy : BytL h y m) : ∀ b, rb y = some b → b < h.length := by
  intro b hb
  cases y with
  | slice b' ver path t off len cap =>
    cases hb
    have h1 := hy.1.1
    simp only [mElems] at h1
    split at h1
    · obtain ⟨bb, g1, g2⟩ := bnd_eq_some.1 h1
      exact (List.getElem?_eq_some_iff.1 (blkAt_spec g1).1).1
    · cases h1
  | _ => cases hb
theorem KeepW.pre {h h' : Heap} {wc : Nat} {x x' : AV} (k : KeepW h h' wc x x') (n : Nat) (hn : n ≤ h.length) (h1 : n ≤ wc) (h2 : ∀ b, rb x = some b → n ≤ b) : ∃ t, h' = h.take n ++ t := by
  refine ⟨h'.drop n, ?_⟩
  have e : h'.take n = h.take n := by
    apply List.ext_getElem?
    intro i
    by_cases hi : i < n
    · rw [List.getElem?_take_of_lt hi, List.getElem?_take_of_lt hi]
      have hg : h[i]? = some h[i] := List.getElem?_eq_getElem (by omega)
      rw [hg]
      exact k.keep i _ hg (by omega) fun e => by have := h2 i e; omega
    · rw [List.getElem?_eq_none (by simp; omega), List.getElem?_eq_none (by simp; omega)]
  rw [← e, List.take_append_drop]

theorem mayA_len {a : Actn} (h : mayA a = true) : a.title.length ≤ 60000 ∧ a.pass.length ≤ 60000 := by
  simp only [mayA, Bool.and_eq_true, Bool.or_eq_true, Bool.not_eq_true', Bool.or_eq_false_iff, decide_eq_true_eq, decide_eq_false_iff_not] at h
  omega

theorem c22 {h : Heap} {a : Actn} {vt vp : AV} (ra : ActR h a vt vp) (hm : mayA a = true) :
    SpecQ Try.prog 22 [eAct a vt vp] h fun r => ∃ y t, r = (.tuple [y, nat 0], h ++ t) ∧ BytL (h ++ t) y (actB a) := by
  have ta := ra.cells
  refine q22 fun env g0 => ?_
  repeat' (first | ((with_reducible apply evs_of); (focus ((conv => lhs; simp (disch := omega) [g0, ta, hm]); done)); try dsimp only) | ((with_reducible apply cndW_T); (focus (simp (disch := omega) [g0, ta, hm] <;> omega))) | ((with_reducible apply cndW_F); (focus (simp (disch := omega) [g0, ta, hm] <;> omega))) | (with_reducible apply wL_i) | (with_reducible refine SpecQ.step (c44 (ra.app _)) ?_; rintro _ rfl; try dsimp only) | ((with_reducible apply SpecA_i); (focus ((conv => lhs; simp (disch := omega) [g0, ta, hm]); done))) | (simp (decide := true) only [sn22, sqW_nrm, sqW_exit, sqW_ret, inBlk_nrm, inBlk_ret, inBlk_same, inBlk_exit, if_true, if_false, retW_nrm, retW_ret]))
  have fw : ∀ n : Nat, n = h.length + 1 → Wx (h ++ [⟨eAct a vt vp, 0, .own⟩, ⟨wV .nilslice, 0, .own⟩]) n .nilslice [] := fun n hn => ⟨by rw [hn, List.getElem?_append_right (by omega)]; simp, by simp, .inl ⟨rfl, rfl⟩⟩
  have fa : ∀ {y : AV} {m : Bs}, BytL h y m → Ap (h ++ [⟨eAct a vt vp, 0, .own⟩, ⟨wV .nilslice, 0, .own⟩]) y (h.length + 1) .nilslice := fun hy b hb => by
    have := hy.rb_lt b hb
    exact ⟨by simp; omega, by omega, fun e => by cases e⟩
  refine SpecQ.step (c45 (fw _ rfl) (ra.app _) (fa ra.t) (fa ra.p) (mayA_len hm).1 (mayA_len hm).2 (by simp)) ?_
  rintro ⟨v, h2⟩ ⟨rfl, x2, hw, k2⟩
  have hp := k2.pre h.length (by simp) (by omega) (fun b hb => by cases hb)
  simp only [List.take_left'] at hp
  obtain ⟨t, rfl⟩ := hp
  repeat' (first | ((with_reducible apply evs_of); (focus ((conv => lhs; simp (disch := omega) [g0]); done)); try dsimp only) | ((with_reducible apply cndW_T); (focus (simp (disch := omega) [g0] <;> omega))) | ((with_reducible apply cndW_F); (focus (simp (disch := omega) [g0] <;> omega))) | (with_reducible apply wL_i) | ((with_reducible apply SpecA_i); (focus ((conv => lhs; simp (disch := omega) [g0]); done))) | (simp (decide := true) only [sn22, sqW_nrm, sqW_exit, sqW_ret, inBlk_nrm, inBlk_ret, inBlk_same, inBlk_exit, if_true, if_false, retW_nrm, retW_ret]))
  refine SpecQ.step (c43 hw) ?_
  rintro ⟨v, h2⟩ ⟨y, t2, e, hy⟩
  cases e
  repeat' (first | ((with_reducible apply evs_of); (focus ((conv => lhs; simp (disch := omega) [g0]); done)); try dsimp only) | ((with_reducible apply cndW_T); (focus (simp (disch := omega) [g0] <;> omega))) | ((with_reducible apply cndW_F); (focus (simp (disch := omega) [g0] <;> omega))) | (with_reducible apply wL_i) | ((with_reducible apply SpecA_i); (focus ((conv => lhs; simp (disch := omega) [g0]); done))) | (simp (decide := true) only [sn22, sqW_nrm, sqW_exit, sqW_ret, inBlk_nrm, inBlk_ret, inBlk_same, inBlk_exit, if_true, if_false, retW_nrm, retW_ret]))
  exact ⟨y, t ++ t2, by simp [oneOrTuple], by rw [← List.append_assoc]; exact hy⟩

theorem c22n {h : Heap} {a : Actn} {vt vp : AV} (ra : ActR h a vt vp) (hm : mayA a = false) :
    SpecQ Try.prog 22 [eAct a vt vp] h fun r => r = (.tuple [.nilslice, nat 2], h) := by
  have ta := ra.cells
  refine SpecQ.drop1 rfl (q22 fun env g0 => ?_)
  repeat' (first | ((with_reducible apply evs_of); (focus ((conv => lhs; simp (disch := omega) [g0, ta, hm]); done)); try dsimp only) | ((with_reducible apply cndW_T); (focus (simp (disch := omega) [g0, ta, hm] <;> omega))) | ((with_reducible apply cndW_F); (focus (simp (disch := omega) [g0, ta, hm] <;> omega))) | (with_reducible apply wL_i) | (with_reducible refine SpecQ.step (c44 (ra.app _)) ?_; rintro _ rfl; try dsimp only) | ((with_reducible apply SpecA_i); (focus ((conv => lhs; simp (disch := omega) [g0, ta, hm]); done))) | (simp (decide := true) only [sn22, sqW_nrm, sqW_exit, sqW_ret, inBlk_nrm, inBlk_ret, inBlk_same, inBlk_exit, if_true, if_false, retW_nrm, retW_ret]))
  exact ⟨_, by simp [oneOrTuple]; rfl⟩

/-- The known action. -/
def aK : Actn := ⟨3#32, 4#8, ci0, pt0, 0#8, [], acc0, []⟩
theorem aK_R (h : Heap) : ActR h aK .nilslice .nilslice := ⟨BytL.nil _, BytL.nil _⟩

theorem fillK : fillRow tAction (AV.node [u32 0#32, u8 0#8, AV.node [arr 32 fun _ => 0#8, arr 32 fun _ => 0#8], arr 32 fun _ => 0#8, u8 0#8, AV.nilslice, AV.node [u8 0#8, u8 0#8, u8 0#8], AV.nilslice]) [(0, u32 3#32), (1, u8 4#8)] = some (eAct aK .nilslice .nilslice) := by kernel_rfl
theorem mayK : mayA aK = true := by decide
theorem actK : strL (actB aK) = { data := #[0, 0, 0, 3, 4] } := by decide

theorem eqK : mBinT .eql (.str { data := #[0, 0, 0, 3, 4] }) (.str { data := #[0, 0, 0, 3, 4] }) = some (.bool true) := by kernel_rfl

theorem c7 {h : Heap} : SpecQ Try.prog 7 [] h fun r => r = (.bool true, h) := by
  refine SpecQ.drop1 rfl (q7 fun env => ?_)
  repeat' (first | ((with_reducible apply evs_of); (focus ((conv => lhs; simp (disch := omega) [True]); done)); try dsimp only) | ((with_reducible apply SpecA_i); (focus ((conv => lhs; simp (disch := omega) [True]); done))) | (simp (decide := true) only [sn7, sqW_nrm, sqW_exit, sqW_ret, inBlk_nrm, inBlk_ret, inBlk_same, inBlk_exit, if_true, if_false, retW_nrm, retW_ret]))
  refine evs_of fillK ?_
  repeat' (first | ((with_reducible apply evs_of); (focus ((conv => lhs; simp (disch := omega) [True]); done)); try dsimp only) | ((with_reducible apply SpecA_i); (focus ((conv => lhs; simp (disch := omega) [True]); done))) | (simp (decide := true) only [sn7, sqW_nrm, sqW_exit, sqW_ret, inBlk_nrm, inBlk_ret, inBlk_same, inBlk_exit, if_true, if_false, retW_nrm, retW_ret]))
  refine SpecQ.step (c22 (aK_R _) mayK) ?_
  rintro ⟨v, h2⟩ ⟨y, t, e, hy⟩
  cases e
  have sy := hy.str
  rw [actK] at sy
  repeat' (first | ((with_reducible apply evs_of); (focus ((conv => lhs; simp (disch := omega) [sy, eqK]); done)); try dsimp only) | ((with_reducible apply SpecA_i); (focus ((conv => lhs; simp (disch := omega) [sy, eqK]); done))) | (simp (decide := true) only [sn7, sqW_nrm, sqW_exit, sqW_ret, inBlk_nrm, inBlk_ret, inBlk_same, inBlk_exit, if_true, if_false, retW_nrm, retW_ret]))
  exact ⟨t, by simp [oneOrTuple]⟩

end Go.Vab

/-
  The forms tell actions and states apart: plain law.
-/
namespace Go.Vab
open Go

theorem beN1 (x : BitVec 8) : beN (x.setWidth 64) 1 = [x] := by
  have e : beN (x.setWidth 64) 1 = [((x.setWidth 64) >>> 0).setWidth 8] := rfl
  rw [e]
  congr 1
  apply BitVec.eq_of_toNat_eq
  have := x.isLt
  simp [BitVec.toNat_setWidth]
theorem beN_four (n : BitVec 64) : beN n 4 = [(n >>> 24).setWidth 8, (n >>> 16).setWidth 8, (n >>> 8).setWidth 8, (n >>> 0).setWidth 8] := rfl
theorem beN_two (n : BitVec 64) : beN n 2 = [(n >>> 8).setWidth 8, (n >>> 0).setWidth 8] := rfl
theorem beN_length (n : BitVec 64) (k : Nat) : (beN n k).length = k := by simp [beN]
theorem beN4_inj {x y : BitVec 32} (h : beN (x.setWidth 64) 4 = beN (y.setWidth 64) 4) : x = y := by
  rw [beN_four, beN_four] at h
  simp only [List.cons.injEq, and_true] at h
  obtain ⟨h1, h2, h3, h4⟩ := h
  have k1 := congrArg BitVec.toNat h1
  have k2 := congrArg BitVec.toNat h2
  have k3 := congrArg BitVec.toNat h3
  have k4 := congrArg BitVec.toNat h4
  simp only [BitVec.toNat_setWidth, BitVec.toNat_ushiftRight, Nat.shiftRight_eq_div_pow] at k1 k2 k3 k4
  have hx := x.isLt
  have hy := y.isLt
  rw [Nat.mod_eq_of_lt (a := x.toNat) (by omega), Nat.mod_eq_of_lt (a := y.toNat) (by omega)] at k1 k2 k3 k4
  apply BitVec.eq_of_toNat_eq
  omega
theorem beN2_inj {m n : Nat} (hm : m ≤ 60000) (hn : n ≤ 60000) (h : beN (BitVec.ofNat 64 m) 2 = beN (BitVec.ofNat 64 n) 2) : m = n := by
  rw [beN_two, beN_two] at h
  simp only [List.cons.injEq, and_true] at h
  obtain ⟨h1, h2⟩ := h
  have k1 := congrArg BitVec.toNat h1
  have k2 := congrArg BitVec.toNat h2
  simp only [BitVec.toNat_setWidth, BitVec.toNat_ushiftRight, Nat.shiftRight_eq_div_pow, BitVec.toNat_ofNat] at k1 k2
  rw [Nat.mod_eq_of_lt (a := m) (by omega), Nat.mod_eq_of_lt (a := n) (by omega)] at k1 k2
  omega
theorem beL1_inj {m n : Nat} (hm : m ≤ 255) (hn : n ≤ 255) (h : beN (BitVec.ofNat 64 m) 1 = beN (BitVec.ofNat 64 n) 1) : m = n := by
  have e : ∀ x : BitVec 64, beN x 1 = [(x >>> 0).setWidth 8] := fun _ => rfl
  rw [e, e] at h
  simp only [List.cons.injEq, and_true] at h
  have k2 := congrArg BitVec.toNat h
  simp only [BitVec.toNat_setWidth, BitVec.toNat_ushiftRight, Nat.shiftRight_eq_div_pow, BitVec.toNat_ofNat] at k2
  rw [Nat.mod_eq_of_lt (a := m) (by omega), Nat.mod_eq_of_lt (a := n) (by omega)] at k2
  omega

theorem text_inj {a b r s : Bs} (ha : a.length ≤ 60000) (hb : b.length ≤ 60000) (h : textB a ++ r = textB b ++ s) : a = b ∧ r = s := by
  unfold textB at h
  rw [List.append_assoc, List.append_assoc] at h
  obtain ⟨h1, h2⟩ := List.append_inj h (by rw [beN_length, beN_length])
  exact List.append_inj h2 (beN2_inj ha hb h1)
theorem ci_inj {a b : Ci} {r s : Bs} (h : ciB a ++ r = ciB b ++ s) : a = b ∧ r = s := by
  unfold ciB at h
  rw [List.append_assoc, List.append_assoc] at h
  obtain ⟨h1, h2⟩ := List.append_inj h (by rw [a.e.h, b.e.h])
  obtain ⟨h3, h4⟩ := List.append_inj h2 (by rw [a.f.h, b.f.h])
  refine ⟨?_, h4⟩
  have k1 := Pt.ext' h1
  have k2 := Pt.ext' h3
  cases a; cases b
  dsimp only at k1 k2
  rw [k1, k2]
theorem pt_inj' {a b : Pt} {r s : Bs} (h : a.l ++ r = b.l ++ s) : a = b ∧ r = s := by
  obtain ⟨h1, h2⟩ := List.append_inj h (by rw [a.h, b.h])
  exact ⟨Pt.ext' h1, h2⟩
theorem b8_inj {x y : BitVec 8} {r s : Bs} (h : beN (x.setWidth 64) 1 ++ r = beN (y.setWidth 64) 1 ++ s) : x = y ∧ r = s := by
  rw [beN1, beN1] at h
  simpa using h
theorem b32_inj {x y : BitVec 32} {r s : Bs} (h : beN (x.setWidth 64) 4 ++ r = beN (y.setWidth 64) 4 ++ s) : x = y ∧ r = s := by
  obtain ⟨h1, h2⟩ := List.append_inj h (by rw [beN_length, beN_length])
  exact ⟨beN4_inj h1, h2⟩
theorem acc_inj {a b : Acc} {r s : Bs} (h : accB a ++ r = accB b ++ s) : a = b ∧ r = s := by
  unfold accB at h
  simp only [List.append_assoc] at h
  obtain ⟨h1, h⟩ := b8_inj h
  obtain ⟨h2, h⟩ := b8_inj h
  obtain ⟨h3, h⟩ := b8_inj h
  refine ⟨?_, h⟩
  cases a; cases b
  simp_all

theorem when_inj {c : Bool} {x y r s : Bs} {p : Prop} (h : when_ c x ++ r = when_ c y ++ s) (hp : c = true → x ++ r = y ++ s → p ∧ r = s) (hn : c = false → p) : p ∧ r = s := by
  unfold when_ at h
  cases c
  · exact ⟨hn rfl, by simpa using h⟩
  · exact hp rfl (by simpa using h)

theorem actB_inj {a b : Actn} (ha : mayA a = true) (hb : mayA b = true) (h : actB a = actB b) : a = b := by
  have la : a.title.length ≤ 60000 ∧ a.pass.length ≤ 60000 := by
    simp only [mayA, Bool.and_eq_true, Bool.or_eq_true, Bool.not_eq_true', Bool.or_eq_false_iff, decide_eq_true_eq, decide_eq_false_iff_not] at ha
    omega
  have lb : b.title.length ≤ 60000 ∧ b.pass.length ≤ 60000 := by
    simp only [mayA, Bool.and_eq_true, Bool.or_eq_true, Bool.not_eq_true', Bool.or_eq_false_iff, decide_eq_true_eq, decide_eq_false_iff_not] at hb
    omega
  have h' : actB a ++ [] = actB b ++ [] := by rw [h]
  unfold actB at h'
  simp only [List.append_assoc] at h'
  obtain ⟨e1, h'⟩ := b32_inj h'
  obtain ⟨e2, h'⟩ := b8_inj h'
  rw [← e2] at h'
  simp only [mayA, Bool.and_eq_true, Bool.or_eq_true, Bool.not_eq_true', Bool.or_eq_false_iff, decide_eq_true_eq, decide_eq_false_iff_not, Bool.and_eq_false_iff, Bool.not_eq_false', beq_iff_eq] at ha hb
  rw [← e2] at hb
  obtain ⟨e3, h'⟩ := when_inj (p := a.who = b.who) h' (fun _ h => ci_inj h) (fun hc => by
    have h1 := ha.1.1.2.1.1.1
    have h2 := hb.1.1.2.1.1.1
    rw [hc] at h1 h2
    simp at h1 h2
    rw [h1, h2])
  obtain ⟨e4, h'⟩ := when_inj (p := a.e = b.e) h' (fun _ h => pt_inj' h) (fun hc => by
    have h1 := ha.1.1.2.1.1.2
    have h2 := hb.1.1.2.1.1.2
    rw [hc] at h1 h2
    simp at h1 h2
    rw [h1, h2])
  obtain ⟨e5, h'⟩ := when_inj (p := a.role = b.role) h' (fun _ h => b8_inj h) (fun hc => by
    have h1 := ha.1.1.2.2
    have h2 := hb.1.1.2.2
    rw [hc] at h1 h2
    simp at h1 h2
    rw [h1, h2])
  obtain ⟨e6, h'⟩ := when_inj (p := a.title = b.title) h' (fun _ h => text_inj la.1 lb.1 h) (fun hc => by
    have h1 := ha.1.2.1.1
    have h2 := hb.1.2.1.1
    rw [hc] at h1 h2
    simp at h1 h2
    rw [h1, h2])
  obtain ⟨e7, h'⟩ := when_inj (p := a.acc = b.acc) h' (fun _ h => acc_inj h) (fun hc => by
    have h1 := ha.1.2.2
    have h2 := hb.1.2.2
    rw [hc] at h1 h2
    simp at h1 h2
    rw [h1, h2])
  obtain ⟨e8, _⟩ := when_inj (p := a.pass = b.pass) h' (fun _ h => text_inj la.2 lb.2 h) (fun hc => by
    have h1 := ha.2
    have h2 := hb.2
    rw [hc] at h1 h2
    simp at h1 h2
    rw [h1, h2])
  cases a; cases b
  simp_all

/-! states -/
def seatB (s : Seat) : Bs := ciB s.who ++ beN (s.role.setWidth 64) 1 ++ beN (s.joined.setWidth 64) 4
def invB (s : Inv) : Bs := ciB s.who ++ beN (s.role.setWidth 64) 1 ++ ciB s.by_
def askB (s : Ask) : Bs := ciB s.who ++ beN (s.at_.setWidth 64) 4
def banB (s : Ban) : Bs := ciB s.who ++ ciB s.by_
def rowsB {Y : Type} (f : Y → Bs) (l : List Y) : Bs := beN (BitVec.ofNat 64 l.length) 1 ++ (l.map f).flatten
def stB (s : Stt) : Bs := beN (s.version.setWidth 64) 4 ++ ciB s.key ++ textB s.title ++ accB s.acc ++ textB s.pass ++ rowsB seatB s.seats ++ rowsB invB s.invites ++ rowsB askB s.asks ++ rowsB banB s.bans

theorem seat_inj {a b : Seat} {r s : Bs} (h : seatB a ++ r = seatB b ++ s) : a = b ∧ r = s := by
  unfold seatB at h
  simp only [List.append_assoc] at h
  obtain ⟨h1, h⟩ := ci_inj h
  obtain ⟨h2, h⟩ := b8_inj h
  obtain ⟨h3, h⟩ := b32_inj h
  refine ⟨?_, h⟩
  cases a; cases b
  simp_all
theorem inv_inj {a b : Inv} {r s : Bs} (h : invB a ++ r = invB b ++ s) : a = b ∧ r = s := by
  unfold invB at h
  simp only [List.append_assoc] at h
  obtain ⟨h1, h⟩ := ci_inj h
  obtain ⟨h2, h⟩ := b8_inj h
  obtain ⟨h3, h⟩ := ci_inj h
  refine ⟨?_, h⟩
  cases a; cases b
  simp_all
theorem ask_inj {a b : Ask} {r s : Bs} (h : askB a ++ r = askB b ++ s) : a = b ∧ r = s := by
  unfold askB at h
  simp only [List.append_assoc] at h
  obtain ⟨h1, h⟩ := ci_inj h
  obtain ⟨h3, h⟩ := b32_inj h
  refine ⟨?_, h⟩
  cases a; cases b
  simp_all
theorem ban_inj {a b : Ban} {r s : Bs} (h : banB a ++ r = banB b ++ s) : a = b ∧ r = s := by
  unfold banB at h
  simp only [List.append_assoc] at h
  obtain ⟨h1, h⟩ := ci_inj h
  obtain ⟨h3, h⟩ := ci_inj h
  refine ⟨?_, h⟩
  cases a; cases b
  simp_all
theorem flat_inj {Y : Type} {f : Y → Bs} (hf : ∀ {a b : Y} {r s : Bs}, f a ++ r = f b ++ s → a = b ∧ r = s) : ∀ {l m : List Y} {r s : Bs}, l.length = m.length → (l.map f).flatten ++ r = (m.map f).flatten ++ s → l = m ∧ r = s
  | [], [], _, _, _, h => ⟨rfl, by simpa using h⟩
  | a :: l, b :: m, _, _, hl, h => by
    simp only [List.map_cons, List.flatten_cons, List.append_assoc] at h
    obtain ⟨h1, h⟩ := hf h
    obtain ⟨h2, h⟩ := flat_inj hf (by simpa using hl) h
    exact ⟨by rw [h1, h2], h⟩
  | [], _ :: _, _, _, hl, _ => by simp at hl
  | _ :: _, [], _, _, hl, _ => by simp at hl
theorem rows_inj {Y : Type} {f : Y → Bs} (hf : ∀ {a b : Y} {r s : Bs}, f a ++ r = f b ++ s → a = b ∧ r = s) {l m : List Y} {r s : Bs} (hl : l.length ≤ 255) (hm : m.length ≤ 255) (h : rowsB f l ++ r = rowsB f m ++ s) : l = m ∧ r = s := by
  unfold rowsB at h
  simp only [List.append_assoc] at h
  obtain ⟨h1, h⟩ := List.append_inj h (by rw [beN_length, beN_length])
  exact flat_inj hf (beL1_inj hl hm h1) h
/-- What a state must be for its form to tell it. -/
def slimS (s : Stt) : Prop := s.title.length ≤ 60000 ∧ s.pass.length ≤ 60000 ∧ s.seats.length ≤ 40 ∧ s.invites.length ≤ 40 ∧ s.asks.length ≤ 40 ∧ s.bans.length ≤ 40
theorem stB_inj {a b : Stt} (ha : slimS a) (hb : slimS b) (h : stB a = stB b) : a = b := by
  obtain ⟨a1, a2, a3, a4, a5, a6⟩ := ha
  obtain ⟨b1, b2, b3, b4, b5, b6⟩ := hb
  have h' : stB a ++ [] = stB b ++ [] := by rw [h]
  unfold stB at h'
  simp only [List.append_assoc] at h'
  obtain ⟨e1, h'⟩ := b32_inj h'
  obtain ⟨e2, h'⟩ := ci_inj h'
  obtain ⟨e3, h'⟩ := text_inj a1 b1 h'
  obtain ⟨e4, h'⟩ := acc_inj h'
  obtain ⟨e5, h'⟩ := text_inj a2 b2 h'
  obtain ⟨e6, h'⟩ := rows_inj seat_inj (by omega) (by omega) h'
  obtain ⟨e7, h'⟩ := rows_inj inv_inj (by omega) (by omega) h'
  obtain ⟨e8, h'⟩ := rows_inj ask_inj (by omega) (by omega) h'
  obtain ⟨e9, h'⟩ := rows_inj ban_inj (by omega) (by omega) h'
  cases a; cases b
  simp_all

end Go.Vab
