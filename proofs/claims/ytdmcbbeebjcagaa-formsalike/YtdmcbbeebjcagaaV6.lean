/- How the code of a function is read. Printed by wip/tools/gen2.py (own work). -/
import Derived.Test.YtdmcbbeebjcagaaV4
import Derived.Test.YtdmcbbeebjcagaaV5
import Derived.Test.YtdmcbbeebjcagaaV3
set_option linter.all false
set_option linter.unusedSectionVars false
namespace Go.Vab
open Go Go.Proofs
/-! vestry/vestryref18.sameDeltas -/
def cx33 : Ctx := ⟨fun _ _ _ => none, TT, 27, [6, 7, 8, 9, 11, 12, 13, 15, 16, 17, 18, 19, 20, 21, 22, 23, 24, 25]⟩
noncomputable def n33_0 : Code := bodyOf Try.f33
noncomputable def n33_1 : Code := cR n33_0
noncomputable def n33_2 : Code := cL n33_1
noncomputable def n33_3 : Code := cR n33_2
noncomputable def n33_4 : Code := cL n33_3
noncomputable def n33_5 : Code := cR n33_4
noncomputable def n33_6 : Code := cR n33_3
noncomputable def n33_7 : Code := cR n33_1
noncomputable def n33_8 : Code := cL n33_7
noncomputable def n33_9 : Code := cR n33_8
noncomputable def n33_10 : Code := cB n33_9
noncomputable def n33_11 : Code := cB n33_10
noncomputable def n33_12 : Code := cL n33_11
noncomputable def n33_13 : Code := cR n33_12
noncomputable def n33_14 : Code := cL n33_13
noncomputable def n33_15 : Code := cR n33_13
noncomputable def n33_16 : Code := cR n33_11
noncomputable def n33_17 : Code := cL n33_16
noncomputable def n33_18 : Code := cB n33_17
noncomputable def n33_19 : Code := cR n33_18
noncomputable def n33_20 : Code := cL n33_19
noncomputable def n33_21 : Code := cR n33_20
noncomputable def n33_22 : Code := cR n33_19
noncomputable def n33_23 : Code := cR n33_16
noncomputable def n33_24 : Code := cR n33_7
noncomputable def n33_25 : Code := cR n33_24
theorem n33_5_eq (Q : Ex × St → Prop) (s : St) : wC Try.prog cx33 n33_5 Q s = Q (.ret, s) := yE
theorem n33_4_eq (Q : Ex × St → Prop) (env : Env) (h : Heap) : wC Try.prog cx33 n33_4 Q ⟨env, h⟩ = ( wC Try.prog cx33 n33_5 Q ⟨(Env.put env 4 (.bool false)), h⟩) := (ySR 2 (cOps (cL n33_4)) (cR n33_4)).trans (by
  refine w0 ?_
  refine wT 4 (.bool false) ?_
  exact wE)
theorem n33_6_eq (Q : Ex × St → Prop) (s : St) : wC Try.prog cx33 n33_6 Q s = Q (.nrm, s) := yK
theorem n33_3_eq (Q : Ex × St → Prop) (s : St) : wC Try.prog cx33 n33_3 Q s = cndW (s.env.get 10) (wL Try.prog cx33 n33_4 Q s) (wL Try.prog cx33 n33_6 Q s) := yC 10 _ _
theorem n33_2_eq (Q : Ex × St → Prop) (env : Env) (h : Heap) : wC Try.prog cx33 n33_2 Q ⟨env, h⟩ = (Evs (mLenS (env.get 0)) fun v1 => Evs (mLenS (env.get 1)) fun v3 => Evs (mBin .neq v1 v3) fun v4 => wC Try.prog cx33 n33_3 Q ⟨(Env.put env 10 v4), h⟩) := (ySR 1 (cOps (cL n33_2)) (cR n33_2)).trans (by
  refine w0 ?_
  refine wT 6 (env.get 0) ?_
  refine wP 7 fun v1 => ?_
  refine wT 8 (env.get 1) ?_
  refine wP 9 fun v3 => ?_
  refine wP 10 fun v4 => ?_
  exact wE)
theorem n33_14_eq (Q : Ex × St → Prop) (s : St) : wC Try.prog cx33 n33_14 Q s = Q (.nrm, s) := yK
theorem n33_15_eq (Q : Ex × St → Prop) (s : St) : wC Try.prog cx33 n33_15 Q s = Q (.exit 0, s) := yX 0
theorem n33_13_eq (Q : Ex × St → Prop) (s : St) : wC Try.prog cx33 n33_13 Q s = cndW (s.env.get 14) (wL Try.prog cx33 n33_14 Q s) (wL Try.prog cx33 n33_15 Q s) := yC 14 _ _
theorem n33_12_eq (Q : Ex × St → Prop) (env : Env) (h : Heap) : wC Try.prog cx33 n33_12 Q ⟨env, h⟩ = (Evs (mLenS (env.get 0)) fun v2 => Evs (mBin .lss (env.get 5) v2) fun v3 => wC Try.prog cx33 n33_13 Q ⟨(Env.put env 14 v3), h⟩) := (ySR 4 (cOps (cL n33_12)) (cR n33_12)).trans (by
  refine w0 ?_
  refine wT 11 (env.get 5) ?_
  refine wT 12 (env.get 0) ?_
  refine wP 13 fun v2 => ?_
  refine wP 14 fun v3 => ?_
  exact wE)
theorem n33_21_eq (Q : Ex × St → Prop) (s : St) : wC Try.prog cx33 n33_21 Q s = Q (.ret, s) := yE
theorem n33_20_eq (Q : Ex × St → Prop) (env : Env) (h : Heap) : wC Try.prog cx33 n33_20 Q ⟨env, h⟩ = ( wC Try.prog cx33 n33_21 Q ⟨(Env.put env 4 (.bool false)), h⟩) := (ySR 7 (cOps (cL n33_20)) (cR n33_20)).trans (by
  refine w0 ?_
  refine wT 4 (.bool false) ?_
  exact wE)
theorem n33_22_eq (Q : Ex × St → Prop) (s : St) : wC Try.prog cx33 n33_22 Q s = Q (.nrm, s) := yK
theorem n33_19_eq (Q : Ex × St → Prop) (s : St) : wC Try.prog cx33 n33_19 Q s = cndW (s.env.get 26) (wL Try.prog cx33 n33_20 Q s) (wL Try.prog cx33 n33_22 Q s) := yC 26 _ _
theorem n33_18_ok : treeOk (cOps (cL n33_18)).toList [] [0, 0, 3, 7, 0, 0, 48, 112, 255, 511] = true := by kernel_rfl
theorem n33_18_w (Q : Ex × St → Prop) (env : Env) (h : Heap) (H : Evs (mIdxS tDelta (env.get 0) (env.get 5)) fun v2_1 => Evs (mLoad tDelta v2_1 h) fun v3_2 => Evs (mIdxS tDelta (env.get 1) (env.get 5)) fun v6_3 => Evs (mLoad tDelta v6_3 h) fun v7_4 => ValW (SpecA Try.prog 48 [v3_2, v7_4] h) h fun v8_5 => Evs (mUn .not v8_5) fun v9_6 => wC Try.prog cx33 n33_19 Q ⟨(Env.put env 26 v9_6), h⟩) : wC Try.prog cx33 n33_18 Q ⟨env, h⟩ := by
  refine ySD 6 (cOps (cL n33_18)) (cR n33_18) [] [0, 0, 3, 7, 0, 0, 48, 112, 255, 511] [0, 1, 2, 3, 4, 5, 6, 7, 8, 9] n33_18_ok ?_
  refine rT 17 (env.get 0) ?_
  refine rT 18 (env.get 5) ?_
  refine rP H 19 fun v2_1 H => ?_
  refine rP H 20 fun v3_2 H => ?_
  refine rT 21 (env.get 1) ?_
  refine rT 22 (env.get 5) ?_
  refine rP H 23 fun v6_3 H => ?_
  refine rP H 24 fun v7_4 H => ?_
  refine rF H 25 (fun v8_5 H => ?_)
  refine rP H 26 fun v9_6 H => ?_
  refine rE ?_
  exact tE H
theorem n33_17_eq (Q : Ex × St → Prop) (s : St) : wC Try.prog cx33 n33_17 Q s = wC Try.prog cx33 n33_18 (fun r => Q (inBlk 1 r)) s := yB 1 _
theorem n33_23_eq (Q : Ex × St → Prop) (env : Env) (h : Heap) : wC Try.prog cx33 n33_23 Q ⟨env, h⟩ = (Evs (mBin .add (env.get 5) (nat 1)) fun v1 => Q (.nrm, ⟨(Env.put env 5 v1), h⟩)) := (yR 5 (cOps n33_23)).trans (by
  refine w0 ?_
  refine wT 15 (env.get 5) ?_
  refine wP 16 fun v1 => ?_
  refine wT 5 v1 ?_
  exact wE)
theorem n33_16_eq (Q : Ex × St → Prop) (s : St) : wC Try.prog cx33 n33_16 Q s = wC Try.prog cx33 n33_17 (sqW (wC Try.prog cx33 n33_23) Q) s := yS _ _
theorem n33_11_eq (Q : Ex × St → Prop) (s : St) : wC Try.prog cx33 n33_11 Q s = wC Try.prog cx33 n33_12 (sqW (wC Try.prog cx33 n33_16) Q) s := yS _ _
theorem n33_10_eq (Q : Ex × St → Prop) (s : St) : wC Try.prog cx33 n33_10 Q s = loopW (wC Try.prog cx33 n33_11) Q s := yL _
theorem n33_9_eq (Q : Ex × St → Prop) (s : St) : wC Try.prog cx33 n33_9 Q s = wC Try.prog cx33 n33_10 (fun r => Q (inBlk 0 r)) s := yB 0 _
theorem n33_8_eq (Q : Ex × St → Prop) (env : Env) (h : Heap) : wC Try.prog cx33 n33_8 Q ⟨env, h⟩ = ( wC Try.prog cx33 n33_9 Q ⟨(Env.put env 5 (nat 0)), h⟩) := (ySR 3 (cOps (cL n33_8)) (cR n33_8)).trans (by
  refine w0 ?_
  refine wT 5 (nat 0) ?_
  exact wE)
theorem n33_25_eq (Q : Ex × St → Prop) (s : St) : wC Try.prog cx33 n33_25 Q s = Q (.ret, s) := yE
theorem n33_24_eq (Q : Ex × St → Prop) (env : Env) (h : Heap) : wC Try.prog cx33 n33_24 Q ⟨env, h⟩ = ( wC Try.prog cx33 n33_25 Q ⟨(Env.put env 4 (.bool true)), h⟩) := (ySR 8 (cOps (cL n33_24)) (cR n33_24)).trans (by
  refine w0 ?_
  refine wT 4 (.bool true) ?_
  exact wE)
theorem n33_7_eq (Q : Ex × St → Prop) (s : St) : wC Try.prog cx33 n33_7 Q s = wC Try.prog cx33 n33_8 (sqW (wC Try.prog cx33 n33_24) Q) s := yS _ _
theorem n33_1_eq (Q : Ex × St → Prop) (s : St) : wC Try.prog cx33 n33_1 Q s = wC Try.prog cx33 n33_2 (sqW (wC Try.prog cx33 n33_7) Q) s := yS _ _
theorem n33_0_eq (Q : Ex × St → Prop) (env : Env) (h : Heap) : wC Try.prog cx33 n33_0 Q ⟨env, h⟩ = ( wC Try.prog cx33 n33_1 Q ⟨(Env.put env 4 (.bool false)), h⟩) := (ySR 0 (cOps (cL n33_0)) (cR n33_0)).trans (by
  refine w0 ?_
  refine wT 4 (.bool false) ?_
  exact wE)
theorem fn33 : Try.prog.funcs[33]? = some Try.f33 := by kernel_rfl
theorem q33 {a0 a1 : AV} {h : Heap} {K : AV × Heap → Prop} (H : ∀ env : Env, env.get 0 = a0 → env.get 1 = a1 → wC Try.prog cx33 n33_0 (retW (fun s => (bnd (some (s.env.get 4)) fun v => bnd (some []) fun vs => some (v :: vs))) K) ⟨env, h⟩) : SpecQ Try.prog 33 [a0, a1] h K :=
  bodyW_sound (C := cx33) TT_ok mixed_ok fn33 (by kernel_rfl) (show _ = some n33_0 by kernel_rfl) (by kernel_rfl) (by kernel_rfl) (of_decide_eq_true (by kernel_rfl)) ((show wC Try.prog cx33 n33_0 (retW (fun s => resAll cx33 s Try.f33.results.toList) K) ⟨env0 cx33 [a0, a1], h⟩ = wC Try.prog cx33 n33_0 (retW (fun s => (bnd (some (s.env.get 4)) fun v => bnd (some []) fun vs => some (v :: vs))) K) ⟨[(0, a0), (1, a1), (2, .junk), (3, .junk), (4, .junk), (5, .junk), (10, .junk), (14, .junk), (26, .junk)], h⟩ by kernel_rfl).mpr (H [(0, a0), (1, a1), (2, .junk), (3, .junk), (4, .junk), (5, .junk), (10, .junk), (14, .junk), (26, .junk)] rfl rfl))
def sn33 := And.intro n33_5_eq (And.intro n33_4_eq (And.intro n33_6_eq (And.intro n33_3_eq (And.intro n33_2_eq (And.intro n33_14_eq (And.intro n33_15_eq (And.intro n33_13_eq (And.intro n33_12_eq (And.intro n33_21_eq (And.intro n33_20_eq (And.intro n33_22_eq (And.intro n33_19_eq (And.intro n33_17_eq (And.intro n33_23_eq (And.intro n33_16_eq (And.intro n33_11_eq (And.intro n33_10_eq (And.intro n33_9_eq (And.intro n33_8_eq (And.intro n33_25_eq (And.intro n33_24_eq (And.intro n33_7_eq (And.intro n33_1_eq (n33_0_eq))))))))))))))))))))))))
-- draws: n33_18
end Go.Vab

/-
  Deltas alike, walked.
-/
namespace Go.Vab
open Go Go.Proofs

theorem Dels.idx {h : Heap} {v : AV} {ds : List Del} (k : Dels h v ds) {i : Nat} (hi : i < ds.length) : ∃ b ver path vt, mIdxS tDelta v (nat i) = some (.ptr b ver path tDelta) ∧ BytL h vt ds[i].entry ∧ (∀ l, mLoad tDelta (.ptr b ver path tDelta) (h ++ l) = some (eDel vt ds[i].sign)) ∧
    (∀ l, mLoad .cell (.ptr b ver (path ++ [0]) .cell) (h ++ l) = some vt) ∧ (∀ l, mLoad tSignature (.ptr b ver (path ++ [1]) tSignature) (h ++ l) = some (eCi ds[i].sign)) := by
  obtain ⟨es, hr, h1, h2⟩ := k
  obtain ⟨vt, e1, e2⟩ := h2 i ds[i] (List.getElem?_eq_getElem hi)
  obtain ⟨b, ver, path, off, c, rfl, hc⟩ := hr.slc (by rintro rfl; simp at e1)
  have g := hr.1
  rw [mElems_row] at g
  obtain ⟨bb, g1, g2⟩ := bnd_eq_some.1 g
  obtain ⟨r, g3, g4⟩ := bnd_eq_some.1 g2
  have hget : r.get [off + i] = some (eDel vt ds[i].sign) := by rw [(cut_node g4).2 i (by omega), e1]
  refine ⟨b, ver, path ++ [off + i], vt, by simp [mIdxS]; omega, e2, fun l => ?_, fun l => ?_, fun l => ?_⟩
  · rw [mLoad_ptr, blkAt_app g1, bnd_some, get_append, g3, bnd_some, hget]
  · rw [mLoad_ptr, blkAt_app g1, bnd_some, get_append, get_append, g3, bnd_some, hget, bnd_some]; simp
  · rw [mLoad_ptr, blkAt_app g1, bnd_some, get_append, get_append, g3, bnd_some, hget, bnd_some]; simp

theorem c32 {h : Heap} {a b : Del} {va vb : AV} (ra : BytL h va a.entry) (rb : BytL h vb b.entry) :
    SpecQ Try.prog 32 [eDel va a.sign, eDel vb b.sign] h fun r => r = (.bool (decide (a = b)), h) := by
  have ta := ra.cell
  have tb := rb.cell
  refine SpecQ.drop1 rfl (q32 fun env g0 g1 => ?_)
  repeat' (first
    | ((with_reducible apply evs_of); (focus ((conv => lhs; simp (disch := omega) [g0, g1, ta, tb]); done)); try dsimp only)
    | (with_reducible refine SpecQ.step (c23 (ra.app _) (rb.app _)) ?_; rintro _ rfl; try dsimp only)
    | ((with_reducible apply SpecA_i); (focus ((conv => lhs; simp (disch := omega) [g0, g1, ta, tb]); done)))
    | (simp (decide := true) only [sn32, sqW_nrm, sqW_exit, sqW_ret, inBlk_nrm, inBlk_ret, inBlk_same, inBlk_exit, if_true, if_false, retW_nrm, retW_ret])
    | (with_reducible refine gv_split ?_ ?_ <;> (intro hb; try simp only [Bool.not_true, Bool.not_false] at hb) <;> try simp only [hb]))
  all_goals refine fin_b ?_
  all_goals (clear ra rb ta tb; cases a; cases b; simp_all)

theorem c48 {h : Heap} {a b : Del} {va vb : AV} (ra : BytL h va a.entry) (rb : BytL h vb b.entry) :
    SpecQ Try.prog 48 [eDel va a.sign, eDel vb b.sign] h fun r => r = (.bool (decide (a = b)), h) := by
  have ta := ra.cell
  have tb := rb.cell
  have s1 := fun l => (ra.app l).str
  have s2 := fun l => (rb.app l).str
  refine SpecQ.drop1 rfl (q48 fun env g0 g1 => ?_)
  repeat' (first
    | ((with_reducible apply evs_of); (focus ((conv => lhs; simp (disch := omega) [g0, g1, ta, tb, s1, s2]); done)); try dsimp only)
    | (simp (decide := true) only [sn48, sqW_nrm, sqW_exit, sqW_ret, inBlk_nrm, inBlk_ret, inBlk_same, inBlk_exit, if_true, if_false, retW_nrm, retW_ret])
    | (with_reducible refine gv_split ?_ ?_ <;> (intro hb; try simp only [Bool.not_true, Bool.not_false] at hb) <;> try simp only [hb]))
  all_goals refine fin_b ?_
  all_goals (clear ra rb ta tb s1 s2; cases a; cases b; simp_all)

theorem c31 {h : Heap} {x y : AV} {a b : List Del} (hx : Dels h x a) (hy : Dels h y b) : SpecQ Try.prog 31 [x, y, .fn 32 []] h fun r => r = (.bool (decide (a = b)), h) := by
  have lx := hx.len
  have ly := hy.len
  have bx := hx.bound
  refine SpecQ.drop1 rfl (q31 fun env g0 g1 g2 => ?_)
  by_cases hl : a.length = b.length
  · rw [← hl] at ly
    repeat' (first
      | ((with_reducible apply evs_of); (focus ((conv => lhs; simp (disch := omega) [g0, g1, g2, lx, ly]); done)); try dsimp only)
      | ((with_reducible apply cndW_T); (focus (simp (disch := omega) [g0, g1, g2, lx, ly] <;> omega)))
      | ((with_reducible apply cndW_F); (focus (simp (disch := omega) [g0, g1, g2, lx, ly] <;> omega)))
      | (with_reducible apply wL_i)
      | ((with_reducible apply SpecA_i); (focus ((conv => lhs; simp (disch := omega) [g0, g1, g2, lx, ly]); done)))
      | ((with_reducible apply fnA_i); (focus ((conv => lhs; simp (disch := omega) [g0, g1, g2, lx, ly]); done)))
      | (simp (decide := true) only [sn31, sqW_nrm, sqW_exit, sqW_ret, inBlk_nrm, inBlk_ret, inBlk_same, inBlk_exit, if_true, if_false, retW_nrm, retW_ret]))
    refine loop_up a.length (fun i st => ∃ env' t, st = ⟨env', h ++ t⟩ ∧ env'.get 0 = x ∧ env'.get 1 = y ∧ env'.get 2 = .fn 32 [] ∧ env'.get 15 = x ∧ env'.get 16 = nat a.length ∧ env'.get 17 = nat i ∧ ∀ j, j < i → a[j]? = b[j]?) ?_ ?_ ⟨_, [], by rw [List.append_nil], by simp [g0], by simp [g1], by simp [g2], by simp [g0], by simp, by simp, fun j hj => absurd hj (by omega)⟩
    · rintro i st hi ⟨env', t, rfl, e0, e1, e2, e15, e16, e17, hj⟩
      obtain ⟨pb, pv, pp, va, p1, p2, p3, _⟩ := hx.idx (i := i) hi
      obtain ⟨qb, qv, qp, vb, q1, q2, q3, _⟩ := hy.idx (i := i) (by omega)
      have ta := p2.cell
      have tb := q2.cell
      have p3' := p3 t
      have q3' := q3 t
      by_cases hab : a[i] = b[i]
      · have hab' : decide (a[i] = b[i]) = true := by simp [hab]
        repeat' (first
          | ((with_reducible apply evs_of); (focus ((conv => lhs; simp (disch := omega) [e0, e1, e2, e15, e16, e17, p1, p3, q1, q3, ta, tb, hab', List.append_assoc]); done)); try dsimp only)
          | ((with_reducible apply cndW_T); (focus (simp (disch := omega) [e0, e1, e2, e15, e16, e17, p1, p3, q1, q3, ta, tb, hab', List.append_assoc] <;> omega)))
          | ((with_reducible apply cndW_F); (focus (simp (disch := omega) [e0, e1, e2, e15, e16, e17, p1, p3, q1, q3, ta, tb, hab', List.append_assoc] <;> omega)))
          | (with_reducible apply wL_i)
          | (with_reducible refine SpecQ.step (c32 (p2.app _) (q2.app _)) ?_; rintro _ rfl; try dsimp only)
          | ((with_reducible apply SpecA_i); (focus ((conv => lhs; simp (disch := omega) [e0, e1, e2, e15, e16, e17, p1, p3, q1, q3, ta, tb, hab', List.append_assoc]); done)))
          | ((with_reducible apply fnA_i); (focus ((conv => lhs; simp (disch := omega) [e0, e1, e2, e15, e16, e17, p1, p3, q1, q3, ta, tb, hab', List.append_assoc]); done)))
          | (simp (decide := true) only [sn31, sqW_nrm, sqW_exit, sqW_ret, inBlk_nrm, inBlk_ret, inBlk_same, inBlk_exit, if_true, if_false, retW_nrm, retW_ret]))
        refine .inl ⟨by simp, _, _, rfl, by simp [e0], by simp [e1], by simp [e2], by simp [e15], by simp [e16], by simp, fun j hj' => ?_⟩
        by_cases hji : j = i
        · subst hji
          rw [List.getElem?_eq_getElem hi, List.getElem?_eq_getElem (by omega), hab]
        · exact hj j (by omega)
      · have hab' : decide (a[i] = b[i]) = false := by simp [hab]
        repeat' (first
          | ((with_reducible apply evs_of); (focus ((conv => lhs; simp (disch := omega) [e0, e1, e2, e15, e16, e17, p1, p3, q1, q3, ta, tb, hab', List.append_assoc]); done)); try dsimp only)
          | ((with_reducible apply cndW_T); (focus (simp (disch := omega) [e0, e1, e2, e15, e16, e17, p1, p3, q1, q3, ta, tb, hab', List.append_assoc] <;> omega)))
          | ((with_reducible apply cndW_F); (focus (simp (disch := omega) [e0, e1, e2, e15, e16, e17, p1, p3, q1, q3, ta, tb, hab', List.append_assoc] <;> omega)))
          | (with_reducible apply wL_i)
          | (with_reducible refine SpecQ.step (c32 (p2.app _) (q2.app _)) ?_; rintro _ rfl; try dsimp only)
          | ((with_reducible apply SpecA_i); (focus ((conv => lhs; simp (disch := omega) [e0, e1, e2, e15, e16, e17, p1, p3, q1, q3, ta, tb, hab', List.append_assoc]); done)))
          | ((with_reducible apply fnA_i); (focus ((conv => lhs; simp (disch := omega) [e0, e1, e2, e15, e16, e17, p1, p3, q1, q3, ta, tb, hab', List.append_assoc]); done)))
          | (simp (decide := true) only [sn31, sqW_nrm, sqW_exit, sqW_ret, inBlk_nrm, inBlk_ret, inBlk_same, inBlk_exit, if_true, if_false, retW_nrm, retW_ret]))
        refine .inr ⟨by simp, ?_⟩
        repeat' (first
          | ((with_reducible apply evs_of); (focus ((conv => lhs; simp (disch := omega) [e0]); done)); try dsimp only)
          | ((with_reducible apply cndW_T); (focus (simp (disch := omega) [e0] <;> omega)))
          | ((with_reducible apply cndW_F); (focus (simp (disch := omega) [e0] <;> omega)))
          | (with_reducible apply wL_i)
          | ((with_reducible apply SpecA_i); (focus ((conv => lhs; simp (disch := omega) [e0]); done)))
          | ((with_reducible apply fnA_i); (focus ((conv => lhs; simp (disch := omega) [e0]); done)))
          | (simp (decide := true) only [sn31, sqW_nrm, sqW_exit, sqW_ret, inBlk_nrm, inBlk_ret, inBlk_same, inBlk_exit, if_true, if_false, retW_nrm, retW_ret]))
        have : a ≠ b := by rintro rfl; exact hab rfl
        exact ⟨_, by simp [oneOrTuple, this]; rfl⟩
    · rintro st ⟨env', t, rfl, e0, e1, e2, e15, e16, e17, hj⟩
      repeat' (first
        | ((with_reducible apply evs_of); (focus ((conv => lhs; simp (disch := omega) [e16, e17]); done)); try dsimp only)
        | ((with_reducible apply cndW_T); (focus (simp (disch := omega) [e16, e17] <;> omega)))
        | ((with_reducible apply cndW_F); (focus (simp (disch := omega) [e16, e17] <;> omega)))
        | (with_reducible apply wL_i)
        | ((with_reducible apply SpecA_i); (focus ((conv => lhs; simp (disch := omega) [e16, e17]); done)))
        | ((with_reducible apply fnA_i); (focus ((conv => lhs; simp (disch := omega) [e16, e17]); done)))
        | (simp (decide := true) only [sn31, sqW_nrm, sqW_exit, sqW_ret, inBlk_nrm, inBlk_ret, inBlk_same, inBlk_exit, if_true, if_false, retW_nrm, retW_ret]))
      refine ⟨by simp, ?_⟩
      repeat' (first
        | ((with_reducible apply evs_of); (focus ((conv => lhs; simp (disch := omega) [e16, e17]); done)); try dsimp only)
        | ((with_reducible apply cndW_T); (focus (simp (disch := omega) [e16, e17] <;> omega)))
        | ((with_reducible apply cndW_F); (focus (simp (disch := omega) [e16, e17] <;> omega)))
        | (with_reducible apply wL_i)
        | ((with_reducible apply SpecA_i); (focus ((conv => lhs; simp (disch := omega) [e16, e17]); done)))
        | ((with_reducible apply fnA_i); (focus ((conv => lhs; simp (disch := omega) [e16, e17]); done)))
        | (simp (decide := true) only [sn31, sqW_nrm, sqW_exit, sqW_ret, inBlk_nrm, inBlk_ret, inBlk_same, inBlk_exit, if_true, if_false, retW_nrm, retW_ret]))
      have : a = b := List.ext_getElem? fun j => by
        by_cases hj' : j < a.length
        · exact hj j hj'
        · rw [List.getElem?_eq_none (by omega), List.getElem?_eq_none (by omega)]
      exact ⟨t, by simp [oneOrTuple, this]⟩
  · repeat' (first
      | ((with_reducible apply evs_of); (focus ((conv => lhs; simp (disch := omega) [g0, g1, g2, lx, ly, hl]); done)); try dsimp only)
      | ((with_reducible apply cndW_T); (focus (simp (disch := omega) [g0, g1, g2, lx, ly, hl] <;> omega)))
      | ((with_reducible apply cndW_F); (focus (simp (disch := omega) [g0, g1, g2, lx, ly, hl] <;> omega)))
      | (with_reducible apply wL_i)
      | ((with_reducible apply SpecA_i); (focus ((conv => lhs; simp (disch := omega) [g0, g1, g2, lx, ly, hl]); done)))
      | ((with_reducible apply fnA_i); (focus ((conv => lhs; simp (disch := omega) [g0, g1, g2, lx, ly, hl]); done)))
      | (simp (decide := true) only [sn31, sqW_nrm, sqW_exit, sqW_ret, inBlk_nrm, inBlk_ret, inBlk_same, inBlk_exit, if_true, if_false, retW_nrm, retW_ret]))
    have : a ≠ b := by rintro rfl; exact hl rfl
    exact ⟨[], by simp [oneOrTuple, this]⟩

theorem c33 {h : Heap} {x y : AV} {a b : List Del} (hx : Dels h x a) (hy : Dels h y b) : SpecQ Try.prog 33 [x, y] h fun r => r = (.bool (decide (a = b)), h) := by
  have lx := hx.len
  have ly := hy.len
  have bx := hx.bound
  refine SpecQ.drop1 rfl (q33 fun env g0 g1 => ?_)
  by_cases hl : a.length = b.length
  · rw [← hl] at ly
    repeat' (first
      | ((with_reducible apply evs_of); (focus ((conv => lhs; simp (disch := omega) [g0, g1, lx, ly]); done)); try dsimp only)
      | ((with_reducible apply cndW_T); (focus (simp (disch := omega) [g0, g1, lx, ly] <;> omega)))
      | ((with_reducible apply cndW_F); (focus (simp (disch := omega) [g0, g1, lx, ly] <;> omega)))
      | (with_reducible apply wL_i)
      | ((with_reducible apply ValW_do); (focus (simp (disch := omega) [g0, g1, lx, ly]; done)); try dsimp only)
      | ((with_reducible apply ValW_no); (focus (simp (disch := omega) [g0, g1, lx, ly]; done)); try dsimp only)
      | ((with_reducible apply ValW_un); (focus (simp (disch := omega) [g0, g1, lx, ly]; done)); try dsimp only)
      | ((with_reducible apply SpecA_i); (focus ((conv => lhs; simp (disch := omega) [g0, g1, lx, ly]); done)))
      | ((with_reducible apply ValA_i); (focus ((conv => lhs; simp (disch := omega) [g0, g1, lx, ly]); done)))
      | ((with_reducible apply ValA_fn); (focus ((conv => lhs; simp (disch := omega) [g0, g1, lx, ly]); done)))
      | (simp (decide := true) only [sn33, sqW_nrm, sqW_exit, sqW_ret, inBlk_nrm, inBlk_ret, inBlk_same, inBlk_exit, if_true, if_false, retW_nrm, retW_ret])
      | (with_reducible refine n33_18_w _ _ _ ?_))
    refine loop_up a.length (fun i st => ∃ env' t, st = ⟨env', h ++ t⟩ ∧ env'.get 0 = x ∧ env'.get 1 = y ∧ env'.get 5 = nat i ∧ ∀ j, j < i → a[j]? = b[j]?) ?_ ?_ ⟨_, [], by rw [List.append_nil], by simp [g0], by simp [g1], by simp, fun j hj => absurd hj (by omega)⟩
    · rintro i st hi ⟨env', t, rfl, e0, e1, e5, hj⟩
      obtain ⟨pb, pv, pp, va, p1, p2, p3, _⟩ := hx.idx (i := i) hi
      obtain ⟨qb, qv, qp, vb, q1, q2, q3, _⟩ := hy.idx (i := i) (by omega)
      have ta := p2.cell
      have tb := q2.cell
      by_cases hab : a[i] = b[i]
      · have hab' : decide (a[i] = b[i]) = true := by simp [hab]
        repeat' (first
          | ((with_reducible apply evs_of); (focus ((conv => lhs; simp (disch := omega) [e0, e1, e5, lx, ly, p1, p3, q1, q3, ta, tb, hab', List.append_assoc]); done)); try dsimp only)
          | ((with_reducible apply cndW_T); (focus (simp (disch := omega) [e0, e1, e5, lx, ly, p1, p3, q1, q3, ta, tb, hab', List.append_assoc] <;> omega)))
          | ((with_reducible apply cndW_F); (focus (simp (disch := omega) [e0, e1, e5, lx, ly, p1, p3, q1, q3, ta, tb, hab', List.append_assoc] <;> omega)))
          | (with_reducible apply wL_i)
          | ((with_reducible apply ValW_do); (focus (simp (disch := omega) [e0, e1, e5, lx, ly, p1, p3, q1, q3, ta, tb, hab', List.append_assoc]; done)); try dsimp only)
          | ((with_reducible apply ValW_no); (focus (simp (disch := omega) [e0, e1, e5, lx, ly, p1, p3, q1, q3, ta, tb, hab', List.append_assoc]; done)); try dsimp only)
          | ((with_reducible apply ValW_un); (focus (simp (disch := omega) [e0, e1, e5, lx, ly, p1, p3, q1, q3, ta, tb, hab', List.append_assoc]; done)); try dsimp only)
          | (with_reducible refine ValW_i (c48 (p2.app _) (q2.app _)) ?_; try dsimp only)
          | (with_reducible refine SpecQ.step (c48 (p2.app _) (q2.app _)) ?_; rintro _ rfl; try dsimp only)
          | ((with_reducible apply SpecA_i); (focus ((conv => lhs; simp (disch := omega) [e0, e1, e5, lx, ly, p1, p3, q1, q3, ta, tb, hab', List.append_assoc]); done)))
          | ((with_reducible apply ValA_i); (focus ((conv => lhs; simp (disch := omega) [e0, e1, e5, lx, ly, p1, p3, q1, q3, ta, tb, hab', List.append_assoc]); done)))
          | ((with_reducible apply ValA_fn); (focus ((conv => lhs; simp (disch := omega) [e0, e1, e5, lx, ly, p1, p3, q1, q3, ta, tb, hab', List.append_assoc]); done)))
          | (simp (decide := true) only [sn33, sqW_nrm, sqW_exit, sqW_ret, inBlk_nrm, inBlk_ret, inBlk_same, inBlk_exit, if_true, if_false, retW_nrm, retW_ret])
          | (with_reducible refine n33_18_w _ _ _ ?_))
        refine .inl ⟨by simp, _, _, rfl, by simp [e0], by simp [e1], by simp, fun j hj' => ?_⟩
        by_cases hji : j = i
        · subst hji
          rw [List.getElem?_eq_getElem hi, List.getElem?_eq_getElem (by omega), hab]
        · exact hj j (by omega)
      · have hab' : decide (a[i] = b[i]) = false := by simp [hab]
        repeat' (first
          | ((with_reducible apply evs_of); (focus ((conv => lhs; simp (disch := omega) [e0, e1, e5, lx, ly, p1, p3, q1, q3, ta, tb, hab', List.append_assoc]); done)); try dsimp only)
          | ((with_reducible apply cndW_T); (focus (simp (disch := omega) [e0, e1, e5, lx, ly, p1, p3, q1, q3, ta, tb, hab', List.append_assoc] <;> omega)))
          | ((with_reducible apply cndW_F); (focus (simp (disch := omega) [e0, e1, e5, lx, ly, p1, p3, q1, q3, ta, tb, hab', List.append_assoc] <;> omega)))
          | (with_reducible apply wL_i)
          | ((with_reducible apply ValW_do); (focus (simp (disch := omega) [e0, e1, e5, lx, ly, p1, p3, q1, q3, ta, tb, hab', List.append_assoc]; done)); try dsimp only)
          | ((with_reducible apply ValW_no); (focus (simp (disch := omega) [e0, e1, e5, lx, ly, p1, p3, q1, q3, ta, tb, hab', List.append_assoc]; done)); try dsimp only)
          | ((with_reducible apply ValW_un); (focus (simp (disch := omega) [e0, e1, e5, lx, ly, p1, p3, q1, q3, ta, tb, hab', List.append_assoc]; done)); try dsimp only)
          | (with_reducible refine ValW_i (c48 (p2.app _) (q2.app _)) ?_; try dsimp only)
          | (with_reducible refine SpecQ.step (c48 (p2.app _) (q2.app _)) ?_; rintro _ rfl; try dsimp only)
          | ((with_reducible apply SpecA_i); (focus ((conv => lhs; simp (disch := omega) [e0, e1, e5, lx, ly, p1, p3, q1, q3, ta, tb, hab', List.append_assoc]); done)))
          | ((with_reducible apply ValA_i); (focus ((conv => lhs; simp (disch := omega) [e0, e1, e5, lx, ly, p1, p3, q1, q3, ta, tb, hab', List.append_assoc]); done)))
          | ((with_reducible apply ValA_fn); (focus ((conv => lhs; simp (disch := omega) [e0, e1, e5, lx, ly, p1, p3, q1, q3, ta, tb, hab', List.append_assoc]); done)))
          | (simp (decide := true) only [sn33, sqW_nrm, sqW_exit, sqW_ret, inBlk_nrm, inBlk_ret, inBlk_same, inBlk_exit, if_true, if_false, retW_nrm, retW_ret])
          | (with_reducible refine n33_18_w _ _ _ ?_))
        refine .inr ⟨by simp, ?_⟩
        repeat' (first
          | ((with_reducible apply evs_of); (focus ((conv => lhs; simp (disch := omega) [e0]); done)); try dsimp only)
          | ((with_reducible apply cndW_T); (focus (simp (disch := omega) [e0] <;> omega)))
          | ((with_reducible apply cndW_F); (focus (simp (disch := omega) [e0] <;> omega)))
          | (with_reducible apply wL_i)
          | ((with_reducible apply ValW_do); (focus (simp (disch := omega) [e0]; done)); try dsimp only)
          | ((with_reducible apply ValW_no); (focus (simp (disch := omega) [e0]; done)); try dsimp only)
          | ((with_reducible apply ValW_un); (focus (simp (disch := omega) [e0]; done)); try dsimp only)
          | ((with_reducible apply SpecA_i); (focus ((conv => lhs; simp (disch := omega) [e0]); done)))
          | ((with_reducible apply ValA_i); (focus ((conv => lhs; simp (disch := omega) [e0]); done)))
          | ((with_reducible apply ValA_fn); (focus ((conv => lhs; simp (disch := omega) [e0]); done)))
          | (simp (decide := true) only [sn33, sqW_nrm, sqW_exit, sqW_ret, inBlk_nrm, inBlk_ret, inBlk_same, inBlk_exit, if_true, if_false, retW_nrm, retW_ret])
          | (with_reducible refine n33_18_w _ _ _ ?_))
        have : a ≠ b := by rintro rfl; exact hab rfl
        exact ⟨_, by simp [oneOrTuple, this]; rfl⟩
    · rintro st ⟨env', t, rfl, e0, e1, e5, hj⟩
      repeat' (first
        | ((with_reducible apply evs_of); (focus ((conv => lhs; simp (disch := omega) [e0, e5, lx]); done)); try dsimp only)
        | ((with_reducible apply cndW_T); (focus (simp (disch := omega) [e0, e5, lx] <;> omega)))
        | ((with_reducible apply cndW_F); (focus (simp (disch := omega) [e0, e5, lx] <;> omega)))
        | (with_reducible apply wL_i)
        | ((with_reducible apply ValW_do); (focus (simp (disch := omega) [e0, e5, lx]; done)); try dsimp only)
        | ((with_reducible apply ValW_no); (focus (simp (disch := omega) [e0, e5, lx]; done)); try dsimp only)
        | ((with_reducible apply ValW_un); (focus (simp (disch := omega) [e0, e5, lx]; done)); try dsimp only)
        | ((with_reducible apply SpecA_i); (focus ((conv => lhs; simp (disch := omega) [e0, e5, lx]); done)))
        | ((with_reducible apply ValA_i); (focus ((conv => lhs; simp (disch := omega) [e0, e5, lx]); done)))
        | ((with_reducible apply ValA_fn); (focus ((conv => lhs; simp (disch := omega) [e0, e5, lx]); done)))
        | (simp (decide := true) only [sn33, sqW_nrm, sqW_exit, sqW_ret, inBlk_nrm, inBlk_ret, inBlk_same, inBlk_exit, if_true, if_false, retW_nrm, retW_ret])
        | (with_reducible refine n33_18_w _ _ _ ?_))
      refine ⟨by simp, ?_⟩
      repeat' (first
        | ((with_reducible apply evs_of); (focus ((conv => lhs; simp (disch := omega) [e0, e5]); done)); try dsimp only)
        | ((with_reducible apply cndW_T); (focus (simp (disch := omega) [e0, e5] <;> omega)))
        | ((with_reducible apply cndW_F); (focus (simp (disch := omega) [e0, e5] <;> omega)))
        | (with_reducible apply wL_i)
        | ((with_reducible apply ValW_do); (focus (simp (disch := omega) [e0, e5]; done)); try dsimp only)
        | ((with_reducible apply ValW_no); (focus (simp (disch := omega) [e0, e5]; done)); try dsimp only)
        | ((with_reducible apply ValW_un); (focus (simp (disch := omega) [e0, e5]; done)); try dsimp only)
        | ((with_reducible apply SpecA_i); (focus ((conv => lhs; simp (disch := omega) [e0, e5]); done)))
        | ((with_reducible apply ValA_i); (focus ((conv => lhs; simp (disch := omega) [e0, e5]); done)))
        | ((with_reducible apply ValA_fn); (focus ((conv => lhs; simp (disch := omega) [e0, e5]); done)))
        | (simp (decide := true) only [sn33, sqW_nrm, sqW_exit, sqW_ret, inBlk_nrm, inBlk_ret, inBlk_same, inBlk_exit, if_true, if_false, retW_nrm, retW_ret])
        | (with_reducible refine n33_18_w _ _ _ ?_))
      have : a = b := List.ext_getElem? fun j => by
        by_cases hj' : j < a.length
        · exact hj j hj'
        · rw [List.getElem?_eq_none (by omega), List.getElem?_eq_none (by omega)]
      exact ⟨t, by simp [oneOrTuple, this]⟩
  · repeat' (first
      | ((with_reducible apply evs_of); (focus ((conv => lhs; simp (disch := omega) [g0, g1, lx, ly, hl]); done)); try dsimp only)
      | ((with_reducible apply cndW_T); (focus (simp (disch := omega) [g0, g1, lx, ly, hl] <;> omega)))
      | ((with_reducible apply cndW_F); (focus (simp (disch := omega) [g0, g1, lx, ly, hl] <;> omega)))
      | (with_reducible apply wL_i)
      | ((with_reducible apply ValW_do); (focus (simp (disch := omega) [g0, g1, lx, ly, hl]; done)); try dsimp only)
      | ((with_reducible apply ValW_no); (focus (simp (disch := omega) [g0, g1, lx, ly, hl]; done)); try dsimp only)
      | ((with_reducible apply ValW_un); (focus (simp (disch := omega) [g0, g1, lx, ly, hl]; done)); try dsimp only)
      | ((with_reducible apply SpecA_i); (focus ((conv => lhs; simp (disch := omega) [g0, g1, lx, ly, hl]); done)))
      | ((with_reducible apply ValA_i); (focus ((conv => lhs; simp (disch := omega) [g0, g1, lx, ly, hl]); done)))
      | ((with_reducible apply ValA_fn); (focus ((conv => lhs; simp (disch := omega) [g0, g1, lx, ly, hl]); done)))
      | (simp (decide := true) only [sn33, sqW_nrm, sqW_exit, sqW_ret, inBlk_nrm, inBlk_ret, inBlk_same, inBlk_exit, if_true, if_false, retW_nrm, retW_ret])
      | (with_reducible refine n33_18_w _ _ _ ?_))
    have : a ≠ b := by rintro rfl; exact hl rfl
    exact ⟨[], by simp [oneOrTuple, this]⟩

end Go.Vab

/- How the code of a function is read. Printed by wip/tools/gen2.py (own work). -/
namespace Go.Vab
open Go Go.Proofs
/-! slices.Equal[[]vestry/api.Seat,vestry/api.Seat] -/
def cx24 : Ctx := ⟨fun _ _ _ => none, TT, 26, [6, 7, 8, 9, 11, 15, 16, 17, 18, 19, 20, 21, 22, 23, 25]⟩
noncomputable def n24_0 : Code := bodyOf Try.f24
noncomputable def n24_1 : Code := cR n24_0
noncomputable def n24_2 : Code := cL n24_1
noncomputable def n24_3 : Code := cR n24_2
noncomputable def n24_4 : Code := cL n24_3
noncomputable def n24_5 : Code := cR n24_4
noncomputable def n24_6 : Code := cR n24_3
noncomputable def n24_7 : Code := cR n24_1
noncomputable def n24_8 : Code := cL n24_7
noncomputable def n24_9 : Code := cR n24_8
noncomputable def n24_10 : Code := cB n24_9
noncomputable def n24_11 : Code := cB n24_10
noncomputable def n24_12 : Code := cR n24_11
noncomputable def n24_13 : Code := cL n24_12
noncomputable def n24_14 : Code := cL n24_13
noncomputable def n24_15 : Code := cR n24_13
noncomputable def n24_16 : Code := cR n24_12
noncomputable def n24_17 : Code := cL n24_16
noncomputable def n24_18 : Code := cB n24_17
noncomputable def n24_19 : Code := cR n24_18
noncomputable def n24_20 : Code := cR n24_19
noncomputable def n24_21 : Code := cL n24_20
noncomputable def n24_22 : Code := cR n24_21
noncomputable def n24_23 : Code := cR n24_20
noncomputable def n24_24 : Code := cR n24_16
noncomputable def n24_25 : Code := cR n24_7
noncomputable def n24_26 : Code := cR n24_25
theorem n24_5_eq (Q : Ex × St → Prop) (s : St) : wC Try.prog cx24 n24_5 Q s = Q (.ret, s) := yE
theorem n24_4_eq (Q : Ex × St → Prop) (env : Env) (h : Heap) : wC Try.prog cx24 n24_4 Q ⟨env, h⟩ = ( wC Try.prog cx24 n24_5 Q ⟨(Env.put env 4 (.bool false)), h⟩) := (ySR 2 (cOps (cL n24_4)) (cR n24_4)).trans (by
  refine w0 ?_
  refine wT 4 (.bool false) ?_
  exact wE)
theorem n24_6_eq (Q : Ex × St → Prop) (s : St) : wC Try.prog cx24 n24_6 Q s = Q (.nrm, s) := yK
theorem n24_3_eq (Q : Ex × St → Prop) (s : St) : wC Try.prog cx24 n24_3 Q s = cndW (s.env.get 10) (wL Try.prog cx24 n24_4 Q s) (wL Try.prog cx24 n24_6 Q s) := yC 10 _ _
theorem n24_2_eq (Q : Ex × St → Prop) (env : Env) (h : Heap) : wC Try.prog cx24 n24_2 Q ⟨env, h⟩ = (Evs (mLenS (env.get 0)) fun v1 => Evs (mLenS (env.get 1)) fun v3 => Evs (mBin .neq v1 v3) fun v4 => wC Try.prog cx24 n24_3 Q ⟨(Env.put env 10 v4), h⟩) := (ySR 1 (cOps (cL n24_2)) (cR n24_2)).trans (by
  refine w0 ?_
  refine wT 6 (env.get 0) ?_
  refine wP 7 fun v1 => ?_
  refine wT 8 (env.get 1) ?_
  refine wP 9 fun v3 => ?_
  refine wP 10 fun v4 => ?_
  exact wE)
theorem n24_14_eq (Q : Ex × St → Prop) (s : St) : wC Try.prog cx24 n24_14 Q s = Q (.nrm, s) := yK
theorem n24_15_eq (Q : Ex × St → Prop) (s : St) : wC Try.prog cx24 n24_15 Q s = Q (.exit 0, s) := yX 0
theorem n24_13_eq (Q : Ex × St → Prop) (s : St) : wC Try.prog cx24 n24_13 Q s = cndW (s.env.get 14) (wL Try.prog cx24 n24_14 Q s) (wL Try.prog cx24 n24_15 Q s) := yC 14 _ _
theorem n24_22_eq (Q : Ex × St → Prop) (s : St) : wC Try.prog cx24 n24_22 Q s = Q (.ret, s) := yE
theorem n24_21_eq (Q : Ex × St → Prop) (env : Env) (h : Heap) : wC Try.prog cx24 n24_21 Q ⟨env, h⟩ = ( wC Try.prog cx24 n24_22 Q ⟨(Env.put env 4 (.bool false)), h⟩) := (ySR 7 (cOps (cL n24_21)) (cR n24_21)).trans (by
  refine w0 ?_
  refine wT 4 (.bool false) ?_
  exact wE)
theorem n24_23_eq (Q : Ex × St → Prop) (s : St) : wC Try.prog cx24 n24_23 Q s = Q (.nrm, s) := yK
theorem n24_20_eq (Q : Ex × St → Prop) (s : St) : wC Try.prog cx24 n24_20 Q s = cndW (s.env.get 24) (wL Try.prog cx24 n24_21 Q s) (wL Try.prog cx24 n24_23 Q s) := yC 24 _ _
theorem n24_19_ok : treeOk (cOps (cL n24_19)).toList [] [0, 0, 3, 7, 0, 0, 48, 112, 255] = true := by kernel_rfl
theorem n24_19_w (Q : Ex × St → Prop) (env : Env) (h : Heap) (H : Evs (mIdxS tSeat (env.get 0) (env.get 5)) fun v2_1 => Evs (mLoad tSeat v2_1 h) fun v3_2 => Evs (mIdxS tSeat (env.get 1) (env.get 5)) fun v6_3 => Evs (mLoad tSeat v6_3 h) fun v7_4 => Evs (mEq tSeat .neq v3_2 v7_4) fun v8_5 => wC Try.prog cx24 n24_20 Q ⟨(Env.put env 24 v8_5), h⟩) : wC Try.prog cx24 n24_19 Q ⟨env, h⟩ := by
  refine ySD 6 (cOps (cL n24_19)) (cR n24_19) [] [0, 0, 3, 7, 0, 0, 48, 112, 255] [0, 1, 2, 3, 4, 5, 6, 7, 8] n24_19_ok ?_
  refine rT 16 (env.get 0) ?_
  refine rT 17 (env.get 5) ?_
  refine rP H 18 fun v2_1 H => ?_
  refine rP H 19 fun v3_2 H => ?_
  refine rT 20 (env.get 1) ?_
  refine rT 21 (env.get 5) ?_
  refine rP H 22 fun v6_3 H => ?_
  refine rP H 23 fun v7_4 H => ?_
  refine rP H 24 fun v8_5 H => ?_
  refine rE ?_
  exact tE H
theorem n24_18_eq (Q : Ex × St → Prop) (env : Env) (h : Heap) : wC Try.prog cx24 n24_18 Q ⟨env, h⟩ = ( wC Try.prog cx24 n24_19 Q ⟨(Env.put env 5 (env.get 13)), h⟩) := (ySR 5 (cOps (cL n24_18)) (cR n24_18)).trans (by
  refine w0 ?_
  refine wT 15 (env.get 13) ?_
  refine wT 5 (env.get 13) ?_
  exact wE)
theorem n24_17_eq (Q : Ex × St → Prop) (s : St) : wC Try.prog cx24 n24_17 Q s = wC Try.prog cx24 n24_18 (fun r => Q (inBlk 1 r)) s := yB 1 _
theorem n24_24_eq (Q : Ex × St → Prop) (env : Env) (h : Heap) : wC Try.prog cx24 n24_24 Q ⟨env, h⟩ = (Evs (mBin .add (env.get 13) (nat 1)) fun v0 => Q (.nrm, ⟨(Env.put env 13 v0), h⟩)) := (yR 8 (cOps n24_24)).trans (by
  refine w0 ?_
  refine wP 25 fun v0 => ?_
  refine wT 13 v0 ?_
  exact wE)
theorem n24_16_eq (Q : Ex × St → Prop) (s : St) : wC Try.prog cx24 n24_16 Q s = wC Try.prog cx24 n24_17 (sqW (wC Try.prog cx24 n24_24) Q) s := yS _ _
theorem n24_12_eq (Q : Ex × St → Prop) (s : St) : wC Try.prog cx24 n24_12 Q s = wC Try.prog cx24 n24_13 (sqW (wC Try.prog cx24 n24_16) Q) s := yS _ _
theorem n24_11_eq (Q : Ex × St → Prop) (env : Env) (h : Heap) : wC Try.prog cx24 n24_11 Q ⟨env, h⟩ = (Evs (mBin .lss (env.get 13) (env.get 12)) fun v0 => wC Try.prog cx24 n24_12 Q ⟨(Env.put env 14 v0), h⟩) := (ySR 4 (cOps (cL n24_11)) (cR n24_11)).trans (by
  refine w0 ?_
  refine wP 14 fun v0 => ?_
  exact wE)
theorem n24_10_eq (Q : Ex × St → Prop) (s : St) : wC Try.prog cx24 n24_10 Q s = loopW (wC Try.prog cx24 n24_11) Q s := yL _
theorem n24_9_eq (Q : Ex × St → Prop) (s : St) : wC Try.prog cx24 n24_9 Q s = wC Try.prog cx24 n24_10 (fun r => Q (inBlk 0 r)) s := yB 0 _
theorem n24_8_eq (Q : Ex × St → Prop) (env : Env) (h : Heap) : wC Try.prog cx24 n24_8 Q ⟨env, h⟩ = (Evs (mLenS (env.get 0)) fun v1 => wC Try.prog cx24 n24_9 Q ⟨(Env.put (Env.put env 12 v1) 13 (nat 0)), h⟩) := (ySR 3 (cOps (cL n24_8)) (cR n24_8)).trans (by
  refine w0 ?_
  refine wT 11 (env.get 0) ?_
  refine wP 12 fun v1 => ?_
  refine wT 13 (nat 0) ?_
  exact wE)
theorem n24_26_eq (Q : Ex × St → Prop) (s : St) : wC Try.prog cx24 n24_26 Q s = Q (.ret, s) := yE
theorem n24_25_eq (Q : Ex × St → Prop) (env : Env) (h : Heap) : wC Try.prog cx24 n24_25 Q ⟨env, h⟩ = ( wC Try.prog cx24 n24_26 Q ⟨(Env.put env 4 (.bool true)), h⟩) := (ySR 9 (cOps (cL n24_25)) (cR n24_25)).trans (by
  refine w0 ?_
  refine wT 4 (.bool true) ?_
  exact wE)
theorem n24_7_eq (Q : Ex × St → Prop) (s : St) : wC Try.prog cx24 n24_7 Q s = wC Try.prog cx24 n24_8 (sqW (wC Try.prog cx24 n24_25) Q) s := yS _ _
theorem n24_1_eq (Q : Ex × St → Prop) (s : St) : wC Try.prog cx24 n24_1 Q s = wC Try.prog cx24 n24_2 (sqW (wC Try.prog cx24 n24_7) Q) s := yS _ _
theorem n24_0_eq (Q : Ex × St → Prop) (env : Env) (h : Heap) : wC Try.prog cx24 n24_0 Q ⟨env, h⟩ = ( wC Try.prog cx24 n24_1 Q ⟨(Env.put env 4 (.bool false)), h⟩) := (ySR 0 (cOps (cL n24_0)) (cR n24_0)).trans (by
  refine w0 ?_
  refine wT 4 (.bool false) ?_
  exact wE)
theorem fn24 : Try.prog.funcs[24]? = some Try.f24 := by kernel_rfl
theorem q24 {a0 a1 : AV} {h : Heap} {K : AV × Heap → Prop} (H : ∀ env : Env, env.get 0 = a0 → env.get 1 = a1 → wC Try.prog cx24 n24_0 (retW (fun s => (bnd (some (s.env.get 4)) fun v => bnd (some []) fun vs => some (v :: vs))) K) ⟨env, h⟩) : SpecQ Try.prog 24 [a0, a1] h K :=
  bodyW_sound (C := cx24) TT_ok mixed_ok fn24 (by kernel_rfl) (show _ = some n24_0 by kernel_rfl) (by kernel_rfl) (by kernel_rfl) (of_decide_eq_true (by kernel_rfl)) ((show wC Try.prog cx24 n24_0 (retW (fun s => resAll cx24 s Try.f24.results.toList) K) ⟨env0 cx24 [a0, a1], h⟩ = wC Try.prog cx24 n24_0 (retW (fun s => (bnd (some (s.env.get 4)) fun v => bnd (some []) fun vs => some (v :: vs))) K) ⟨[(0, a0), (1, a1), (2, .junk), (3, .junk), (4, .junk), (5, .junk), (10, .junk), (12, .junk), (13, .junk), (14, .junk), (24, .junk)], h⟩ by kernel_rfl).mpr (H [(0, a0), (1, a1), (2, .junk), (3, .junk), (4, .junk), (5, .junk), (10, .junk), (12, .junk), (13, .junk), (14, .junk), (24, .junk)] rfl rfl))
def sn24 := And.intro n24_5_eq (And.intro n24_4_eq (And.intro n24_6_eq (And.intro n24_3_eq (And.intro n24_2_eq (And.intro n24_14_eq (And.intro n24_15_eq (And.intro n24_13_eq (And.intro n24_22_eq (And.intro n24_21_eq (And.intro n24_23_eq (And.intro n24_20_eq (And.intro n24_18_eq (And.intro n24_17_eq (And.intro n24_24_eq (And.intro n24_16_eq (And.intro n24_12_eq (And.intro n24_11_eq (And.intro n24_10_eq (And.intro n24_9_eq (And.intro n24_8_eq (And.intro n24_26_eq (And.intro n24_25_eq (And.intro n24_7_eq (And.intro n24_1_eq (n24_0_eq)))))))))))))))))))))))))
-- draws: n24_19
end Go.Vab

/- How the code of a function is read. Printed by wip/tools/gen2.py (own work). -/
namespace Go.Vab
open Go Go.Proofs
/-! slices.Equal[[]vestry/api.Invite,vestry/api.Invite] -/
def cx25 : Ctx := ⟨fun _ _ _ => none, TT, 26, [6, 7, 8, 9, 11, 15, 16, 17, 18, 19, 20, 21, 22, 23, 25]⟩
noncomputable def n25_0 : Code := bodyOf Try.f25
noncomputable def n25_1 : Code := cR n25_0
noncomputable def n25_2 : Code := cL n25_1
noncomputable def n25_3 : Code := cR n25_2
noncomputable def n25_4 : Code := cL n25_3
noncomputable def n25_5 : Code := cR n25_4
noncomputable def n25_6 : Code := cR n25_3
noncomputable def n25_7 : Code := cR n25_1
noncomputable def n25_8 : Code := cL n25_7
noncomputable def n25_9 : Code := cR n25_8
noncomputable def n25_10 : Code := cB n25_9
noncomputable def n25_11 : Code := cB n25_10
noncomputable def n25_12 : Code := cR n25_11
noncomputable def n25_13 : Code := cL n25_12
noncomputable def n25_14 : Code := cL n25_13
noncomputable def n25_15 : Code := cR n25_13
noncomputable def n25_16 : Code := cR n25_12
noncomputable def n25_17 : Code := cL n25_16
noncomputable def n25_18 : Code := cB n25_17
noncomputable def n25_19 : Code := cR n25_18
noncomputable def n25_20 : Code := cR n25_19
noncomputable def n25_21 : Code := cL n25_20
noncomputable def n25_22 : Code := cR n25_21
noncomputable def n25_23 : Code := cR n25_20
noncomputable def n25_24 : Code := cR n25_16
noncomputable def n25_25 : Code := cR n25_7
noncomputable def n25_26 : Code := cR n25_25
theorem n25_5_eq (Q : Ex × St → Prop) (s : St) : wC Try.prog cx25 n25_5 Q s = Q (.ret, s) := yE
theorem n25_4_eq (Q : Ex × St → Prop) (env : Env) (h : Heap) : wC Try.prog cx25 n25_4 Q ⟨env, h⟩ = ( wC Try.prog cx25 n25_5 Q ⟨(Env.put env 4 (.bool false)), h⟩) := (ySR 2 (cOps (cL n25_4)) (cR n25_4)).trans (by
  refine w0 ?_
  refine wT 4 (.bool false) ?_
  exact wE)
theorem n25_6_eq (Q : Ex × St → Prop) (s : St) : wC Try.prog cx25 n25_6 Q s = Q (.nrm, s) := yK
theorem n25_3_eq (Q : Ex × St → Prop) (s : St) : wC Try.prog cx25 n25_3 Q s = cndW (s.env.get 10) (wL Try.prog cx25 n25_4 Q s) (wL Try.prog cx25 n25_6 Q s) := yC 10 _ _
theorem n25_2_eq (Q : Ex × St → Prop) (env : Env) (h : Heap) : wC Try.prog cx25 n25_2 Q ⟨env, h⟩ = (Evs (mLenS (env.get 0)) fun v1 => Evs (mLenS (env.get 1)) fun v3 => Evs (mBin .neq v1 v3) fun v4 => wC Try.prog cx25 n25_3 Q ⟨(Env.put env 10 v4), h⟩) := (ySR 1 (cOps (cL n25_2)) (cR n25_2)).trans (by
  refine w0 ?_
  refine wT 6 (env.get 0) ?_
  refine wP 7 fun v1 => ?_
  refine wT 8 (env.get 1) ?_
  refine wP 9 fun v3 => ?_
  refine wP 10 fun v4 => ?_
  exact wE)
theorem n25_14_eq (Q : Ex × St → Prop) (s : St) : wC Try.prog cx25 n25_14 Q s = Q (.nrm, s) := yK
theorem n25_15_eq (Q : Ex × St → Prop) (s : St) : wC Try.prog cx25 n25_15 Q s = Q (.exit 0, s) := yX 0
theorem n25_13_eq (Q : Ex × St → Prop) (s : St) : wC Try.prog cx25 n25_13 Q s = cndW (s.env.get 14) (wL Try.prog cx25 n25_14 Q s) (wL Try.prog cx25 n25_15 Q s) := yC 14 _ _
theorem n25_22_eq (Q : Ex × St → Prop) (s : St) : wC Try.prog cx25 n25_22 Q s = Q (.ret, s) := yE
theorem n25_21_eq (Q : Ex × St → Prop) (env : Env) (h : Heap) : wC Try.prog cx25 n25_21 Q ⟨env, h⟩ = ( wC Try.prog cx25 n25_22 Q ⟨(Env.put env 4 (.bool false)), h⟩) := (ySR 7 (cOps (cL n25_21)) (cR n25_21)).trans (by
  refine w0 ?_
  refine wT 4 (.bool false) ?_
  exact wE)
theorem n25_23_eq (Q : Ex × St → Prop) (s : St) : wC Try.prog cx25 n25_23 Q s = Q (.nrm, s) := yK
theorem n25_20_eq (Q : Ex × St → Prop) (s : St) : wC Try.prog cx25 n25_20 Q s = cndW (s.env.get 24) (wL Try.prog cx25 n25_21 Q s) (wL Try.prog cx25 n25_23 Q s) := yC 24 _ _
theorem n25_19_ok : treeOk (cOps (cL n25_19)).toList [] [0, 0, 3, 7, 0, 0, 48, 112, 255] = true := by kernel_rfl
theorem n25_19_w (Q : Ex × St → Prop) (env : Env) (h : Heap) (H : Evs (mIdxS tInvite (env.get 0) (env.get 5)) fun v2_1 => Evs (mLoad tInvite v2_1 h) fun v3_2 => Evs (mIdxS tInvite (env.get 1) (env.get 5)) fun v6_3 => Evs (mLoad tInvite v6_3 h) fun v7_4 => Evs (mEq tInvite .neq v3_2 v7_4) fun v8_5 => wC Try.prog cx25 n25_20 Q ⟨(Env.put env 24 v8_5), h⟩) : wC Try.prog cx25 n25_19 Q ⟨env, h⟩ := by
  refine ySD 6 (cOps (cL n25_19)) (cR n25_19) [] [0, 0, 3, 7, 0, 0, 48, 112, 255] [0, 1, 2, 3, 4, 5, 6, 7, 8] n25_19_ok ?_
  refine rT 16 (env.get 0) ?_
  refine rT 17 (env.get 5) ?_
  refine rP H 18 fun v2_1 H => ?_
  refine rP H 19 fun v3_2 H => ?_
  refine rT 20 (env.get 1) ?_
  refine rT 21 (env.get 5) ?_
  refine rP H 22 fun v6_3 H => ?_
  refine rP H 23 fun v7_4 H => ?_
  refine rP H 24 fun v8_5 H => ?_
  refine rE ?_
  exact tE H
theorem n25_18_eq (Q : Ex × St → Prop) (env : Env) (h : Heap) : wC Try.prog cx25 n25_18 Q ⟨env, h⟩ = ( wC Try.prog cx25 n25_19 Q ⟨(Env.put env 5 (env.get 13)), h⟩) := (ySR 5 (cOps (cL n25_18)) (cR n25_18)).trans (by
  refine w0 ?_
  refine wT 15 (env.get 13) ?_
  refine wT 5 (env.get 13) ?_
  exact wE)
theorem n25_17_eq (Q : Ex × St → Prop) (s : St) : wC Try.prog cx25 n25_17 Q s = wC Try.prog cx25 n25_18 (fun r => Q (inBlk 1 r)) s := yB 1 _
theorem n25_24_eq (Q : Ex × St → Prop) (env : Env) (h : Heap) : wC Try.prog cx25 n25_24 Q ⟨env, h⟩ = (Evs (mBin .add (env.get 13) (nat 1)) fun v0 => Q (.nrm, ⟨(Env.put env 13 v0), h⟩)) := (yR 8 (cOps n25_24)).trans (by
  refine w0 ?_
  refine wP 25 fun v0 => ?_
  refine wT 13 v0 ?_
  exact wE)
theorem n25_16_eq (Q : Ex × St → Prop) (s : St) : wC Try.prog cx25 n25_16 Q s = wC Try.prog cx25 n25_17 (sqW (wC Try.prog cx25 n25_24) Q) s := yS _ _
theorem n25_12_eq (Q : Ex × St → Prop) (s : St) : wC Try.prog cx25 n25_12 Q s = wC Try.prog cx25 n25_13 (sqW (wC Try.prog cx25 n25_16) Q) s := yS _ _
theorem n25_11_eq (Q : Ex × St → Prop) (env : Env) (h : Heap) : wC Try.prog cx25 n25_11 Q ⟨env, h⟩ = (Evs (mBin .lss (env.get 13) (env.get 12)) fun v0 => wC Try.prog cx25 n25_12 Q ⟨(Env.put env 14 v0), h⟩) := (ySR 4 (cOps (cL n25_11)) (cR n25_11)).trans (by
  refine w0 ?_
  refine wP 14 fun v0 => ?_
  exact wE)
theorem n25_10_eq (Q : Ex × St → Prop) (s : St) : wC Try.prog cx25 n25_10 Q s = loopW (wC Try.prog cx25 n25_11) Q s := yL _
theorem n25_9_eq (Q : Ex × St → Prop) (s : St) : wC Try.prog cx25 n25_9 Q s = wC Try.prog cx25 n25_10 (fun r => Q (inBlk 0 r)) s := yB 0 _
theorem n25_8_eq (Q : Ex × St → Prop) (env : Env) (h : Heap) : wC Try.prog cx25 n25_8 Q ⟨env, h⟩ = (Evs (mLenS (env.get 0)) fun v1 => wC Try.prog cx25 n25_9 Q ⟨(Env.put (Env.put env 12 v1) 13 (nat 0)), h⟩) := (ySR 3 (cOps (cL n25_8)) (cR n25_8)).trans (by
  refine w0 ?_
  refine wT 11 (env.get 0) ?_
  refine wP 12 fun v1 => ?_
  refine wT 13 (nat 0) ?_
  exact wE)
theorem n25_26_eq (Q : Ex × St → Prop) (s : St) : wC Try.prog cx25 n25_26 Q s = Q (.ret, s) := yE
theorem n25_25_eq (Q : Ex × St → Prop) (env : Env) (h : Heap) : wC Try.prog cx25 n25_25 Q ⟨env, h⟩ = ( wC Try.prog cx25 n25_26 Q ⟨(Env.put env 4 (.bool true)), h⟩) := (ySR 9 (cOps (cL n25_25)) (cR n25_25)).trans (by
  refine w0 ?_
  refine wT 4 (.bool true) ?_
  exact wE)
theorem n25_7_eq (Q : Ex × St → Prop) (s : St) : wC Try.prog cx25 n25_7 Q s = wC Try.prog cx25 n25_8 (sqW (wC Try.prog cx25 n25_25) Q) s := yS _ _
theorem n25_1_eq (Q : Ex × St → Prop) (s : St) : wC Try.prog cx25 n25_1 Q s = wC Try.prog cx25 n25_2 (sqW (wC Try.prog cx25 n25_7) Q) s := yS _ _
theorem n25_0_eq (Q : Ex × St → Prop) (env : Env) (h : Heap) : wC Try.prog cx25 n25_0 Q ⟨env, h⟩ = ( wC Try.prog cx25 n25_1 Q ⟨(Env.put env 4 (.bool false)), h⟩) := (ySR 0 (cOps (cL n25_0)) (cR n25_0)).trans (by
  refine w0 ?_
  refine wT 4 (.bool false) ?_
  exact wE)
theorem fn25 : Try.prog.funcs[25]? = some Try.f25 := by kernel_rfl
theorem q25 {a0 a1 : AV} {h : Heap} {K : AV × Heap → Prop} (H : ∀ env : Env, env.get 0 = a0 → env.get 1 = a1 → wC Try.prog cx25 n25_0 (retW (fun s => (bnd (some (s.env.get 4)) fun v => bnd (some []) fun vs => some (v :: vs))) K) ⟨env, h⟩) : SpecQ Try.prog 25 [a0, a1] h K :=
  bodyW_sound (C := cx25) TT_ok mixed_ok fn25 (by kernel_rfl) (show _ = some n25_0 by kernel_rfl) (by kernel_rfl) (by kernel_rfl) (of_decide_eq_true (by kernel_rfl)) ((show wC Try.prog cx25 n25_0 (retW (fun s => resAll cx25 s Try.f25.results.toList) K) ⟨env0 cx25 [a0, a1], h⟩ = wC Try.prog cx25 n25_0 (retW (fun s => (bnd (some (s.env.get 4)) fun v => bnd (some []) fun vs => some (v :: vs))) K) ⟨[(0, a0), (1, a1), (2, .junk), (3, .junk), (4, .junk), (5, .junk), (10, .junk), (12, .junk), (13, .junk), (14, .junk), (24, .junk)], h⟩ by kernel_rfl).mpr (H [(0, a0), (1, a1), (2, .junk), (3, .junk), (4, .junk), (5, .junk), (10, .junk), (12, .junk), (13, .junk), (14, .junk), (24, .junk)] rfl rfl))
def sn25 := And.intro n25_5_eq (And.intro n25_4_eq (And.intro n25_6_eq (And.intro n25_3_eq (And.intro n25_2_eq (And.intro n25_14_eq (And.intro n25_15_eq (And.intro n25_13_eq (And.intro n25_22_eq (And.intro n25_21_eq (And.intro n25_23_eq (And.intro n25_20_eq (And.intro n25_18_eq (And.intro n25_17_eq (And.intro n25_24_eq (And.intro n25_16_eq (And.intro n25_12_eq (And.intro n25_11_eq (And.intro n25_10_eq (And.intro n25_9_eq (And.intro n25_8_eq (And.intro n25_26_eq (And.intro n25_25_eq (And.intro n25_7_eq (And.intro n25_1_eq (n25_0_eq)))))))))))))))))))))))))
-- draws: n25_19
end Go.Vab

/- How the code of a function is read. Printed by wip/tools/gen2.py (own work). -/
namespace Go.Vab
open Go Go.Proofs
/-! slices.Equal[[]vestry/api.Ask,vestry/api.Ask] -/
def cx26 : Ctx := ⟨fun _ _ _ => none, TT, 26, [6, 7, 8, 9, 11, 15, 16, 17, 18, 19, 20, 21, 22, 23, 25]⟩
noncomputable def n26_0 : Code := bodyOf Try.f26
noncomputable def n26_1 : Code := cR n26_0
noncomputable def n26_2 : Code := cL n26_1
noncomputable def n26_3 : Code := cR n26_2
noncomputable def n26_4 : Code := cL n26_3
noncomputable def n26_5 : Code := cR n26_4
noncomputable def n26_6 : Code := cR n26_3
noncomputable def n26_7 : Code := cR n26_1
noncomputable def n26_8 : Code := cL n26_7
noncomputable def n26_9 : Code := cR n26_8
noncomputable def n26_10 : Code := cB n26_9
noncomputable def n26_11 : Code := cB n26_10
noncomputable def n26_12 : Code := cR n26_11
noncomputable def n26_13 : Code := cL n26_12
noncomputable def n26_14 : Code := cL n26_13
noncomputable def n26_15 : Code := cR n26_13
noncomputable def n26_16 : Code := cR n26_12
noncomputable def n26_17 : Code := cL n26_16
noncomputable def n26_18 : Code := cB n26_17
noncomputable def n26_19 : Code := cR n26_18
noncomputable def n26_20 : Code := cR n26_19
noncomputable def n26_21 : Code := cL n26_20
noncomputable def n26_22 : Code := cR n26_21
noncomputable def n26_23 : Code := cR n26_20
noncomputable def n26_24 : Code := cR n26_16
noncomputable def n26_25 : Code := cR n26_7
noncomputable def n26_26 : Code := cR n26_25
theorem n26_5_eq (Q : Ex × St → Prop) (s : St) : wC Try.prog cx26 n26_5 Q s = Q (.ret, s) := yE
theorem n26_4_eq (Q : Ex × St → Prop) (env : Env) (h : Heap) : wC Try.prog cx26 n26_4 Q ⟨env, h⟩ = ( wC Try.prog cx26 n26_5 Q ⟨(Env.put env 4 (.bool false)), h⟩) := (ySR 2 (cOps (cL n26_4)) (cR n26_4)).trans (by
  refine w0 ?_
  refine wT 4 (.bool false) ?_
  exact wE)
theorem n26_6_eq (Q : Ex × St → Prop) (s : St) : wC Try.prog cx26 n26_6 Q s = Q (.nrm, s) := yK
theorem n26_3_eq (Q : Ex × St → Prop) (s : St) : wC Try.prog cx26 n26_3 Q s = cndW (s.env.get 10) (wL Try.prog cx26 n26_4 Q s) (wL Try.prog cx26 n26_6 Q s) := yC 10 _ _
theorem n26_2_eq (Q : Ex × St → Prop) (env : Env) (h : Heap) : wC Try.prog cx26 n26_2 Q ⟨env, h⟩ = (Evs (mLenS (env.get 0)) fun v1 => Evs (mLenS (env.get 1)) fun v3 => Evs (mBin .neq v1 v3) fun v4 => wC Try.prog cx26 n26_3 Q ⟨(Env.put env 10 v4), h⟩) := (ySR 1 (cOps (cL n26_2)) (cR n26_2)).trans (by
  refine w0 ?_
  refine wT 6 (env.get 0) ?_
  refine wP 7 fun v1 => ?_
  refine wT 8 (env.get 1) ?_
  refine wP 9 fun v3 => ?_
  refine wP 10 fun v4 => ?_
  exact wE)
theorem n26_14_eq (Q : Ex × St → Prop) (s : St) : wC Try.prog cx26 n26_14 Q s = Q (.nrm, s) := yK
theorem n26_15_eq (Q : Ex × St → Prop) (s : St) : wC Try.prog cx26 n26_15 Q s = Q (.exit 0, s) := yX 0
theorem n26_13_eq (Q : Ex × St → Prop) (s : St) : wC Try.prog cx26 n26_13 Q s = cndW (s.env.get 14) (wL Try.prog cx26 n26_14 Q s) (wL Try.prog cx26 n26_15 Q s) := yC 14 _ _
theorem n26_22_eq (Q : Ex × St → Prop) (s : St) : wC Try.prog cx26 n26_22 Q s = Q (.ret, s) := yE
theorem n26_21_eq (Q : Ex × St → Prop) (env : Env) (h : Heap) : wC Try.prog cx26 n26_21 Q ⟨env, h⟩ = ( wC Try.prog cx26 n26_22 Q ⟨(Env.put env 4 (.bool false)), h⟩) := (ySR 7 (cOps (cL n26_21)) (cR n26_21)).trans (by
  refine w0 ?_
  refine wT 4 (.bool false) ?_
  exact wE)
theorem n26_23_eq (Q : Ex × St → Prop) (s : St) : wC Try.prog cx26 n26_23 Q s = Q (.nrm, s) := yK
theorem n26_20_eq (Q : Ex × St → Prop) (s : St) : wC Try.prog cx26 n26_20 Q s = cndW (s.env.get 24) (wL Try.prog cx26 n26_21 Q s) (wL Try.prog cx26 n26_23 Q s) := yC 24 _ _
theorem n26_19_ok : treeOk (cOps (cL n26_19)).toList [] [0, 0, 3, 7, 0, 0, 48, 112, 255] = true := by kernel_rfl
theorem n26_19_w (Q : Ex × St → Prop) (env : Env) (h : Heap) (H : Evs (mIdxS tAsk (env.get 0) (env.get 5)) fun v2_1 => Evs (mLoad tAsk v2_1 h) fun v3_2 => Evs (mIdxS tAsk (env.get 1) (env.get 5)) fun v6_3 => Evs (mLoad tAsk v6_3 h) fun v7_4 => Evs (mEq tAsk .neq v3_2 v7_4) fun v8_5 => wC Try.prog cx26 n26_20 Q ⟨(Env.put env 24 v8_5), h⟩) : wC Try.prog cx26 n26_19 Q ⟨env, h⟩ := by
  refine ySD 6 (cOps (cL n26_19)) (cR n26_19) [] [0, 0, 3, 7, 0, 0, 48, 112, 255] [0, 1, 2, 3, 4, 5, 6, 7, 8] n26_19_ok ?_
  refine rT 16 (env.get 0) ?_
  refine rT 17 (env.get 5) ?_
  refine rP H 18 fun v2_1 H => ?_
  refine rP H 19 fun v3_2 H => ?_
  refine rT 20 (env.get 1) ?_
  refine rT 21 (env.get 5) ?_
  refine rP H 22 fun v6_3 H => ?_
  refine rP H 23 fun v7_4 H => ?_
  refine rP H 24 fun v8_5 H => ?_
  refine rE ?_
  exact tE H
theorem n26_18_eq (Q : Ex × St → Prop) (env : Env) (h : Heap) : wC Try.prog cx26 n26_18 Q ⟨env, h⟩ = ( wC Try.prog cx26 n26_19 Q ⟨(Env.put env 5 (env.get 13)), h⟩) := (ySR 5 (cOps (cL n26_18)) (cR n26_18)).trans (by
  refine w0 ?_
  refine wT 15 (env.get 13) ?_
  refine wT 5 (env.get 13) ?_
  exact wE)
theorem n26_17_eq (Q : Ex × St → Prop) (s : St) : wC Try.prog cx26 n26_17 Q s = wC Try.prog cx26 n26_18 (fun r => Q (inBlk 1 r)) s := yB 1 _
theorem n26_24_eq (Q : Ex × St → Prop) (env : Env) (h : Heap) : wC Try.prog cx26 n26_24 Q ⟨env, h⟩ = (Evs (mBin .add (env.get 13) (nat 1)) fun v0 => Q (.nrm, ⟨(Env.put env 13 v0), h⟩)) := (yR 8 (cOps n26_24)).trans (by
  refine w0 ?_
  refine wP 25 fun v0 => ?_
  refine wT 13 v0 ?_
  exact wE)
theorem n26_16_eq (Q : Ex × St → Prop) (s : St) : wC Try.prog cx26 n26_16 Q s = wC Try.prog cx26 n26_17 (sqW (wC Try.prog cx26 n26_24) Q) s := yS _ _
theorem n26_12_eq (Q : Ex × St → Prop) (s : St) : wC Try.prog cx26 n26_12 Q s = wC Try.prog cx26 n26_13 (sqW (wC Try.prog cx26 n26_16) Q) s := yS _ _
theorem n26_11_eq (Q : Ex × St → Prop) (env : Env) (h : Heap) : wC Try.prog cx26 n26_11 Q ⟨env, h⟩ = (Evs (mBin .lss (env.get 13) (env.get 12)) fun v0 => wC Try.prog cx26 n26_12 Q ⟨(Env.put env 14 v0), h⟩) := (ySR 4 (cOps (cL n26_11)) (cR n26_11)).trans (by
  refine w0 ?_
  refine wP 14 fun v0 => ?_
  exact wE)
theorem n26_10_eq (Q : Ex × St → Prop) (s : St) : wC Try.prog cx26 n26_10 Q s = loopW (wC Try.prog cx26 n26_11) Q s := yL _
theorem n26_9_eq (Q : Ex × St → Prop) (s : St) : wC Try.prog cx26 n26_9 Q s = wC Try.prog cx26 n26_10 (fun r => Q (inBlk 0 r)) s := yB 0 _
theorem n26_8_eq (Q : Ex × St → Prop) (env : Env) (h : Heap) : wC Try.prog cx26 n26_8 Q ⟨env, h⟩ = (Evs (mLenS (env.get 0)) fun v1 => wC Try.prog cx26 n26_9 Q ⟨(Env.put (Env.put env 12 v1) 13 (nat 0)), h⟩) := (ySR 3 (cOps (cL n26_8)) (cR n26_8)).trans (by
  refine w0 ?_
  refine wT 11 (env.get 0) ?_
  refine wP 12 fun v1 => ?_
  refine wT 13 (nat 0) ?_
  exact wE)
theorem n26_26_eq (Q : Ex × St → Prop) (s : St) : wC Try.prog cx26 n26_26 Q s = Q (.ret, s) := yE
theorem n26_25_eq (Q : Ex × St → Prop) (env : Env) (h : Heap) : wC Try.prog cx26 n26_25 Q ⟨env, h⟩ = ( wC Try.prog cx26 n26_26 Q ⟨(Env.put env 4 (.bool true)), h⟩) := (ySR 9 (cOps (cL n26_25)) (cR n26_25)).trans (by
  refine w0 ?_
  refine wT 4 (.bool true) ?_
  exact wE)
theorem n26_7_eq (Q : Ex × St → Prop) (s : St) : wC Try.prog cx26 n26_7 Q s = wC Try.prog cx26 n26_8 (sqW (wC Try.prog cx26 n26_25) Q) s := yS _ _
theorem n26_1_eq (Q : Ex × St → Prop) (s : St) : wC Try.prog cx26 n26_1 Q s = wC Try.prog cx26 n26_2 (sqW (wC Try.prog cx26 n26_7) Q) s := yS _ _
theorem n26_0_eq (Q : Ex × St → Prop) (env : Env) (h : Heap) : wC Try.prog cx26 n26_0 Q ⟨env, h⟩ = ( wC Try.prog cx26 n26_1 Q ⟨(Env.put env 4 (.bool false)), h⟩) := (ySR 0 (cOps (cL n26_0)) (cR n26_0)).trans (by
  refine w0 ?_
  refine wT 4 (.bool false) ?_
  exact wE)
theorem fn26 : Try.prog.funcs[26]? = some Try.f26 := by kernel_rfl
theorem q26 {a0 a1 : AV} {h : Heap} {K : AV × Heap → Prop} (H : ∀ env : Env, env.get 0 = a0 → env.get 1 = a1 → wC Try.prog cx26 n26_0 (retW (fun s => (bnd (some (s.env.get 4)) fun v => bnd (some []) fun vs => some (v :: vs))) K) ⟨env, h⟩) : SpecQ Try.prog 26 [a0, a1] h K :=
  bodyW_sound (C := cx26) TT_ok mixed_ok fn26 (by kernel_rfl) (show _ = some n26_0 by kernel_rfl) (by kernel_rfl) (by kernel_rfl) (of_decide_eq_true (by kernel_rfl)) ((show wC Try.prog cx26 n26_0 (retW (fun s => resAll cx26 s Try.f26.results.toList) K) ⟨env0 cx26 [a0, a1], h⟩ = wC Try.prog cx26 n26_0 (retW (fun s => (bnd (some (s.env.get 4)) fun v => bnd (some []) fun vs => some (v :: vs))) K) ⟨[(0, a0), (1, a1), (2, .junk), (3, .junk), (4, .junk), (5, .junk), (10, .junk), (12, .junk), (13, .junk), (14, .junk), (24, .junk)], h⟩ by kernel_rfl).mpr (H [(0, a0), (1, a1), (2, .junk), (3, .junk), (4, .junk), (5, .junk), (10, .junk), (12, .junk), (13, .junk), (14, .junk), (24, .junk)] rfl rfl))
def sn26 := And.intro n26_5_eq (And.intro n26_4_eq (And.intro n26_6_eq (And.intro n26_3_eq (And.intro n26_2_eq (And.intro n26_14_eq (And.intro n26_15_eq (And.intro n26_13_eq (And.intro n26_22_eq (And.intro n26_21_eq (And.intro n26_23_eq (And.intro n26_20_eq (And.intro n26_18_eq (And.intro n26_17_eq (And.intro n26_24_eq (And.intro n26_16_eq (And.intro n26_12_eq (And.intro n26_11_eq (And.intro n26_10_eq (And.intro n26_9_eq (And.intro n26_8_eq (And.intro n26_26_eq (And.intro n26_25_eq (And.intro n26_7_eq (And.intro n26_1_eq (n26_0_eq)))))))))))))))))))))))))
-- draws: n26_19
end Go.Vab

/- How the code of a function is read. Printed by wip/tools/gen2.py (own work). -/
namespace Go.Vab
open Go Go.Proofs
/-! slices.Equal[[]vestry/api.Ban,vestry/api.Ban] -/
def cx27 : Ctx := ⟨fun _ _ _ => none, TT, 26, [6, 7, 8, 9, 11, 15, 16, 17, 18, 19, 20, 21, 22, 23, 25]⟩
noncomputable def n27_0 : Code := bodyOf Try.f27
noncomputable def n27_1 : Code := cR n27_0
noncomputable def n27_2 : Code := cL n27_1
noncomputable def n27_3 : Code := cR n27_2
noncomputable def n27_4 : Code := cL n27_3
noncomputable def n27_5 : Code := cR n27_4
noncomputable def n27_6 : Code := cR n27_3
noncomputable def n27_7 : Code := cR n27_1
noncomputable def n27_8 : Code := cL n27_7
noncomputable def n27_9 : Code := cR n27_8
noncomputable def n27_10 : Code := cB n27_9
noncomputable def n27_11 : Code := cB n27_10
noncomputable def n27_12 : Code := cR n27_11
noncomputable def n27_13 : Code := cL n27_12
noncomputable def n27_14 : Code := cL n27_13
noncomputable def n27_15 : Code := cR n27_13
noncomputable def n27_16 : Code := cR n27_12
noncomputable def n27_17 : Code := cL n27_16
noncomputable def n27_18 : Code := cB n27_17
noncomputable def n27_19 : Code := cR n27_18
noncomputable def n27_20 : Code := cR n27_19
noncomputable def n27_21 : Code := cL n27_20
noncomputable def n27_22 : Code := cR n27_21
noncomputable def n27_23 : Code := cR n27_20
noncomputable def n27_24 : Code := cR n27_16
noncomputable def n27_25 : Code := cR n27_7
noncomputable def n27_26 : Code := cR n27_25
theorem n27_5_eq (Q : Ex × St → Prop) (s : St) : wC Try.prog cx27 n27_5 Q s = Q (.ret, s) := yE
theorem n27_4_eq (Q : Ex × St → Prop) (env : Env) (h : Heap) : wC Try.prog cx27 n27_4 Q ⟨env, h⟩ = ( wC Try.prog cx27 n27_5 Q ⟨(Env.put env 4 (.bool false)), h⟩) := (ySR 2 (cOps (cL n27_4)) (cR n27_4)).trans (by
  refine w0 ?_
  refine wT 4 (.bool false) ?_
  exact wE)
theorem n27_6_eq (Q : Ex × St → Prop) (s : St) : wC Try.prog cx27 n27_6 Q s = Q (.nrm, s) := yK
theorem n27_3_eq (Q : Ex × St → Prop) (s : St) : wC Try.prog cx27 n27_3 Q s = cndW (s.env.get 10) (wL Try.prog cx27 n27_4 Q s) (wL Try.prog cx27 n27_6 Q s) := yC 10 _ _
theorem n27_2_eq (Q : Ex × St → Prop) (env : Env) (h : Heap) : wC Try.prog cx27 n27_2 Q ⟨env, h⟩ = (Evs (mLenS (env.get 0)) fun v1 => Evs (mLenS (env.get 1)) fun v3 => Evs (mBin .neq v1 v3) fun v4 => wC Try.prog cx27 n27_3 Q ⟨(Env.put env 10 v4), h⟩) := (ySR 1 (cOps (cL n27_2)) (cR n27_2)).trans (by
  refine w0 ?_
  refine wT 6 (env.get 0) ?_
  refine wP 7 fun v1 => ?_
  refine wT 8 (env.get 1) ?_
  refine wP 9 fun v3 => ?_
  refine wP 10 fun v4 => ?_
  exact wE)
theorem n27_14_eq (Q : Ex × St → Prop) (s : St) : wC Try.prog cx27 n27_14 Q s = Q (.nrm, s) := yK
theorem n27_15_eq (Q : Ex × St → Prop) (s : St) : wC Try.prog cx27 n27_15 Q s = Q (.exit 0, s) := yX 0
theorem n27_13_eq (Q : Ex × St → Prop) (s : St) : wC Try.prog cx27 n27_13 Q s = cndW (s.env.get 14) (wL Try.prog cx27 n27_14 Q s) (wL Try.prog cx27 n27_15 Q s) := yC 14 _ _
theorem n27_22_eq (Q : Ex × St → Prop) (s : St) : wC Try.prog cx27 n27_22 Q s = Q (.ret, s) := yE
theorem n27_21_eq (Q : Ex × St → Prop) (env : Env) (h : Heap) : wC Try.prog cx27 n27_21 Q ⟨env, h⟩ = ( wC Try.prog cx27 n27_22 Q ⟨(Env.put env 4 (.bool false)), h⟩) := (ySR 7 (cOps (cL n27_21)) (cR n27_21)).trans (by
  refine w0 ?_
  refine wT 4 (.bool false) ?_
  exact wE)
theorem n27_23_eq (Q : Ex × St → Prop) (s : St) : wC Try.prog cx27 n27_23 Q s = Q (.nrm, s) := yK
theorem n27_20_eq (Q : Ex × St → Prop) (s : St) : wC Try.prog cx27 n27_20 Q s = cndW (s.env.get 24) (wL Try.prog cx27 n27_21 Q s) (wL Try.prog cx27 n27_23 Q s) := yC 24 _ _
theorem n27_19_ok : treeOk (cOps (cL n27_19)).toList [] [0, 0, 3, 7, 0, 0, 48, 112, 255] = true := by kernel_rfl
theorem n27_19_w (Q : Ex × St → Prop) (env : Env) (h : Heap) (H : Evs (mIdxS tBan (env.get 0) (env.get 5)) fun v2_1 => Evs (mLoad tBan v2_1 h) fun v3_2 => Evs (mIdxS tBan (env.get 1) (env.get 5)) fun v6_3 => Evs (mLoad tBan v6_3 h) fun v7_4 => Evs (mEq tBan .neq v3_2 v7_4) fun v8_5 => wC Try.prog cx27 n27_20 Q ⟨(Env.put env 24 v8_5), h⟩) : wC Try.prog cx27 n27_19 Q ⟨env, h⟩ := by
  refine ySD 6 (cOps (cL n27_19)) (cR n27_19) [] [0, 0, 3, 7, 0, 0, 48, 112, 255] [0, 1, 2, 3, 4, 5, 6, 7, 8] n27_19_ok ?_
  refine rT 16 (env.get 0) ?_
  refine rT 17 (env.get 5) ?_
  refine rP H 18 fun v2_1 H => ?_
  refine rP H 19 fun v3_2 H => ?_
  refine rT 20 (env.get 1) ?_
  refine rT 21 (env.get 5) ?_
  refine rP H 22 fun v6_3 H => ?_
  refine rP H 23 fun v7_4 H => ?_
  refine rP H 24 fun v8_5 H => ?_
  refine rE ?_
  exact tE H
theorem n27_18_eq (Q : Ex × St → Prop) (env : Env) (h : Heap) : wC Try.prog cx27 n27_18 Q ⟨env, h⟩ = ( wC Try.prog cx27 n27_19 Q ⟨(Env.put env 5 (env.get 13)), h⟩) := (ySR 5 (cOps (cL n27_18)) (cR n27_18)).trans (by
  refine w0 ?_
  refine wT 15 (env.get 13) ?_
  refine wT 5 (env.get 13) ?_
  exact wE)
theorem n27_17_eq (Q : Ex × St → Prop) (s : St) : wC Try.prog cx27 n27_17 Q s = wC Try.prog cx27 n27_18 (fun r => Q (inBlk 1 r)) s := yB 1 _
theorem n27_24_eq (Q : Ex × St → Prop) (env : Env) (h : Heap) : wC Try.prog cx27 n27_24 Q ⟨env, h⟩ = (Evs (mBin .add (env.get 13) (nat 1)) fun v0 => Q (.nrm, ⟨(Env.put env 13 v0), h⟩)) := (yR 8 (cOps n27_24)).trans (by
  refine w0 ?_
  refine wP 25 fun v0 => ?_
  refine wT 13 v0 ?_
  exact wE)
theorem n27_16_eq (Q : Ex × St → Prop) (s : St) : wC Try.prog cx27 n27_16 Q s = wC Try.prog cx27 n27_17 (sqW (wC Try.prog cx27 n27_24) Q) s := yS _ _
theorem n27_12_eq (Q : Ex × St → Prop) (s : St) : wC Try.prog cx27 n27_12 Q s = wC Try.prog cx27 n27_13 (sqW (wC Try.prog cx27 n27_16) Q) s := yS _ _
theorem n27_11_eq (Q : Ex × St → Prop) (env : Env) (h : Heap) : wC Try.prog cx27 n27_11 Q ⟨env, h⟩ = (Evs (mBin .lss (env.get 13) (env.get 12)) fun v0 => wC Try.prog cx27 n27_12 Q ⟨(Env.put env 14 v0), h⟩) := (ySR 4 (cOps (cL n27_11)) (cR n27_11)).trans (by
  refine w0 ?_
  refine wP 14 fun v0 => ?_
  exact wE)
theorem n27_10_eq (Q : Ex × St → Prop) (s : St) : wC Try.prog cx27 n27_10 Q s = loopW (wC Try.prog cx27 n27_11) Q s := yL _
theorem n27_9_eq (Q : Ex × St → Prop) (s : St) : wC Try.prog cx27 n27_9 Q s = wC Try.prog cx27 n27_10 (fun r => Q (inBlk 0 r)) s := yB 0 _
theorem n27_8_eq (Q : Ex × St → Prop) (env : Env) (h : Heap) : wC Try.prog cx27 n27_8 Q ⟨env, h⟩ = (Evs (mLenS (env.get 0)) fun v1 => wC Try.prog cx27 n27_9 Q ⟨(Env.put (Env.put env 12 v1) 13 (nat 0)), h⟩) := (ySR 3 (cOps (cL n27_8)) (cR n27_8)).trans (by
  refine w0 ?_
  refine wT 11 (env.get 0) ?_
  refine wP 12 fun v1 => ?_
  refine wT 13 (nat 0) ?_
  exact wE)
theorem n27_26_eq (Q : Ex × St → Prop) (s : St) : wC Try.prog cx27 n27_26 Q s = Q (.ret, s) := yE
theorem n27_25_eq (Q : Ex × St → Prop) (env : Env) (h : Heap) : wC Try.prog cx27 n27_25 Q ⟨env, h⟩ = ( wC Try.prog cx27 n27_26 Q ⟨(Env.put env 4 (.bool true)), h⟩) := (ySR 9 (cOps (cL n27_25)) (cR n27_25)).trans (by
  refine w0 ?_
  refine wT 4 (.bool true) ?_
  exact wE)
theorem n27_7_eq (Q : Ex × St → Prop) (s : St) : wC Try.prog cx27 n27_7 Q s = wC Try.prog cx27 n27_8 (sqW (wC Try.prog cx27 n27_25) Q) s := yS _ _
theorem n27_1_eq (Q : Ex × St → Prop) (s : St) : wC Try.prog cx27 n27_1 Q s = wC Try.prog cx27 n27_2 (sqW (wC Try.prog cx27 n27_7) Q) s := yS _ _
theorem n27_0_eq (Q : Ex × St → Prop) (env : Env) (h : Heap) : wC Try.prog cx27 n27_0 Q ⟨env, h⟩ = ( wC Try.prog cx27 n27_1 Q ⟨(Env.put env 4 (.bool false)), h⟩) := (ySR 0 (cOps (cL n27_0)) (cR n27_0)).trans (by
  refine w0 ?_
  refine wT 4 (.bool false) ?_
  exact wE)
theorem fn27 : Try.prog.funcs[27]? = some Try.f27 := by kernel_rfl
theorem q27 {a0 a1 : AV} {h : Heap} {K : AV × Heap → Prop} (H : ∀ env : Env, env.get 0 = a0 → env.get 1 = a1 → wC Try.prog cx27 n27_0 (retW (fun s => (bnd (some (s.env.get 4)) fun v => bnd (some []) fun vs => some (v :: vs))) K) ⟨env, h⟩) : SpecQ Try.prog 27 [a0, a1] h K :=
  bodyW_sound (C := cx27) TT_ok mixed_ok fn27 (by kernel_rfl) (show _ = some n27_0 by kernel_rfl) (by kernel_rfl) (by kernel_rfl) (of_decide_eq_true (by kernel_rfl)) ((show wC Try.prog cx27 n27_0 (retW (fun s => resAll cx27 s Try.f27.results.toList) K) ⟨env0 cx27 [a0, a1], h⟩ = wC Try.prog cx27 n27_0 (retW (fun s => (bnd (some (s.env.get 4)) fun v => bnd (some []) fun vs => some (v :: vs))) K) ⟨[(0, a0), (1, a1), (2, .junk), (3, .junk), (4, .junk), (5, .junk), (10, .junk), (12, .junk), (13, .junk), (14, .junk), (24, .junk)], h⟩ by kernel_rfl).mpr (H [(0, a0), (1, a1), (2, .junk), (3, .junk), (4, .junk), (5, .junk), (10, .junk), (12, .junk), (13, .junk), (14, .junk), (24, .junk)] rfl rfl))
def sn27 := And.intro n27_5_eq (And.intro n27_4_eq (And.intro n27_6_eq (And.intro n27_3_eq (And.intro n27_2_eq (And.intro n27_14_eq (And.intro n27_15_eq (And.intro n27_13_eq (And.intro n27_22_eq (And.intro n27_21_eq (And.intro n27_23_eq (And.intro n27_20_eq (And.intro n27_18_eq (And.intro n27_17_eq (And.intro n27_24_eq (And.intro n27_16_eq (And.intro n27_12_eq (And.intro n27_11_eq (And.intro n27_10_eq (And.intro n27_9_eq (And.intro n27_8_eq (And.intro n27_26_eq (And.intro n27_25_eq (And.intro n27_7_eq (And.intro n27_1_eq (n27_0_eq)))))))))))))))))))))))))
-- draws: n27_19
end Go.Vab

/-
  slices.Equal, walked.
-/
namespace Go.Vab
open Go Go.Proofs

theorem c24 {h : Heap} {x y : AV} {a b : List Seat} (hx : Row tSeat h x (a.map eSeat)) (hy : Row tSeat h y (b.map eSeat)) : SpecQ Try.prog 24 [x, y] h fun r => r = (.bool (decide (a = b)), h) := by
  have lx := hx.len
  have ly := hy.len
  have bx := hx.bound
  rw [List.length_map] at lx ly bx
  refine SpecQ.drop1 rfl (q24 fun env g0 g1 => ?_)
  by_cases hl : a.length = b.length
  · rw [← hl] at ly
    repeat' (first
      | ((with_reducible apply evs_of); (focus ((conv => lhs; simp (disch := omega) [g0, g1, lx, ly]); done)); try dsimp only)
      | ((with_reducible apply cndW_T); (focus (simp (disch := omega) [g0, g1, lx, ly] <;> omega)))
      | ((with_reducible apply cndW_F); (focus (simp (disch := omega) [g0, g1, lx, ly] <;> omega)))
      | (with_reducible apply wL_i)
      | (simp (decide := true) only [sn24, sqW_nrm, sqW_exit, sqW_ret, inBlk_nrm, inBlk_ret, inBlk_same, inBlk_exit, if_true, if_false, retW_nrm, retW_ret])
      | (with_reducible refine n24_19_w _ _ _ ?_))
    refine loop_up a.length (fun i st => ∃ env', st = ⟨env', h⟩ ∧ env'.get 0 = x ∧ env'.get 1 = y ∧ env'.get 12 = nat a.length ∧ env'.get 13 = nat i ∧ ∀ j, j < i → a[j]? = b[j]?) ?_ ?_ ⟨_, rfl, by simp [g0], by simp [g1], by simp, by simp, fun j hj => absurd hj (by omega)⟩
    · rintro i st hi ⟨env', rfl, e0, e1, e12, e13, hj⟩
      obtain ⟨p, p1, p2⟩ := hx.idx0 (i := i) (by simpa using hi)
      obtain ⟨q, q1, q2⟩ := hy.idx0 (i := i) (by simpa [← hl] using hi)
      rw [List.getElem?_map, List.getElem?_eq_getElem hi] at p2
      rw [List.getElem?_map, List.getElem?_eq_getElem (by omega)] at q2
      simp only [Option.map_some] at p2 q2
      by_cases hab : a[i] = b[i]
      · repeat' (first
          | ((with_reducible apply evs_of); (focus ((conv => lhs; simp (disch := omega) [e0, e1, e12, e13, p1, p2, q1, q2, hab]); done)); try dsimp only)
          | ((with_reducible apply cndW_T); (focus (simp (disch := omega) [e0, e1, e12, e13, p1, p2, q1, q2, hab] <;> omega)))
          | ((with_reducible apply cndW_F); (focus (simp (disch := omega) [e0, e1, e12, e13, p1, p2, q1, q2, hab] <;> omega)))
          | (with_reducible apply wL_i)
          | (simp (decide := true) only [sn24, sqW_nrm, sqW_exit, sqW_ret, inBlk_nrm, inBlk_ret, inBlk_same, inBlk_exit, if_true, if_false, retW_nrm, retW_ret])
          | (with_reducible refine n24_19_w _ _ _ ?_))
        refine .inl ⟨by simp, _, rfl, by simp [e0], by simp [e1], by simp [e12], by simp, fun j hj' => ?_⟩
        by_cases hji : j = i
        · subst hji
          rw [List.getElem?_eq_getElem hi, List.getElem?_eq_getElem (by omega), hab]
        · exact hj j (by omega)
      · repeat' (first
          | ((with_reducible apply evs_of); (focus ((conv => lhs; simp (disch := omega) [e0, e1, e12, e13, p1, p2, q1, q2, hab]); done)); try dsimp only)
          | ((with_reducible apply cndW_T); (focus (simp (disch := omega) [e0, e1, e12, e13, p1, p2, q1, q2, hab] <;> omega)))
          | ((with_reducible apply cndW_F); (focus (simp (disch := omega) [e0, e1, e12, e13, p1, p2, q1, q2, hab] <;> omega)))
          | (with_reducible apply wL_i)
          | (simp (decide := true) only [sn24, sqW_nrm, sqW_exit, sqW_ret, inBlk_nrm, inBlk_ret, inBlk_same, inBlk_exit, if_true, if_false, retW_nrm, retW_ret])
          | (with_reducible refine n24_19_w _ _ _ ?_))
        refine .inr ⟨by simp, ?_⟩
        repeat' (first
          | ((with_reducible apply evs_of); (focus ((conv => lhs; simp (disch := omega) [e0]); done)); try dsimp only)
          | ((with_reducible apply cndW_T); (focus (simp (disch := omega) [e0] <;> omega)))
          | ((with_reducible apply cndW_F); (focus (simp (disch := omega) [e0] <;> omega)))
          | (with_reducible apply wL_i)
          | (simp (decide := true) only [sn24, sqW_nrm, sqW_exit, sqW_ret, inBlk_nrm, inBlk_ret, inBlk_same, inBlk_exit, if_true, if_false, retW_nrm, retW_ret])
          | (with_reducible refine n24_19_w _ _ _ ?_))
        have : a ≠ b := by rintro rfl; exact hab rfl
        exact ⟨[], by simp [oneOrTuple, this]⟩
    · rintro st ⟨env', rfl, e0, e1, e12, e13, hj⟩
      repeat' (first
        | ((with_reducible apply evs_of); (focus ((conv => lhs; simp (disch := omega) [e12, e13]); done)); try dsimp only)
        | ((with_reducible apply cndW_T); (focus (simp (disch := omega) [e12, e13] <;> omega)))
        | ((with_reducible apply cndW_F); (focus (simp (disch := omega) [e12, e13] <;> omega)))
        | (with_reducible apply wL_i)
        | (simp (decide := true) only [sn24, sqW_nrm, sqW_exit, sqW_ret, inBlk_nrm, inBlk_ret, inBlk_same, inBlk_exit, if_true, if_false, retW_nrm, retW_ret])
        | (with_reducible refine n24_19_w _ _ _ ?_))
      refine ⟨by simp, ?_⟩
      repeat' (first
        | ((with_reducible apply evs_of); (focus ((conv => lhs; simp (disch := omega) [e12, e13]); done)); try dsimp only)
        | ((with_reducible apply cndW_T); (focus (simp (disch := omega) [e12, e13] <;> omega)))
        | ((with_reducible apply cndW_F); (focus (simp (disch := omega) [e12, e13] <;> omega)))
        | (with_reducible apply wL_i)
        | (simp (decide := true) only [sn24, sqW_nrm, sqW_exit, sqW_ret, inBlk_nrm, inBlk_ret, inBlk_same, inBlk_exit, if_true, if_false, retW_nrm, retW_ret])
        | (with_reducible refine n24_19_w _ _ _ ?_))
      have : a = b := List.ext_getElem? fun j => by
        by_cases hj' : j < a.length
        · exact hj j hj'
        · rw [List.getElem?_eq_none (by omega), List.getElem?_eq_none (by omega)]
      exact ⟨[], by simp [oneOrTuple, this]⟩
  · repeat' (first
      | ((with_reducible apply evs_of); (focus ((conv => lhs; simp (disch := omega) [g0, g1, lx, ly, hl]); done)); try dsimp only)
      | ((with_reducible apply cndW_T); (focus (simp (disch := omega) [g0, g1, lx, ly, hl] <;> omega)))
      | ((with_reducible apply cndW_F); (focus (simp (disch := omega) [g0, g1, lx, ly, hl] <;> omega)))
      | (with_reducible apply wL_i)
      | (simp (decide := true) only [sn24, sqW_nrm, sqW_exit, sqW_ret, inBlk_nrm, inBlk_ret, inBlk_same, inBlk_exit, if_true, if_false, retW_nrm, retW_ret])
      | (with_reducible refine n24_19_w _ _ _ ?_))
    have : a ≠ b := by rintro rfl; exact hl rfl
    exact ⟨[], by simp [oneOrTuple, this]⟩
theorem c25 {h : Heap} {x y : AV} {a b : List Inv} (hx : Row tInvite h x (a.map eInv)) (hy : Row tInvite h y (b.map eInv)) : SpecQ Try.prog 25 [x, y] h fun r => r = (.bool (decide (a = b)), h) := by
  have lx := hx.len
  have ly := hy.len
  have bx := hx.bound
  rw [List.length_map] at lx ly bx
  refine SpecQ.drop1 rfl (q25 fun env g0 g1 => ?_)
  by_cases hl : a.length = b.length
  · rw [← hl] at ly
    repeat' (first
      | ((with_reducible apply evs_of); (focus ((conv => lhs; simp (disch := omega) [g0, g1, lx, ly]); done)); try dsimp only)
      | ((with_reducible apply cndW_T); (focus (simp (disch := omega) [g0, g1, lx, ly] <;> omega)))
      | ((with_reducible apply cndW_F); (focus (simp (disch := omega) [g0, g1, lx, ly] <;> omega)))
      | (with_reducible apply wL_i)
      | (simp (decide := true) only [sn25, sqW_nrm, sqW_exit, sqW_ret, inBlk_nrm, inBlk_ret, inBlk_same, inBlk_exit, if_true, if_false, retW_nrm, retW_ret])
      | (with_reducible refine n25_19_w _ _ _ ?_))
    refine loop_up a.length (fun i st => ∃ env', st = ⟨env', h⟩ ∧ env'.get 0 = x ∧ env'.get 1 = y ∧ env'.get 12 = nat a.length ∧ env'.get 13 = nat i ∧ ∀ j, j < i → a[j]? = b[j]?) ?_ ?_ ⟨_, rfl, by simp [g0], by simp [g1], by simp, by simp, fun j hj => absurd hj (by omega)⟩
    · rintro i st hi ⟨env', rfl, e0, e1, e12, e13, hj⟩
      obtain ⟨p, p1, p2⟩ := hx.idx0 (i := i) (by simpa using hi)
      obtain ⟨q, q1, q2⟩ := hy.idx0 (i := i) (by simpa [← hl] using hi)
      rw [List.getElem?_map, List.getElem?_eq_getElem hi] at p2
      rw [List.getElem?_map, List.getElem?_eq_getElem (by omega)] at q2
      simp only [Option.map_some] at p2 q2
      by_cases hab : a[i] = b[i]
      · repeat' (first
          | ((with_reducible apply evs_of); (focus ((conv => lhs; simp (disch := omega) [e0, e1, e12, e13, p1, p2, q1, q2, hab]); done)); try dsimp only)
          | ((with_reducible apply cndW_T); (focus (simp (disch := omega) [e0, e1, e12, e13, p1, p2, q1, q2, hab] <;> omega)))
          | ((with_reducible apply cndW_F); (focus (simp (disch := omega) [e0, e1, e12, e13, p1, p2, q1, q2, hab] <;> omega)))
          | (with_reducible apply wL_i)
          | (simp (decide := true) only [sn25, sqW_nrm, sqW_exit, sqW_ret, inBlk_nrm, inBlk_ret, inBlk_same, inBlk_exit, if_true, if_false, retW_nrm, retW_ret])
          | (with_reducible refine n25_19_w _ _ _ ?_))
        refine .inl ⟨by simp, _, rfl, by simp [e0], by simp [e1], by simp [e12], by simp, fun j hj' => ?_⟩
        by_cases hji : j = i
        · subst hji
          rw [List.getElem?_eq_getElem hi, List.getElem?_eq_getElem (by omega), hab]
        · exact hj j (by omega)
      · repeat' (first
          | ((with_reducible apply evs_of); (focus ((conv => lhs; simp (disch := omega) [e0, e1, e12, e13, p1, p2, q1, q2, hab]); done)); try dsimp only)
          | ((with_reducible apply cndW_T); (focus (simp (disch := omega) [e0, e1, e12, e13, p1, p2, q1, q2, hab] <;> omega)))
          | ((with_reducible apply cndW_F); (focus (simp (disch := omega) [e0, e1, e12, e13, p1, p2, q1, q2, hab] <;> omega)))
          | (with_reducible apply wL_i)
          | (simp (decide := true) only [sn25, sqW_nrm, sqW_exit, sqW_ret, inBlk_nrm, inBlk_ret, inBlk_same, inBlk_exit, if_true, if_false, retW_nrm, retW_ret])
          | (with_reducible refine n25_19_w _ _ _ ?_))
        refine .inr ⟨by simp, ?_⟩
        repeat' (first
          | ((with_reducible apply evs_of); (focus ((conv => lhs; simp (disch := omega) [e0]); done)); try dsimp only)
          | ((with_reducible apply cndW_T); (focus (simp (disch := omega) [e0] <;> omega)))
          | ((with_reducible apply cndW_F); (focus (simp (disch := omega) [e0] <;> omega)))
          | (with_reducible apply wL_i)
          | (simp (decide := true) only [sn25, sqW_nrm, sqW_exit, sqW_ret, inBlk_nrm, inBlk_ret, inBlk_same, inBlk_exit, if_true, if_false, retW_nrm, retW_ret])
          | (with_reducible refine n25_19_w _ _ _ ?_))
        have : a ≠ b := by rintro rfl; exact hab rfl
        exact ⟨[], by simp [oneOrTuple, this]⟩
    · rintro st ⟨env', rfl, e0, e1, e12, e13, hj⟩
      repeat' (first
        | ((with_reducible apply evs_of); (focus ((conv => lhs; simp (disch := omega) [e12, e13]); done)); try dsimp only)
        | ((with_reducible apply cndW_T); (focus (simp (disch := omega) [e12, e13] <;> omega)))
        | ((with_reducible apply cndW_F); (focus (simp (disch := omega) [e12, e13] <;> omega)))
        | (with_reducible apply wL_i)
        | (simp (decide := true) only [sn25, sqW_nrm, sqW_exit, sqW_ret, inBlk_nrm, inBlk_ret, inBlk_same, inBlk_exit, if_true, if_false, retW_nrm, retW_ret])
        | (with_reducible refine n25_19_w _ _ _ ?_))
      refine ⟨by simp, ?_⟩
      repeat' (first
        | ((with_reducible apply evs_of); (focus ((conv => lhs; simp (disch := omega) [e12, e13]); done)); try dsimp only)
        | ((with_reducible apply cndW_T); (focus (simp (disch := omega) [e12, e13] <;> omega)))
        | ((with_reducible apply cndW_F); (focus (simp (disch := omega) [e12, e13] <;> omega)))
        | (with_reducible apply wL_i)
        | (simp (decide := true) only [sn25, sqW_nrm, sqW_exit, sqW_ret, inBlk_nrm, inBlk_ret, inBlk_same, inBlk_exit, if_true, if_false, retW_nrm, retW_ret])
        | (with_reducible refine n25_19_w _ _ _ ?_))
      have : a = b := List.ext_getElem? fun j => by
        by_cases hj' : j < a.length
        · exact hj j hj'
        · rw [List.getElem?_eq_none (by omega), List.getElem?_eq_none (by omega)]
      exact ⟨[], by simp [oneOrTuple, this]⟩
  · repeat' (first
      | ((with_reducible apply evs_of); (focus ((conv => lhs; simp (disch := omega) [g0, g1, lx, ly, hl]); done)); try dsimp only)
      | ((with_reducible apply cndW_T); (focus (simp (disch := omega) [g0, g1, lx, ly, hl] <;> omega)))
      | ((with_reducible apply cndW_F); (focus (simp (disch := omega) [g0, g1, lx, ly, hl] <;> omega)))
      | (with_reducible apply wL_i)
      | (simp (decide := true) only [sn25, sqW_nrm, sqW_exit, sqW_ret, inBlk_nrm, inBlk_ret, inBlk_same, inBlk_exit, if_true, if_false, retW_nrm, retW_ret])
      | (with_reducible refine n25_19_w _ _ _ ?_))
    have : a ≠ b := by rintro rfl; exact hl rfl
    exact ⟨[], by simp [oneOrTuple, this]⟩
theorem c26 {h : Heap} {x y : AV} {a b : List Ask} (hx : Row tAsk h x (a.map eAsk)) (hy : Row tAsk h y (b.map eAsk)) : SpecQ Try.prog 26 [x, y] h fun r => r = (.bool (decide (a = b)), h) := by
  have lx := hx.len
  have ly := hy.len
  have bx := hx.bound
  rw [List.length_map] at lx ly bx
  refine SpecQ.drop1 rfl (q26 fun env g0 g1 => ?_)
  by_cases hl : a.length = b.length
  · rw [← hl] at ly
    repeat' (first
      | ((with_reducible apply evs_of); (focus ((conv => lhs; simp (disch := omega) [g0, g1, lx, ly]); done)); try dsimp only)
      | ((with_reducible apply cndW_T); (focus (simp (disch := omega) [g0, g1, lx, ly] <;> omega)))
      | ((with_reducible apply cndW_F); (focus (simp (disch := omega) [g0, g1, lx, ly] <;> omega)))
      | (with_reducible apply wL_i)
      | (simp (decide := true) only [sn26, sqW_nrm, sqW_exit, sqW_ret, inBlk_nrm, inBlk_ret, inBlk_same, inBlk_exit, if_true, if_false, retW_nrm, retW_ret])
      | (with_reducible refine n26_19_w _ _ _ ?_))
    refine loop_up a.length (fun i st => ∃ env', st = ⟨env', h⟩ ∧ env'.get 0 = x ∧ env'.get 1 = y ∧ env'.get 12 = nat a.length ∧ env'.get 13 = nat i ∧ ∀ j, j < i → a[j]? = b[j]?) ?_ ?_ ⟨_, rfl, by simp [g0], by simp [g1], by simp, by simp, fun j hj => absurd hj (by omega)⟩
    · rintro i st hi ⟨env', rfl, e0, e1, e12, e13, hj⟩
      obtain ⟨p, p1, p2⟩ := hx.idx0 (i := i) (by simpa using hi)
      obtain ⟨q, q1, q2⟩ := hy.idx0 (i := i) (by simpa [← hl] using hi)
      rw [List.getElem?_map, List.getElem?_eq_getElem hi] at p2
      rw [List.getElem?_map, List.getElem?_eq_getElem (by omega)] at q2
      simp only [Option.map_some] at p2 q2
      by_cases hab : a[i] = b[i]
      · repeat' (first
          | ((with_reducible apply evs_of); (focus ((conv => lhs; simp (disch := omega) [e0, e1, e12, e13, p1, p2, q1, q2, hab]); done)); try dsimp only)
          | ((with_reducible apply cndW_T); (focus (simp (disch := omega) [e0, e1, e12, e13, p1, p2, q1, q2, hab] <;> omega)))
          | ((with_reducible apply cndW_F); (focus (simp (disch := omega) [e0, e1, e12, e13, p1, p2, q1, q2, hab] <;> omega)))
          | (with_reducible apply wL_i)
          | (simp (decide := true) only [sn26, sqW_nrm, sqW_exit, sqW_ret, inBlk_nrm, inBlk_ret, inBlk_same, inBlk_exit, if_true, if_false, retW_nrm, retW_ret])
          | (with_reducible refine n26_19_w _ _ _ ?_))
        refine .inl ⟨by simp, _, rfl, by simp [e0], by simp [e1], by simp [e12], by simp, fun j hj' => ?_⟩
        by_cases hji : j = i
        · subst hji
          rw [List.getElem?_eq_getElem hi, List.getElem?_eq_getElem (by omega), hab]
        · exact hj j (by omega)
      · repeat' (first
          | ((with_reducible apply evs_of); (focus ((conv => lhs; simp (disch := omega) [e0, e1, e12, e13, p1, p2, q1, q2, hab]); done)); try dsimp only)
          | ((with_reducible apply cndW_T); (focus (simp (disch := omega) [e0, e1, e12, e13, p1, p2, q1, q2, hab] <;> omega)))
          | ((with_reducible apply cndW_F); (focus (simp (disch := omega) [e0, e1, e12, e13, p1, p2, q1, q2, hab] <;> omega)))
          | (with_reducible apply wL_i)
          | (simp (decide := true) only [sn26, sqW_nrm, sqW_exit, sqW_ret, inBlk_nrm, inBlk_ret, inBlk_same, inBlk_exit, if_true, if_false, retW_nrm, retW_ret])
          | (with_reducible refine n26_19_w _ _ _ ?_))
        refine .inr ⟨by simp, ?_⟩
        repeat' (first
          | ((with_reducible apply evs_of); (focus ((conv => lhs; simp (disch := omega) [e0]); done)); try dsimp only)
          | ((with_reducible apply cndW_T); (focus (simp (disch := omega) [e0] <;> omega)))
          | ((with_reducible apply cndW_F); (focus (simp (disch := omega) [e0] <;> omega)))
          | (with_reducible apply wL_i)
          | (simp (decide := true) only [sn26, sqW_nrm, sqW_exit, sqW_ret, inBlk_nrm, inBlk_ret, inBlk_same, inBlk_exit, if_true, if_false, retW_nrm, retW_ret])
          | (with_reducible refine n26_19_w _ _ _ ?_))
        have : a ≠ b := by rintro rfl; exact hab rfl
        exact ⟨[], by simp [oneOrTuple, this]⟩
    · rintro st ⟨env', rfl, e0, e1, e12, e13, hj⟩
      repeat' (first
        | ((with_reducible apply evs_of); (focus ((conv => lhs; simp (disch := omega) [e12, e13]); done)); try dsimp only)
        | ((with_reducible apply cndW_T); (focus (simp (disch := omega) [e12, e13] <;> omega)))
        | ((with_reducible apply cndW_F); (focus (simp (disch := omega) [e12, e13] <;> omega)))
        | (with_reducible apply wL_i)
        | (simp (decide := true) only [sn26, sqW_nrm, sqW_exit, sqW_ret, inBlk_nrm, inBlk_ret, inBlk_same, inBlk_exit, if_true, if_false, retW_nrm, retW_ret])
        | (with_reducible refine n26_19_w _ _ _ ?_))
      refine ⟨by simp, ?_⟩
      repeat' (first
        | ((with_reducible apply evs_of); (focus ((conv => lhs; simp (disch := omega) [e12, e13]); done)); try dsimp only)
        | ((with_reducible apply cndW_T); (focus (simp (disch := omega) [e12, e13] <;> omega)))
        | ((with_reducible apply cndW_F); (focus (simp (disch := omega) [e12, e13] <;> omega)))
        | (with_reducible apply wL_i)
        | (simp (decide := true) only [sn26, sqW_nrm, sqW_exit, sqW_ret, inBlk_nrm, inBlk_ret, inBlk_same, inBlk_exit, if_true, if_false, retW_nrm, retW_ret])
        | (with_reducible refine n26_19_w _ _ _ ?_))
      have : a = b := List.ext_getElem? fun j => by
        by_cases hj' : j < a.length
        · exact hj j hj'
        · rw [List.getElem?_eq_none (by omega), List.getElem?_eq_none (by omega)]
      exact ⟨[], by simp [oneOrTuple, this]⟩
  · repeat' (first
      | ((with_reducible apply evs_of); (focus ((conv => lhs; simp (disch := omega) [g0, g1, lx, ly, hl]); done)); try dsimp only)
      | ((with_reducible apply cndW_T); (focus (simp (disch := omega) [g0, g1, lx, ly, hl] <;> omega)))
      | ((with_reducible apply cndW_F); (focus (simp (disch := omega) [g0, g1, lx, ly, hl] <;> omega)))
      | (with_reducible apply wL_i)
      | (simp (decide := true) only [sn26, sqW_nrm, sqW_exit, sqW_ret, inBlk_nrm, inBlk_ret, inBlk_same, inBlk_exit, if_true, if_false, retW_nrm, retW_ret])
      | (with_reducible refine n26_19_w _ _ _ ?_))
    have : a ≠ b := by rintro rfl; exact hl rfl
    exact ⟨[], by simp [oneOrTuple, this]⟩
theorem c27 {h : Heap} {x y : AV} {a b : List Ban} (hx : Row tBan h x (a.map eBan)) (hy : Row tBan h y (b.map eBan)) : SpecQ Try.prog 27 [x, y] h fun r => r = (.bool (decide (a = b)), h) := by
  have lx := hx.len
  have ly := hy.len
  have bx := hx.bound
  rw [List.length_map] at lx ly bx
  refine SpecQ.drop1 rfl (q27 fun env g0 g1 => ?_)
  by_cases hl : a.length = b.length
  · rw [← hl] at ly
    repeat' (first
      | ((with_reducible apply evs_of); (focus ((conv => lhs; simp (disch := omega) [g0, g1, lx, ly]); done)); try dsimp only)
      | ((with_reducible apply cndW_T); (focus (simp (disch := omega) [g0, g1, lx, ly] <;> omega)))
      | ((with_reducible apply cndW_F); (focus (simp (disch := omega) [g0, g1, lx, ly] <;> omega)))
      | (with_reducible apply wL_i)
      | (simp (decide := true) only [sn27, sqW_nrm, sqW_exit, sqW_ret, inBlk_nrm, inBlk_ret, inBlk_same, inBlk_exit, if_true, if_false, retW_nrm, retW_ret])
      | (with_reducible refine n27_19_w _ _ _ ?_))
    refine loop_up a.length (fun i st => ∃ env', st = ⟨env', h⟩ ∧ env'.get 0 = x ∧ env'.get 1 = y ∧ env'.get 12 = nat a.length ∧ env'.get 13 = nat i ∧ ∀ j, j < i → a[j]? = b[j]?) ?_ ?_ ⟨_, rfl, by simp [g0], by simp [g1], by simp, by simp, fun j hj => absurd hj (by omega)⟩
    · rintro i st hi ⟨env', rfl, e0, e1, e12, e13, hj⟩
      obtain ⟨p, p1, p2⟩ := hx.idx0 (i := i) (by simpa using hi)
      obtain ⟨q, q1, q2⟩ := hy.idx0 (i := i) (by simpa [← hl] using hi)
      rw [List.getElem?_map, List.getElem?_eq_getElem hi] at p2
      rw [List.getElem?_map, List.getElem?_eq_getElem (by omega)] at q2
      simp only [Option.map_some] at p2 q2
      by_cases hab : a[i] = b[i]
      · repeat' (first
          | ((with_reducible apply evs_of); (focus ((conv => lhs; simp (disch := omega) [e0, e1, e12, e13, p1, p2, q1, q2, hab]); done)); try dsimp only)
          | ((with_reducible apply cndW_T); (focus (simp (disch := omega) [e0, e1, e12, e13, p1, p2, q1, q2, hab] <;> omega)))
          | ((with_reducible apply cndW_F); (focus (simp (disch := omega) [e0, e1, e12, e13, p1, p2, q1, q2, hab] <;> omega)))
          | (with_reducible apply wL_i)
          | (simp (decide := true) only [sn27, sqW_nrm, sqW_exit, sqW_ret, inBlk_nrm, inBlk_ret, inBlk_same, inBlk_exit, if_true, if_false, retW_nrm, retW_ret])
          | (with_reducible refine n27_19_w _ _ _ ?_))
        refine .inl ⟨by simp, _, rfl, by simp [e0], by simp [e1], by simp [e12], by simp, fun j hj' => ?_⟩
        by_cases hji : j = i
        · subst hji
          rw [List.getElem?_eq_getElem hi, List.getElem?_eq_getElem (by omega), hab]
        · exact hj j (by omega)
      · repeat' (first
          | ((with_reducible apply evs_of); (focus ((conv => lhs; simp (disch := omega) [e0, e1, e12, e13, p1, p2, q1, q2, hab]); done)); try dsimp only)
          | ((with_reducible apply cndW_T); (focus (simp (disch := omega) [e0, e1, e12, e13, p1, p2, q1, q2, hab] <;> omega)))
          | ((with_reducible apply cndW_F); (focus (simp (disch := omega) [e0, e1, e12, e13, p1, p2, q1, q2, hab] <;> omega)))
          | (with_reducible apply wL_i)
          | (simp (decide := true) only [sn27, sqW_nrm, sqW_exit, sqW_ret, inBlk_nrm, inBlk_ret, inBlk_same, inBlk_exit, if_true, if_false, retW_nrm, retW_ret])
          | (with_reducible refine n27_19_w _ _ _ ?_))
        refine .inr ⟨by simp, ?_⟩
        repeat' (first
          | ((with_reducible apply evs_of); (focus ((conv => lhs; simp (disch := omega) [e0]); done)); try dsimp only)
          | ((with_reducible apply cndW_T); (focus (simp (disch := omega) [e0] <;> omega)))
          | ((with_reducible apply cndW_F); (focus (simp (disch := omega) [e0] <;> omega)))
          | (with_reducible apply wL_i)
          | (simp (decide := true) only [sn27, sqW_nrm, sqW_exit, sqW_ret, inBlk_nrm, inBlk_ret, inBlk_same, inBlk_exit, if_true, if_false, retW_nrm, retW_ret])
          | (with_reducible refine n27_19_w _ _ _ ?_))
        have : a ≠ b := by rintro rfl; exact hab rfl
        exact ⟨[], by simp [oneOrTuple, this]⟩
    · rintro st ⟨env', rfl, e0, e1, e12, e13, hj⟩
      repeat' (first
        | ((with_reducible apply evs_of); (focus ((conv => lhs; simp (disch := omega) [e12, e13]); done)); try dsimp only)
        | ((with_reducible apply cndW_T); (focus (simp (disch := omega) [e12, e13] <;> omega)))
        | ((with_reducible apply cndW_F); (focus (simp (disch := omega) [e12, e13] <;> omega)))
        | (with_reducible apply wL_i)
        | (simp (decide := true) only [sn27, sqW_nrm, sqW_exit, sqW_ret, inBlk_nrm, inBlk_ret, inBlk_same, inBlk_exit, if_true, if_false, retW_nrm, retW_ret])
        | (with_reducible refine n27_19_w _ _ _ ?_))
      refine ⟨by simp, ?_⟩
      repeat' (first
        | ((with_reducible apply evs_of); (focus ((conv => lhs; simp (disch := omega) [e12, e13]); done)); try dsimp only)
        | ((with_reducible apply cndW_T); (focus (simp (disch := omega) [e12, e13] <;> omega)))
        | ((with_reducible apply cndW_F); (focus (simp (disch := omega) [e12, e13] <;> omega)))
        | (with_reducible apply wL_i)
        | (simp (decide := true) only [sn27, sqW_nrm, sqW_exit, sqW_ret, inBlk_nrm, inBlk_ret, inBlk_same, inBlk_exit, if_true, if_false, retW_nrm, retW_ret])
        | (with_reducible refine n27_19_w _ _ _ ?_))
      have : a = b := List.ext_getElem? fun j => by
        by_cases hj' : j < a.length
        · exact hj j hj'
        · rw [List.getElem?_eq_none (by omega), List.getElem?_eq_none (by omega)]
      exact ⟨[], by simp [oneOrTuple, this]⟩
  · repeat' (first
      | ((with_reducible apply evs_of); (focus ((conv => lhs; simp (disch := omega) [g0, g1, lx, ly, hl]); done)); try dsimp only)
      | ((with_reducible apply cndW_T); (focus (simp (disch := omega) [g0, g1, lx, ly, hl] <;> omega)))
      | ((with_reducible apply cndW_F); (focus (simp (disch := omega) [g0, g1, lx, ly, hl] <;> omega)))
      | (with_reducible apply wL_i)
      | (simp (decide := true) only [sn27, sqW_nrm, sqW_exit, sqW_ret, inBlk_nrm, inBlk_ret, inBlk_same, inBlk_exit, if_true, if_false, retW_nrm, retW_ret])
      | (with_reducible refine n27_19_w _ _ _ ?_))
    have : a ≠ b := by rintro rfl; exact hl rfl
    exact ⟨[], by simp [oneOrTuple, this]⟩

end Go.Vab

/- How the code of a function is read. Printed by wip/tools/gen2.py (own work). -/
namespace Go.Vab
open Go Go.Proofs
/-! vestry/forms.SameState -/
def cx8 : Ctx := ⟨fun _ _ _ => none, TT, 66, [5, 6, 7, 8, 9, 10, 11, 12, 13, 14, 15, 16, 17, 18, 19, 20, 21, 22, 23, 24, 25, 26, 27, 28, 29, 30, 31, 32, 33, 34, 35, 36, 37, 38, 39, 40, 41, 42, 43, 44, 45, 46, 47, 48, 49, 50, 51, 52, 53, 54, 55, 56, 57, 58, 59, 60, 61, 62, 63, 64, 65]⟩
noncomputable def n8_0 : Code := bodyOf Try.f8
noncomputable def n8_1 : Code := cR n8_0
noncomputable def n8_2 : Code := cR n8_1
theorem n8_2_eq (Q : Ex × St → Prop) (s : St) : wC Try.prog cx8 n8_2 Q s = Q (.ret, s) := yE
theorem n8_1_eq (Q : Ex × St → Prop) (env : Env) (h : Heap) : wC Try.prog cx8 n8_1 Q ⟨env, h⟩ = (Evs (mFieldAddr tState (env.get 2) 0) fun v0 => Evs (mLoad (.int .u32) v0 h) fun v1 => Evs (mFieldAddr tState (env.get 3) 0) fun v2 => Evs (mLoad (.int .u32) v2 h) fun v3 => Evs (mBin .eql v1 v3) fun v4 => Evs (gv v4 true (mFieldAddr tState (env.get 2) 1)) fun v6 => Evs (gv v4 true (mLoad tPublic v6 h)) fun v7 => Evs (gv v4 true (mFieldAddr tState (env.get 3) 1)) fun v8 => Evs (gv v4 true (mLoad tPublic v8 h)) fun v9 => Evs (gv v4 true (mEq tPublic .eql v7 v9)) fun v10 => Evs (mPick v4 v10 (.bool false)) fun v11 => Evs (gv v11 true (mFieldAddr tState (env.get 2) 2)) fun v13 => Evs (gv v11 true (mLoad .cell v13 h)) fun v14 => Evs (gv v11 true (mFieldAddr tState (env.get 3) 2)) fun v15 => Evs (gv v11 true (mLoad .cell v15 h)) fun v16 => gW v11 true (SpecA Try.prog 23 [v14, v16] h) h fun r17 => Evs (mPick v11 r17.1 (.bool false)) fun v18 => Evs (gv v18 true (mFieldAddr tState (env.get 2) 3)) fun v20 => Evs (gv v18 true (mLoad tAccess v20 r17.2)) fun v21 => Evs (gv v18 true (mFieldAddr tState (env.get 3) 3)) fun v22 => Evs (gv v18 true (mLoad tAccess v22 r17.2)) fun v23 => Evs (gv v18 true (mEq tAccess .eql v21 v23)) fun v24 => Evs (mPick v18 v24 (.bool false)) fun v25 => Evs (gv v25 true (mFieldAddr tState (env.get 2) 4)) fun v27 => Evs (gv v25 true (mLoad .cell v27 r17.2)) fun v28 => Evs (gv v25 true (mFieldAddr tState (env.get 3) 4)) fun v29 => Evs (gv v25 true (mLoad .cell v29 r17.2)) fun v30 => gW v25 true (SpecA Try.prog 23 [v28, v30] r17.2) r17.2 fun r31 => Evs (mPick v25 r31.1 (.bool false)) fun v32 => Evs (gv v32 true (mFieldAddr tState (env.get 2) 5)) fun v34 => Evs (gv v32 true (mLoad .cell v34 r31.2)) fun v35 => Evs (gv v32 true (mFieldAddr tState (env.get 3) 5)) fun v36 => Evs (gv v32 true (mLoad .cell v36 r31.2)) fun v37 => gW v32 true (SpecA Try.prog 24 [v35, v37] r31.2) r31.2 fun r38 => Evs (mPick v32 r38.1 (.bool false)) fun v39 => Evs (gv v39 true (mFieldAddr tState (env.get 2) 6)) fun v41 => Evs (gv v39 true (mLoad .cell v41 r38.2)) fun v42 => Evs (gv v39 true (mFieldAddr tState (env.get 3) 6)) fun v43 => Evs (gv v39 true (mLoad .cell v43 r38.2)) fun v44 => gW v39 true (SpecA Try.prog 25 [v42, v44] r38.2) r38.2 fun r45 => Evs (mPick v39 r45.1 (.bool false)) fun v46 => Evs (gv v46 true (mFieldAddr tState (env.get 2) 7)) fun v48 => Evs (gv v46 true (mLoad .cell v48 r45.2)) fun v49 => Evs (gv v46 true (mFieldAddr tState (env.get 3) 7)) fun v50 => Evs (gv v46 true (mLoad .cell v50 r45.2)) fun v51 => gW v46 true (SpecA Try.prog 26 [v49, v51] r45.2) r45.2 fun r52 => Evs (mPick v46 r52.1 (.bool false)) fun v53 => Evs (gv v53 true (mFieldAddr tState (env.get 2) 8)) fun v55 => Evs (gv v53 true (mLoad .cell v55 r52.2)) fun v56 => Evs (gv v53 true (mFieldAddr tState (env.get 3) 8)) fun v57 => Evs (gv v53 true (mLoad .cell v57 r52.2)) fun v58 => gW v53 true (SpecA Try.prog 27 [v56, v58] r52.2) r52.2 fun r59 => Evs (mPick v53 r59.1 (.bool false)) fun v60 => wC Try.prog cx8 n8_2 Q ⟨(Env.put env 4 v60), r59.2⟩) := (ySR 1 (cOps (cL n8_1)) (cR n8_1)).trans (by
  refine w0 ?_
  refine wP 5 fun v0 => ?_
  refine wP 6 fun v1 => ?_
  refine wP 7 fun v2 => ?_
  refine wP 8 fun v3 => ?_
  refine wP 9 fun v4 => ?_
  refine wT 10 v4 ?_
  refine wG 11 fun v6 => ?_
  refine wG 12 fun v7 => ?_
  refine wG 13 fun v8 => ?_
  refine wG 14 fun v9 => ?_
  refine wG 15 fun v10 => ?_
  refine wP 16 fun v11 => ?_
  refine wT 17 v11 ?_
  refine wG 18 fun v13 => ?_
  refine wG 19 fun v14 => ?_
  refine wG 20 fun v15 => ?_
  refine wG 21 fun v16 => ?_
  refine wH 22 fun r17 => ?_
  refine wP 23 fun v18 => ?_
  refine wT 24 v18 ?_
  refine wG 25 fun v20 => ?_
  refine wG 26 fun v21 => ?_
  refine wG 27 fun v22 => ?_
  refine wG 28 fun v23 => ?_
  refine wG 29 fun v24 => ?_
  refine wP 30 fun v25 => ?_
  refine wT 31 v25 ?_
  refine wG 32 fun v27 => ?_
  refine wG 33 fun v28 => ?_
  refine wG 34 fun v29 => ?_
  refine wG 35 fun v30 => ?_
  refine wH 36 fun r31 => ?_
  refine wP 37 fun v32 => ?_
  refine wT 38 v32 ?_
  refine wG 39 fun v34 => ?_
  refine wG 40 fun v35 => ?_
  refine wG 41 fun v36 => ?_
  refine wG 42 fun v37 => ?_
  refine wH 43 fun r38 => ?_
  refine wP 44 fun v39 => ?_
  refine wT 45 v39 ?_
  refine wG 46 fun v41 => ?_
  refine wG 47 fun v42 => ?_
  refine wG 48 fun v43 => ?_
  refine wG 49 fun v44 => ?_
  refine wH 50 fun r45 => ?_
  refine wP 51 fun v46 => ?_
  refine wT 52 v46 ?_
  refine wG 53 fun v48 => ?_
  refine wG 54 fun v49 => ?_
  refine wG 55 fun v50 => ?_
  refine wG 56 fun v51 => ?_
  refine wH 57 fun r52 => ?_
  refine wP 58 fun v53 => ?_
  refine wT 59 v53 ?_
  refine wG 60 fun v55 => ?_
  refine wG 61 fun v56 => ?_
  refine wG 62 fun v57 => ?_
  refine wG 63 fun v58 => ?_
  refine wH 64 fun r59 => ?_
  refine wP 65 fun v60 => ?_
  refine wT 4 v60 ?_
  exact wE)
theorem n8_0_eq (Q : Ex × St → Prop) (env : Env) (h : Heap) : wC Try.prog cx8 n8_0 Q ⟨env, h⟩ = (Evs (mNew tState (env.get 0) h) fun r0 => Evs (mNew tState (env.get 1) r0.2) fun r1 => wC Try.prog cx8 n8_1 Q ⟨(Env.put (Env.put (Env.put env 2 r0.1) 3 r1.1) 4 (.bool false)), r1.2⟩) := (ySR 0 (cOps (cL n8_0)) (cR n8_0)).trans (by
  refine w0 ?_
  refine wH 2 fun r0 => ?_
  refine wH 3 fun r1 => ?_
  refine wT 4 (.bool false) ?_
  exact wE)
theorem fn8 : Try.prog.funcs[8]? = some Try.f8 := by kernel_rfl
theorem q8 {a0 a1 : AV} {h : Heap} {K : AV × Heap → Prop} (H : ∀ env : Env, env.get 0 = a0 → env.get 1 = a1 → wC Try.prog cx8 n8_0 (retW (fun s => (bnd (some (s.env.get 4)) fun v => bnd (some []) fun vs => some (v :: vs))) K) ⟨env, h⟩) : SpecQ Try.prog 8 [a0, a1] h K :=
  bodyW_sound (C := cx8) TT_ok mixed_ok fn8 (by kernel_rfl) (show _ = some n8_0 by kernel_rfl) (by kernel_rfl) (by kernel_rfl) (of_decide_eq_true (by kernel_rfl)) ((show wC Try.prog cx8 n8_0 (retW (fun s => resAll cx8 s Try.f8.results.toList) K) ⟨env0 cx8 [a0, a1], h⟩ = wC Try.prog cx8 n8_0 (retW (fun s => (bnd (some (s.env.get 4)) fun v => bnd (some []) fun vs => some (v :: vs))) K) ⟨[(0, a0), (1, a1), (2, .junk), (3, .junk), (4, .junk)], h⟩ by kernel_rfl).mpr (H [(0, a0), (1, a1), (2, .junk), (3, .junk), (4, .junk)] rfl rfl))
def sn8 := And.intro n8_2_eq (And.intro n8_1_eq (n8_0_eq))
-- draws: 
end Go.Vab

/-
  forms.SameState, walked.
-/
namespace Go.Vab
open Go Go.Proofs

theorem c8 {h : Heap} {a b : Stt} {at_ ap as_ ai aa ab bt bp bs bi ba bb : AV} (ra : StR h a at_ ap as_ ai aa ab) (rb : StR h b bt bp bs bi ba bb) :
    SpecQ Try.prog 8 [eSt a at_ ap as_ ai aa ab, eSt b bt bp bs bi ba bb] h fun r => r = (.bool (decide (a = b)), h) := by
  have ta := ra.cells
  have tb := rb.cells
  refine SpecQ.drop1 rfl (q8 fun env g0 g1 => ?_)
  repeat' (first
    | ((with_reducible apply evs_of); (focus ((conv => lhs; simp (disch := omega) [g0, g1, ta, tb]); done)); try dsimp only)
    | ((with_reducible apply gW_do); (focus (simp (disch := omega) [g0, g1, ta, tb]; done)))
    | ((with_reducible apply gW_no); (focus (simp (disch := omega) [g0, g1, ta, tb]; done)); try dsimp only)
    | ((with_reducible apply gW_un); (focus (simp (disch := omega) [g0, g1, ta, tb]; done)); try dsimp only)
    | (with_reducible refine SpecQ.step (c23 (ra.ft.app _) (rb.ft.app _)) ?_; rintro _ rfl; try dsimp only)
    | (with_reducible refine SpecQ.step (c23 (ra.fp.app _) (rb.fp.app _)) ?_; rintro _ rfl; try dsimp only)
    | (with_reducible refine SpecQ.step (c24 (ra.fs.app _) (rb.fs.app _)) ?_; rintro _ rfl; try dsimp only)
    | (with_reducible refine SpecQ.step (c25 (ra.fi.app _) (rb.fi.app _)) ?_; rintro _ rfl; try dsimp only)
    | (with_reducible refine SpecQ.step (c26 (ra.fa.app _) (rb.fa.app _)) ?_; rintro _ rfl; try dsimp only)
    | (with_reducible refine SpecQ.step (c27 (ra.fb.app _) (rb.fb.app _)) ?_; rintro _ rfl; try dsimp only)
    | ((with_reducible apply SpecA_i); (focus ((conv => lhs; simp (disch := omega) [g0, g1, ta, tb]); done)))
    | (simp (decide := true) only [sn8, sqW_nrm, sqW_exit, sqW_ret, inBlk_nrm, inBlk_ret, inBlk_same, inBlk_exit, if_true, if_false, retW_nrm, retW_ret])
    | (with_reducible refine gv_split ?_ ?_ <;> (intro hb; try simp only [Bool.not_true, Bool.not_false] at hb) <;> try simp only [hb])
    | (with_reducible refine gW_split ?_ ?_ <;> (intro hb; try simp only [Bool.not_true, Bool.not_false] at hb) <;> try simp only [hb]))
  all_goals refine fin_b ?_
  all_goals (clear ra rb ta tb; cases a; cases b; simp_all)

end Go.Vab

/- How the code of a function is read. Printed by wip/tools/gen2.py (own work). -/
namespace Go.Vab
open Go Go.Proofs
/-! vestry/vestryref18.SameState -/
def cx9 : Ctx := ⟨fun _ _ _ => none, TT, 162, [13, 14, 15, 16, 17, 18, 19, 20, 21, 22, 23, 24, 25, 26, 27, 28, 29, 30, 31, 32, 33, 34, 35, 36, 37, 38, 39, 40, 41, 42, 43, 44, 45, 46, 47, 48, 49, 50, 51, 52, 53, 54, 55, 56, 57, 58, 59, 60, 61, 62, 63, 64, 65, 66, 67, 68, 69, 70, 71, 72, 73, 74, 75, 76, 77, 78, 79, 80, 81, 82, 83, 84, 86, 87, 88, 89, 91, 92, 93, 94, 95, 96, 97, 98, 99, 100, 101, 102, 103, 104, 106, 107, 108, 109, 111, 112, 113, 114, 115, 116, 117, 118, 119, 120, 121, 122, 123, 124, 126, 127, 128, 129, 131, 132, 133, 134, 135, 136, 137, 138, 139, 140, 141, 142, 144, 145, 146, 147, 149, 150, 151, 152, 153, 154, 155, 156, 157, 158, 159, 160]⟩
noncomputable def n9_0 : Code := bodyOf Try.f9
noncomputable def n9_1 : Code := cR n9_0
noncomputable def n9_2 : Code := cL n9_1
noncomputable def n9_3 : Code := cR n9_2
noncomputable def n9_4 : Code := cL n9_3
noncomputable def n9_5 : Code := cR n9_4
noncomputable def n9_6 : Code := cR n9_3
noncomputable def n9_7 : Code := cR n9_1
noncomputable def n9_8 : Code := cL n9_7
noncomputable def n9_9 : Code := cR n9_8
noncomputable def n9_10 : Code := cB n9_9
noncomputable def n9_11 : Code := cB n9_10
noncomputable def n9_12 : Code := cL n9_11
noncomputable def n9_13 : Code := cR n9_12
noncomputable def n9_14 : Code := cL n9_13
noncomputable def n9_15 : Code := cR n9_13
noncomputable def n9_16 : Code := cR n9_11
noncomputable def n9_17 : Code := cL n9_16
noncomputable def n9_18 : Code := cB n9_17
noncomputable def n9_19 : Code := cR n9_18
noncomputable def n9_20 : Code := cR n9_19
noncomputable def n9_21 : Code := cL n9_20
noncomputable def n9_22 : Code := cR n9_21
noncomputable def n9_23 : Code := cR n9_20
noncomputable def n9_24 : Code := cR n9_16
noncomputable def n9_25 : Code := cR n9_7
noncomputable def n9_26 : Code := cL n9_25
noncomputable def n9_27 : Code := cR n9_26
noncomputable def n9_28 : Code := cB n9_27
noncomputable def n9_29 : Code := cB n9_28
noncomputable def n9_30 : Code := cL n9_29
noncomputable def n9_31 : Code := cR n9_30
noncomputable def n9_32 : Code := cL n9_31
noncomputable def n9_33 : Code := cR n9_31
noncomputable def n9_34 : Code := cR n9_29
noncomputable def n9_35 : Code := cL n9_34
noncomputable def n9_36 : Code := cB n9_35
noncomputable def n9_37 : Code := cR n9_36
noncomputable def n9_38 : Code := cR n9_37
noncomputable def n9_39 : Code := cL n9_38
noncomputable def n9_40 : Code := cR n9_39
noncomputable def n9_41 : Code := cR n9_38
noncomputable def n9_42 : Code := cR n9_34
noncomputable def n9_43 : Code := cR n9_25
noncomputable def n9_44 : Code := cL n9_43
noncomputable def n9_45 : Code := cR n9_44
noncomputable def n9_46 : Code := cB n9_45
noncomputable def n9_47 : Code := cB n9_46
noncomputable def n9_48 : Code := cL n9_47
noncomputable def n9_49 : Code := cR n9_48
noncomputable def n9_50 : Code := cL n9_49
noncomputable def n9_51 : Code := cR n9_49
noncomputable def n9_52 : Code := cR n9_47
noncomputable def n9_53 : Code := cL n9_52
noncomputable def n9_54 : Code := cB n9_53
noncomputable def n9_55 : Code := cR n9_54
noncomputable def n9_56 : Code := cL n9_55
noncomputable def n9_57 : Code := cR n9_56
noncomputable def n9_58 : Code := cR n9_55
noncomputable def n9_59 : Code := cR n9_52
noncomputable def n9_60 : Code := cR n9_43
noncomputable def n9_61 : Code := cL n9_60
noncomputable def n9_62 : Code := cR n9_61
noncomputable def n9_63 : Code := cB n9_62
noncomputable def n9_64 : Code := cB n9_63
noncomputable def n9_65 : Code := cL n9_64
noncomputable def n9_66 : Code := cR n9_65
noncomputable def n9_67 : Code := cL n9_66
noncomputable def n9_68 : Code := cR n9_66
noncomputable def n9_69 : Code := cR n9_64
noncomputable def n9_70 : Code := cL n9_69
noncomputable def n9_71 : Code := cB n9_70
noncomputable def n9_72 : Code := cR n9_71
noncomputable def n9_73 : Code := cL n9_72
noncomputable def n9_74 : Code := cR n9_73
noncomputable def n9_75 : Code := cR n9_72
noncomputable def n9_76 : Code := cR n9_69
noncomputable def n9_77 : Code := cR n9_60
noncomputable def n9_78 : Code := cR n9_77
theorem n9_5_eq (Q : Ex × St → Prop) (s : St) : wC Try.prog cx9 n9_5 Q s = Q (.ret, s) := yE
theorem n9_4_eq (Q : Ex × St → Prop) (env : Env) (h : Heap) : wC Try.prog cx9 n9_4 Q ⟨env, h⟩ = ( wC Try.prog cx9 n9_5 Q ⟨(Env.put env 4 (.bool false)), h⟩) := (ySR 2 (cOps (cL n9_4)) (cR n9_4)).trans (by
  refine w0 ?_
  refine wT 4 (.bool false) ?_
  exact wE)
theorem n9_6_eq (Q : Ex × St → Prop) (s : St) : wC Try.prog cx9 n9_6 Q s = Q (.nrm, s) := yK
theorem n9_3_eq (Q : Ex × St → Prop) (s : St) : wC Try.prog cx9 n9_3 Q s = cndW (s.env.get 85) (wL Try.prog cx9 n9_4 Q s) (wL Try.prog cx9 n9_6 Q s) := yC 85 _ _
theorem n9_2_eq (Q : Ex × St → Prop) (env : Env) (h : Heap) : wC Try.prog cx9 n9_2 Q ⟨env, h⟩ = (Evs (mFieldAddr tState (env.get 2) 0) fun v0 => Evs (mLoad (.int .u32) v0 h) fun v1 => Evs (mFieldAddr tState (env.get 3) 0) fun v2 => Evs (mLoad (.int .u32) v2 h) fun v3 => Evs (mBin .neq v1 v3) fun v4 => Evs (gv v4 false (mFieldAddr tState (env.get 2) 1)) fun v6 => Evs (gv v4 false (mLoad tPublic v6 h)) fun v7 => Evs (gv v4 false (mFieldAddr tState (env.get 3) 1)) fun v8 => Evs (gv v4 false (mLoad tPublic v8 h)) fun v9 => Evs (gv v4 false (mEq tPublic .neq v7 v9)) fun v10 => Evs (mPick v4 (.bool true) v10) fun v11 => Evs (gv v11 false (mFieldAddr tState (env.get 2) 2)) fun v13 => Evs (gv v11 false (mLoad .cell v13 h)) fun v14 => Evs (gv v11 false (mStr v14 h)) fun v15 => Evs (gv v11 false (mFieldAddr tState (env.get 3) 2)) fun v16 => Evs (gv v11 false (mLoad .cell v16 h)) fun v17 => Evs (gv v11 false (mStr v17 h)) fun v18 => Evs (gv v11 false (mBinT .neq v15 v18)) fun v19 => Evs (mPick v11 (.bool true) v19) fun v20 => Evs (gv v20 false (mFieldAddr tState (env.get 2) 3)) fun v22 => Evs (gv v20 false (mLoad tAccess v22 h)) fun v23 => Evs (gv v20 false (mFieldAddr tState (env.get 3) 3)) fun v24 => Evs (gv v20 false (mLoad tAccess v24 h)) fun v25 => Evs (gv v20 false (mEq tAccess .neq v23 v25)) fun v26 => Evs (mPick v20 (.bool true) v26) fun v27 => Evs (gv v27 false (mFieldAddr tState (env.get 2) 4)) fun v29 => Evs (gv v27 false (mLoad .cell v29 h)) fun v30 => Evs (gv v27 false (mStr v30 h)) fun v31 => Evs (gv v27 false (mFieldAddr tState (env.get 3) 4)) fun v32 => Evs (gv v27 false (mLoad .cell v32 h)) fun v33 => Evs (gv v27 false (mStr v33 h)) fun v34 => Evs (gv v27 false (mBinT .neq v31 v34)) fun v35 => Evs (mPick v27 (.bool true) v35) fun v36 => Evs (gv v36 false (mFieldAddr tState (env.get 2) 5)) fun v38 => Evs (gv v36 false (mLoad .cell v38 h)) fun v39 => Evs (gv v36 false (mLenS v39)) fun v40 => Evs (gv v36 false (mFieldAddr tState (env.get 3) 5)) fun v41 => Evs (gv v36 false (mLoad .cell v41 h)) fun v42 => Evs (gv v36 false (mLenS v42)) fun v43 => Evs (gv v36 false (mBin .neq v40 v43)) fun v44 => Evs (mPick v36 (.bool true) v44) fun v45 => Evs (gv v45 false (mFieldAddr tState (env.get 2) 6)) fun v47 => Evs (gv v45 false (mLoad .cell v47 h)) fun v48 => Evs (gv v45 false (mLenS v48)) fun v49 => Evs (gv v45 false (mFieldAddr tState (env.get 3) 6)) fun v50 => Evs (gv v45 false (mLoad .cell v50 h)) fun v51 => Evs (gv v45 false (mLenS v51)) fun v52 => Evs (gv v45 false (mBin .neq v49 v52)) fun v53 => Evs (mPick v45 (.bool true) v53) fun v54 => Evs (gv v54 false (mFieldAddr tState (env.get 2) 7)) fun v56 => Evs (gv v54 false (mLoad .cell v56 h)) fun v57 => Evs (gv v54 false (mLenS v57)) fun v58 => Evs (gv v54 false (mFieldAddr tState (env.get 3) 7)) fun v59 => Evs (gv v54 false (mLoad .cell v59 h)) fun v60 => Evs (gv v54 false (mLenS v60)) fun v61 => Evs (gv v54 false (mBin .neq v58 v61)) fun v62 => Evs (mPick v54 (.bool true) v62) fun v63 => Evs (gv v63 false (mFieldAddr tState (env.get 2) 8)) fun v65 => Evs (gv v63 false (mLoad .cell v65 h)) fun v66 => Evs (gv v63 false (mLenS v66)) fun v67 => Evs (gv v63 false (mFieldAddr tState (env.get 3) 8)) fun v68 => Evs (gv v63 false (mLoad .cell v68 h)) fun v69 => Evs (gv v63 false (mLenS v69)) fun v70 => Evs (gv v63 false (mBin .neq v67 v70)) fun v71 => Evs (mPick v63 (.bool true) v71) fun v72 => wC Try.prog cx9 n9_3 Q ⟨(Env.put env 85 v72), h⟩) := (ySR 1 (cOps (cL n9_2)) (cR n9_2)).trans (by
  refine w0 ?_
  refine wP 13 fun v0 => ?_
  refine wP 14 fun v1 => ?_
  refine wP 15 fun v2 => ?_
  refine wP 16 fun v3 => ?_
  refine wP 17 fun v4 => ?_
  refine wT 18 v4 ?_
  refine wG 19 fun v6 => ?_
  refine wG 20 fun v7 => ?_
  refine wG 21 fun v8 => ?_
  refine wG 22 fun v9 => ?_
  refine wG 23 fun v10 => ?_
  refine wP 24 fun v11 => ?_
  refine wT 25 v11 ?_
  refine wG 26 fun v13 => ?_
  refine wG 27 fun v14 => ?_
  refine wG 28 fun v15 => ?_
  refine wG 29 fun v16 => ?_
  refine wG 30 fun v17 => ?_
  refine wG 31 fun v18 => ?_
  refine wG 32 fun v19 => ?_
  refine wP 33 fun v20 => ?_
  refine wT 34 v20 ?_
  refine wG 35 fun v22 => ?_
  refine wG 36 fun v23 => ?_
  refine wG 37 fun v24 => ?_
  refine wG 38 fun v25 => ?_
  refine wG 39 fun v26 => ?_
  refine wP 40 fun v27 => ?_
  refine wT 41 v27 ?_
  refine wG 42 fun v29 => ?_
  refine wG 43 fun v30 => ?_
  refine wG 44 fun v31 => ?_
  refine wG 45 fun v32 => ?_
  refine wG 46 fun v33 => ?_
  refine wG 47 fun v34 => ?_
  refine wG 48 fun v35 => ?_
  refine wP 49 fun v36 => ?_
  refine wT 50 v36 ?_
  refine wG 51 fun v38 => ?_
  refine wG 52 fun v39 => ?_
  refine wG 53 fun v40 => ?_
  refine wG 54 fun v41 => ?_
  refine wG 55 fun v42 => ?_
  refine wG 56 fun v43 => ?_
  refine wG 57 fun v44 => ?_
  refine wP 58 fun v45 => ?_
  refine wT 59 v45 ?_
  refine wG 60 fun v47 => ?_
  refine wG 61 fun v48 => ?_
  refine wG 62 fun v49 => ?_
  refine wG 63 fun v50 => ?_
  refine wG 64 fun v51 => ?_
  refine wG 65 fun v52 => ?_
  refine wG 66 fun v53 => ?_
  refine wP 67 fun v54 => ?_
  refine wT 68 v54 ?_
  refine wG 69 fun v56 => ?_
  refine wG 70 fun v57 => ?_
  refine wG 71 fun v58 => ?_
  refine wG 72 fun v59 => ?_
  refine wG 73 fun v60 => ?_
  refine wG 74 fun v61 => ?_
  refine wG 75 fun v62 => ?_
  refine wP 76 fun v63 => ?_
  refine wT 77 v63 ?_
  refine wG 78 fun v65 => ?_
  refine wG 79 fun v66 => ?_
  refine wG 80 fun v67 => ?_
  refine wG 81 fun v68 => ?_
  refine wG 82 fun v69 => ?_
  refine wG 83 fun v70 => ?_
  refine wG 84 fun v71 => ?_
  refine wP 85 fun v72 => ?_
  exact wE)
theorem n9_14_eq (Q : Ex × St → Prop) (s : St) : wC Try.prog cx9 n9_14 Q s = Q (.nrm, s) := yK
theorem n9_15_eq (Q : Ex × St → Prop) (s : St) : wC Try.prog cx9 n9_15 Q s = Q (.exit 0, s) := yX 0
theorem n9_13_eq (Q : Ex × St → Prop) (s : St) : wC Try.prog cx9 n9_13 Q s = cndW (s.env.get 90) (wL Try.prog cx9 n9_14 Q s) (wL Try.prog cx9 n9_15 Q s) := yC 90 _ _
theorem n9_12_eq (Q : Ex × St → Prop) (env : Env) (h : Heap) : wC Try.prog cx9 n9_12 Q ⟨env, h⟩ = (Evs (mFieldAddr tState (env.get 2) 5) fun v1 => Evs (mLoad .cell v1 h) fun v2 => Evs (mLenS v2) fun v3 => Evs (mBin .lss (env.get 5) v3) fun v4 => wC Try.prog cx9 n9_13 Q ⟨(Env.put env 90 v4), h⟩) := (ySR 4 (cOps (cL n9_12)) (cR n9_12)).trans (by
  refine w0 ?_
  refine wT 86 (env.get 5) ?_
  refine wP 87 fun v1 => ?_
  refine wP 88 fun v2 => ?_
  refine wP 89 fun v3 => ?_
  refine wP 90 fun v4 => ?_
  exact wE)
theorem n9_22_eq (Q : Ex × St → Prop) (s : St) : wC Try.prog cx9 n9_22 Q s = Q (.ret, s) := yE
theorem n9_21_eq (Q : Ex × St → Prop) (env : Env) (h : Heap) : wC Try.prog cx9 n9_21 Q ⟨env, h⟩ = ( wC Try.prog cx9 n9_22 Q ⟨(Env.put env 4 (.bool false)), h⟩) := (ySR 8 (cOps (cL n9_21)) (cR n9_21)).trans (by
  refine w0 ?_
  refine wT 4 (.bool false) ?_
  exact wE)
theorem n9_23_eq (Q : Ex × St → Prop) (s : St) : wC Try.prog cx9 n9_23 Q s = Q (.nrm, s) := yK
theorem n9_20_eq (Q : Ex × St → Prop) (s : St) : wC Try.prog cx9 n9_20 Q s = cndW (s.env.get 105) (wL Try.prog cx9 n9_21 Q s) (wL Try.prog cx9 n9_23 Q s) := yC 105 _ _
theorem n9_19_eq (Q : Ex × St → Prop) (env : Env) (h : Heap) : wC Try.prog cx9 n9_19 Q ⟨env, h⟩ = (Evs (mLoad tSeat (env.get 6) h) fun v0 => Evs (mLoad tSeat (env.get 7) h) fun v1 => Evs (mEq tSeat .neq v0 v1) fun v2 => wC Try.prog cx9 n9_20 Q ⟨(Env.put env 105 v2), h⟩) := (ySR 7 (cOps (cL n9_19)) (cR n9_19)).trans (by
  refine w0 ?_
  refine wP 103 fun v0 => ?_
  refine wP 104 fun v1 => ?_
  refine wP 105 fun v2 => ?_
  exact wE)
theorem n9_18_ok : treeOk (cOps (cL n9_18)).toList [10, 11, 12, 13] [0, 1, 0, 7, 15, 0, 32, 0, 224, 480, 0, 0, 3103, 8191] = true := by kernel_rfl
theorem n9_18_w (Q : Ex × St → Prop) (env : Env) (h : Heap) (H : Evs (mFieldAddr tState (env.get 2) 5) fun v0_1 => Evs (mLoad .cell v0_1 h) fun v1_2 => Evs (mIdxS tSeat v1_2 (env.get 5)) fun v3_3 => Evs (mLoad tSeat v3_3 h) fun v4_4 => Evs (mFieldAddr tState (env.get 3) 5) fun v5_5 => Evs (mLoad .cell v5_5 h) fun v6_6 => Evs (mIdxS tSeat v6_6 (env.get 5)) fun v8_7 => Evs (mLoad tSeat v8_7 h) fun v9_8 => bothP (Evs (mNew tSeat (.node [(.node [(arr 32 fun _ => 0#8), (arr 32 fun _ => 0#8)]), (u8 0#8), (u32 0#32)]) h) fun r10_9 => stabP (mLoad .cell v0_1 r10_9.2 = some v1_2) (stabP (mLoad tSeat v3_3 r10_9.2 = some v4_4) (stabP (mLoad .cell v5_5 r10_9.2 = some v6_6) (stabP (mLoad tSeat v8_7 r10_9.2 = some v9_8) (Evs (mNew tSeat (.node [(.node [(arr 32 fun _ => 0#8), (arr 32 fun _ => 0#8)]), (u8 0#8), (u32 0#32)]) r10_9.2) fun r11_10 => stabP (mLoad .cell v0_1 r11_10.2 = some v1_2) (stabP (mLoad tSeat v3_3 r11_10.2 = some v4_4) (stabP (mLoad .cell v5_5 r11_10.2 = some v6_6) (stabP (mLoad tSeat v8_7 r11_10.2 = some v9_8) (Evs (stU tSeat r10_9.1 v4_4 r11_10.2) fun r12_11 => stabP (mLoad .cell v5_5 r12_11.2 = some v6_6) (stabP (mLoad tSeat v8_7 r12_11.2 = some v9_8) (Evs (stU tSeat r11_10.1 v9_8 r12_11.2) fun r13_12 => wC Try.prog cx9 n9_19 Q ⟨(Env.put (Env.put env 6 r10_9.1) 7 r11_10.1), r13_12.2⟩))))))))))) (Evs (mNew tSeat (.node [(.node [(arr 32 fun _ => 0#8), (arr 32 fun _ => 0#8)]), (u8 0#8), (u32 0#32)]) h) fun r11_13 => stabP (mLoad .cell v0_1 r11_13.2 = some v1_2) (stabP (mLoad tSeat v3_3 r11_13.2 = some v4_4) (stabP (mLoad .cell v5_5 r11_13.2 = some v6_6) (stabP (mLoad tSeat v8_7 r11_13.2 = some v9_8) (Evs (mNew tSeat (.node [(.node [(arr 32 fun _ => 0#8), (arr 32 fun _ => 0#8)]), (u8 0#8), (u32 0#32)]) r11_13.2) fun r10_14 => stabP (mLoad .cell v0_1 r10_14.2 = some v1_2) (stabP (mLoad tSeat v3_3 r10_14.2 = some v4_4) (stabP (mLoad .cell v5_5 r10_14.2 = some v6_6) (stabP (mLoad tSeat v8_7 r10_14.2 = some v9_8) (Evs (stU tSeat r10_14.1 v4_4 r10_14.2) fun r12_15 => stabP (mLoad .cell v5_5 r12_15.2 = some v6_6) (stabP (mLoad tSeat v8_7 r12_15.2 = some v9_8) (Evs (stU tSeat r11_13.1 v9_8 r12_15.2) fun r13_16 => wC Try.prog cx9 n9_19 Q ⟨(Env.put (Env.put env 7 r11_13.1) 6 r10_14.1), r13_16.2⟩)))))))))))) : wC Try.prog cx9 n9_18 Q ⟨env, h⟩ := by
  refine ySD 6 (cOps (cL n9_18)) (cR n9_18) [10, 11, 12, 13] [0, 1, 0, 7, 15, 0, 32, 0, 224, 480, 0, 0, 3103, 8191] [0, 1, 2, 3, 4, 5, 6, 7, 8, 9] n9_18_ok ?_
  refine rP H 93 fun v0_1 H => ?_
  refine rP H 94 fun v1_2 H => ?_
  refine rT 95 (env.get 5) ?_
  refine rP H 96 fun v3_3 H => ?_
  refine rP H 97 fun v4_4 H => ?_
  refine rP H 98 fun v5_5 H => ?_
  refine rP H 99 fun v6_6 H => ?_
  refine rT 100 (env.get 5) ?_
  refine rP H 101 fun v8_7 H => ?_
  refine rP H 102 fun v9_8 H => ?_
  refine rE ?_
  refine tN 10 [11] ?_
  refine aN2 ?_ ?_
  · replace H := H.1
    refine tH H 6 [] [1, 4, 6, 9] (fun r10_9 H => ?_)
    refine sP v1_2 94 H (fun H => ?_) (by kernel_rfl) (by kernel_rfl) (by kernel_rfl)
    refine sP v4_4 97 H (fun H => ?_) (by kernel_rfl) (by kernel_rfl) (by kernel_rfl)
    refine sP v6_6 99 H (fun H => ?_) (by kernel_rfl) (by kernel_rfl) (by kernel_rfl)
    refine sP v9_8 102 H (fun H => ?_) (by kernel_rfl) (by kernel_rfl) (by kernel_rfl)
    refine ⟨sNil, ?_⟩
    refine rE ?_
    refine tN 11 [] ?_
    refine aN1 ?_
    refine tH H 7 [] [1, 4, 6, 9] (fun r11_10 H => ?_)
    refine sP v1_2 94 H (fun H => ?_) (by kernel_rfl) (by kernel_rfl) (by kernel_rfl)
    refine sP v4_4 97 H (fun H => ?_) (by kernel_rfl) (by kernel_rfl) (by kernel_rfl)
    refine sP v6_6 99 H (fun H => ?_) (by kernel_rfl) (by kernel_rfl) (by kernel_rfl)
    refine sP v9_8 102 H (fun H => ?_) (by kernel_rfl) (by kernel_rfl) (by kernel_rfl)
    refine ⟨sNil, ?_⟩
    refine rE ?_
    refine tN 12 [] ?_
    refine aN1 ?_
    refine tHn H [] [6, 9] (fun r12_11 H => ?_)
    refine sP v6_6 99 H (fun H => ?_) (by kernel_rfl) (by kernel_rfl) (by kernel_rfl)
    refine sP v9_8 102 H (fun H => ?_) (by kernel_rfl) (by kernel_rfl) (by kernel_rfl)
    refine ⟨sNil, ?_⟩
    refine rE ?_
    refine tN 13 [] ?_
    refine aN1 ?_
    refine tHn H [] [] (fun r13_12 H => ?_)
    refine ⟨sNil, ?_⟩
    refine rE ?_
    exact tE H
  replace H := H.2
  refine aN1 ?_
  refine tH H 7 [] [1, 4, 6, 9] (fun r11_13 H => ?_)
  refine sP v1_2 94 H (fun H => ?_) (by kernel_rfl) (by kernel_rfl) (by kernel_rfl)
  refine sP v4_4 97 H (fun H => ?_) (by kernel_rfl) (by kernel_rfl) (by kernel_rfl)
  refine sP v6_6 99 H (fun H => ?_) (by kernel_rfl) (by kernel_rfl) (by kernel_rfl)
  refine sP v9_8 102 H (fun H => ?_) (by kernel_rfl) (by kernel_rfl) (by kernel_rfl)
  refine ⟨sNil, ?_⟩
  refine rE ?_
  refine tN 10 [] ?_
  refine aN1 ?_
  refine tH H 6 [] [1, 4, 6, 9] (fun r10_14 H => ?_)
  refine sP v1_2 94 H (fun H => ?_) (by kernel_rfl) (by kernel_rfl) (by kernel_rfl)
  refine sP v4_4 97 H (fun H => ?_) (by kernel_rfl) (by kernel_rfl) (by kernel_rfl)
  refine sP v6_6 99 H (fun H => ?_) (by kernel_rfl) (by kernel_rfl) (by kernel_rfl)
  refine sP v9_8 102 H (fun H => ?_) (by kernel_rfl) (by kernel_rfl) (by kernel_rfl)
  refine ⟨sNil, ?_⟩
  refine rE ?_
  refine tN 12 [] ?_
  refine aN1 ?_
  refine tHn H [] [6, 9] (fun r12_15 H => ?_)
  refine sP v6_6 99 H (fun H => ?_) (by kernel_rfl) (by kernel_rfl) (by kernel_rfl)
  refine sP v9_8 102 H (fun H => ?_) (by kernel_rfl) (by kernel_rfl) (by kernel_rfl)
  refine ⟨sNil, ?_⟩
  refine rE ?_
  refine tN 13 [] ?_
  refine aN1 ?_
  refine tHn H [] [] (fun r13_16 H => ?_)
  refine ⟨sNil, ?_⟩
  refine rE ?_
  exact tE H
theorem n9_17_eq (Q : Ex × St → Prop) (s : St) : wC Try.prog cx9 n9_17 Q s = wC Try.prog cx9 n9_18 (fun r => Q (inBlk 1 r)) s := yB 1 _
theorem n9_24_eq (Q : Ex × St → Prop) (env : Env) (h : Heap) : wC Try.prog cx9 n9_24 Q ⟨env, h⟩ = (Evs (mBin .add (env.get 5) (nat 1)) fun v1 => Q (.nrm, ⟨(Env.put env 5 v1), h⟩)) := (yR 5 (cOps n9_24)).trans (by
  refine w0 ?_
  refine wT 91 (env.get 5) ?_
  refine wP 92 fun v1 => ?_
  refine wT 5 v1 ?_
  exact wE)
theorem n9_16_eq (Q : Ex × St → Prop) (s : St) : wC Try.prog cx9 n9_16 Q s = wC Try.prog cx9 n9_17 (sqW (wC Try.prog cx9 n9_24) Q) s := yS _ _
theorem n9_11_eq (Q : Ex × St → Prop) (s : St) : wC Try.prog cx9 n9_11 Q s = wC Try.prog cx9 n9_12 (sqW (wC Try.prog cx9 n9_16) Q) s := yS _ _
theorem n9_10_eq (Q : Ex × St → Prop) (s : St) : wC Try.prog cx9 n9_10 Q s = loopW (wC Try.prog cx9 n9_11) Q s := yL _
theorem n9_9_eq (Q : Ex × St → Prop) (s : St) : wC Try.prog cx9 n9_9 Q s = wC Try.prog cx9 n9_10 (fun r => Q (inBlk 0 r)) s := yB 0 _
theorem n9_8_eq (Q : Ex × St → Prop) (env : Env) (h : Heap) : wC Try.prog cx9 n9_8 Q ⟨env, h⟩ = ( wC Try.prog cx9 n9_9 Q ⟨(Env.put env 5 (nat 0)), h⟩) := (ySR 3 (cOps (cL n9_8)) (cR n9_8)).trans (by
  refine w0 ?_
  refine wT 5 (nat 0) ?_
  exact wE)
theorem n9_32_eq (Q : Ex × St → Prop) (s : St) : wC Try.prog cx9 n9_32 Q s = Q (.nrm, s) := yK
theorem n9_33_eq (Q : Ex × St → Prop) (s : St) : wC Try.prog cx9 n9_33 Q s = Q (.exit 2, s) := yX 2
theorem n9_31_eq (Q : Ex × St → Prop) (s : St) : wC Try.prog cx9 n9_31 Q s = cndW (s.env.get 110) (wL Try.prog cx9 n9_32 Q s) (wL Try.prog cx9 n9_33 Q s) := yC 110 _ _
theorem n9_30_eq (Q : Ex × St → Prop) (env : Env) (h : Heap) : wC Try.prog cx9 n9_30 Q ⟨env, h⟩ = (Evs (mFieldAddr tState (env.get 2) 6) fun v1 => Evs (mLoad .cell v1 h) fun v2 => Evs (mLenS v2) fun v3 => Evs (mBin .lss (env.get 8) v3) fun v4 => wC Try.prog cx9 n9_31 Q ⟨(Env.put env 110 v4), h⟩) := (ySR 10 (cOps (cL n9_30)) (cR n9_30)).trans (by
  refine w0 ?_
  refine wT 106 (env.get 8) ?_
  refine wP 107 fun v1 => ?_
  refine wP 108 fun v2 => ?_
  refine wP 109 fun v3 => ?_
  refine wP 110 fun v4 => ?_
  exact wE)
theorem n9_40_eq (Q : Ex × St → Prop) (s : St) : wC Try.prog cx9 n9_40 Q s = Q (.ret, s) := yE
theorem n9_39_eq (Q : Ex × St → Prop) (env : Env) (h : Heap) : wC Try.prog cx9 n9_39 Q ⟨env, h⟩ = ( wC Try.prog cx9 n9_40 Q ⟨(Env.put env 4 (.bool false)), h⟩) := (ySR 14 (cOps (cL n9_39)) (cR n9_39)).trans (by
  refine w0 ?_
  refine wT 4 (.bool false) ?_
  exact wE)
theorem n9_41_eq (Q : Ex × St → Prop) (s : St) : wC Try.prog cx9 n9_41 Q s = Q (.nrm, s) := yK
theorem n9_38_eq (Q : Ex × St → Prop) (s : St) : wC Try.prog cx9 n9_38 Q s = cndW (s.env.get 125) (wL Try.prog cx9 n9_39 Q s) (wL Try.prog cx9 n9_41 Q s) := yC 125 _ _
theorem n9_37_eq (Q : Ex × St → Prop) (env : Env) (h : Heap) : wC Try.prog cx9 n9_37 Q ⟨env, h⟩ = (Evs (mLoad tInvite (env.get 9) h) fun v0 => Evs (mLoad tInvite (env.get 10) h) fun v1 => Evs (mEq tInvite .neq v0 v1) fun v2 => wC Try.prog cx9 n9_38 Q ⟨(Env.put env 125 v2), h⟩) := (ySR 13 (cOps (cL n9_37)) (cR n9_37)).trans (by
  refine w0 ?_
  refine wP 123 fun v0 => ?_
  refine wP 124 fun v1 => ?_
  refine wP 125 fun v2 => ?_
  exact wE)
theorem n9_36_ok : treeOk (cOps (cL n9_36)).toList [10, 11, 12, 13] [0, 1, 0, 7, 15, 0, 32, 0, 224, 480, 0, 0, 3103, 8191] = true := by kernel_rfl
theorem n9_36_w (Q : Ex × St → Prop) (env : Env) (h : Heap) (H : Evs (mFieldAddr tState (env.get 2) 6) fun v0_1 => Evs (mLoad .cell v0_1 h) fun v1_2 => Evs (mIdxS tInvite v1_2 (env.get 8)) fun v3_3 => Evs (mLoad tInvite v3_3 h) fun v4_4 => Evs (mFieldAddr tState (env.get 3) 6) fun v5_5 => Evs (mLoad .cell v5_5 h) fun v6_6 => Evs (mIdxS tInvite v6_6 (env.get 8)) fun v8_7 => Evs (mLoad tInvite v8_7 h) fun v9_8 => bothP (Evs (mNew tInvite (.node [(.node [(arr 32 fun _ => 0#8), (arr 32 fun _ => 0#8)]), (u8 0#8), (.node [(arr 32 fun _ => 0#8), (arr 32 fun _ => 0#8)])]) h) fun r10_9 => stabP (mLoad .cell v0_1 r10_9.2 = some v1_2) (stabP (mLoad tInvite v3_3 r10_9.2 = some v4_4) (stabP (mLoad .cell v5_5 r10_9.2 = some v6_6) (stabP (mLoad tInvite v8_7 r10_9.2 = some v9_8) (Evs (mNew tInvite (.node [(.node [(arr 32 fun _ => 0#8), (arr 32 fun _ => 0#8)]), (u8 0#8), (.node [(arr 32 fun _ => 0#8), (arr 32 fun _ => 0#8)])]) r10_9.2) fun r11_10 => stabP (mLoad .cell v0_1 r11_10.2 = some v1_2) (stabP (mLoad tInvite v3_3 r11_10.2 = some v4_4) (stabP (mLoad .cell v5_5 r11_10.2 = some v6_6) (stabP (mLoad tInvite v8_7 r11_10.2 = some v9_8) (Evs (stU tInvite r10_9.1 v4_4 r11_10.2) fun r12_11 => stabP (mLoad .cell v5_5 r12_11.2 = some v6_6) (stabP (mLoad tInvite v8_7 r12_11.2 = some v9_8) (Evs (stU tInvite r11_10.1 v9_8 r12_11.2) fun r13_12 => wC Try.prog cx9 n9_37 Q ⟨(Env.put (Env.put env 9 r10_9.1) 10 r11_10.1), r13_12.2⟩))))))))))) (Evs (mNew tInvite (.node [(.node [(arr 32 fun _ => 0#8), (arr 32 fun _ => 0#8)]), (u8 0#8), (.node [(arr 32 fun _ => 0#8), (arr 32 fun _ => 0#8)])]) h) fun r11_13 => stabP (mLoad .cell v0_1 r11_13.2 = some v1_2) (stabP (mLoad tInvite v3_3 r11_13.2 = some v4_4) (stabP (mLoad .cell v5_5 r11_13.2 = some v6_6) (stabP (mLoad tInvite v8_7 r11_13.2 = some v9_8) (Evs (mNew tInvite (.node [(.node [(arr 32 fun _ => 0#8), (arr 32 fun _ => 0#8)]), (u8 0#8), (.node [(arr 32 fun _ => 0#8), (arr 32 fun _ => 0#8)])]) r11_13.2) fun r10_14 => stabP (mLoad .cell v0_1 r10_14.2 = some v1_2) (stabP (mLoad tInvite v3_3 r10_14.2 = some v4_4) (stabP (mLoad .cell v5_5 r10_14.2 = some v6_6) (stabP (mLoad tInvite v8_7 r10_14.2 = some v9_8) (Evs (stU tInvite r10_14.1 v4_4 r10_14.2) fun r12_15 => stabP (mLoad .cell v5_5 r12_15.2 = some v6_6) (stabP (mLoad tInvite v8_7 r12_15.2 = some v9_8) (Evs (stU tInvite r11_13.1 v9_8 r12_15.2) fun r13_16 => wC Try.prog cx9 n9_37 Q ⟨(Env.put (Env.put env 10 r11_13.1) 9 r10_14.1), r13_16.2⟩)))))))))))) : wC Try.prog cx9 n9_36 Q ⟨env, h⟩ := by
  refine ySD 12 (cOps (cL n9_36)) (cR n9_36) [10, 11, 12, 13] [0, 1, 0, 7, 15, 0, 32, 0, 224, 480, 0, 0, 3103, 8191] [0, 1, 2, 3, 4, 5, 6, 7, 8, 9] n9_36_ok ?_
  refine rP H 113 fun v0_1 H => ?_
  refine rP H 114 fun v1_2 H => ?_
  refine rT 115 (env.get 8) ?_
  refine rP H 116 fun v3_3 H => ?_
  refine rP H 117 fun v4_4 H => ?_
  refine rP H 118 fun v5_5 H => ?_
  refine rP H 119 fun v6_6 H => ?_
  refine rT 120 (env.get 8) ?_
  refine rP H 121 fun v8_7 H => ?_
  refine rP H 122 fun v9_8 H => ?_
  refine rE ?_
  refine tN 10 [11] ?_
  refine aN2 ?_ ?_
  · replace H := H.1
    refine tH H 9 [] [1, 4, 6, 9] (fun r10_9 H => ?_)
    refine sP v1_2 114 H (fun H => ?_) (by kernel_rfl) (by kernel_rfl) (by kernel_rfl)
    refine sP v4_4 117 H (fun H => ?_) (by kernel_rfl) (by kernel_rfl) (by kernel_rfl)
    refine sP v6_6 119 H (fun H => ?_) (by kernel_rfl) (by kernel_rfl) (by kernel_rfl)
    refine sP v9_8 122 H (fun H => ?_) (by kernel_rfl) (by kernel_rfl) (by kernel_rfl)
    refine ⟨sNil, ?_⟩
    refine rE ?_
    refine tN 11 [] ?_
    refine aN1 ?_
    refine tH H 10 [] [1, 4, 6, 9] (fun r11_10 H => ?_)
    refine sP v1_2 114 H (fun H => ?_) (by kernel_rfl) (by kernel_rfl) (by kernel_rfl)
    refine sP v4_4 117 H (fun H => ?_) (by kernel_rfl) (by kernel_rfl) (by kernel_rfl)
    refine sP v6_6 119 H (fun H => ?_) (by kernel_rfl) (by kernel_rfl) (by kernel_rfl)
    refine sP v9_8 122 H (fun H => ?_) (by kernel_rfl) (by kernel_rfl) (by kernel_rfl)
    refine ⟨sNil, ?_⟩
    refine rE ?_
    refine tN 12 [] ?_
    refine aN1 ?_
    refine tHn H [] [6, 9] (fun r12_11 H => ?_)
    refine sP v6_6 119 H (fun H => ?_) (by kernel_rfl) (by kernel_rfl) (by kernel_rfl)
    refine sP v9_8 122 H (fun H => ?_) (by kernel_rfl) (by kernel_rfl) (by kernel_rfl)
    refine ⟨sNil, ?_⟩
    refine rE ?_
    refine tN 13 [] ?_
    refine aN1 ?_
    refine tHn H [] [] (fun r13_12 H => ?_)
    refine ⟨sNil, ?_⟩
    refine rE ?_
    exact tE H
  replace H := H.2
  refine aN1 ?_
  refine tH H 10 [] [1, 4, 6, 9] (fun r11_13 H => ?_)
  refine sP v1_2 114 H (fun H => ?_) (by kernel_rfl) (by kernel_rfl) (by kernel_rfl)
  refine sP v4_4 117 H (fun H => ?_) (by kernel_rfl) (by kernel_rfl) (by kernel_rfl)
  refine sP v6_6 119 H (fun H => ?_) (by kernel_rfl) (by kernel_rfl) (by kernel_rfl)
  refine sP v9_8 122 H (fun H => ?_) (by kernel_rfl) (by kernel_rfl) (by kernel_rfl)
  refine ⟨sNil, ?_⟩
  refine rE ?_
  refine tN 10 [] ?_
  refine aN1 ?_
  refine tH H 9 [] [1, 4, 6, 9] (fun r10_14 H => ?_)
  refine sP v1_2 114 H (fun H => ?_) (by kernel_rfl) (by kernel_rfl) (by kernel_rfl)
  refine sP v4_4 117 H (fun H => ?_) (by kernel_rfl) (by kernel_rfl) (by kernel_rfl)
  refine sP v6_6 119 H (fun H => ?_) (by kernel_rfl) (by kernel_rfl) (by kernel_rfl)
  refine sP v9_8 122 H (fun H => ?_) (by kernel_rfl) (by kernel_rfl) (by kernel_rfl)
  refine ⟨sNil, ?_⟩
  refine rE ?_
  refine tN 12 [] ?_
  refine aN1 ?_
  refine tHn H [] [6, 9] (fun r12_15 H => ?_)
  refine sP v6_6 119 H (fun H => ?_) (by kernel_rfl) (by kernel_rfl) (by kernel_rfl)
  refine sP v9_8 122 H (fun H => ?_) (by kernel_rfl) (by kernel_rfl) (by kernel_rfl)
  refine ⟨sNil, ?_⟩
  refine rE ?_
  refine tN 13 [] ?_
  refine aN1 ?_
  refine tHn H [] [] (fun r13_16 H => ?_)
  refine ⟨sNil, ?_⟩
  refine rE ?_
  exact tE H
theorem n9_35_eq (Q : Ex × St → Prop) (s : St) : wC Try.prog cx9 n9_35 Q s = wC Try.prog cx9 n9_36 (fun r => Q (inBlk 3 r)) s := yB 3 _
theorem n9_42_eq (Q : Ex × St → Prop) (env : Env) (h : Heap) : wC Try.prog cx9 n9_42 Q ⟨env, h⟩ = (Evs (mBin .add (env.get 8) (nat 1)) fun v1 => Q (.nrm, ⟨(Env.put env 8 v1), h⟩)) := (yR 11 (cOps n9_42)).trans (by
  refine w0 ?_
  refine wT 111 (env.get 8) ?_
  refine wP 112 fun v1 => ?_
  refine wT 8 v1 ?_
  exact wE)
theorem n9_34_eq (Q : Ex × St → Prop) (s : St) : wC Try.prog cx9 n9_34 Q s = wC Try.prog cx9 n9_35 (sqW (wC Try.prog cx9 n9_42) Q) s := yS _ _
theorem n9_29_eq (Q : Ex × St → Prop) (s : St) : wC Try.prog cx9 n9_29 Q s = wC Try.prog cx9 n9_30 (sqW (wC Try.prog cx9 n9_34) Q) s := yS _ _
theorem n9_28_eq (Q : Ex × St → Prop) (s : St) : wC Try.prog cx9 n9_28 Q s = loopW (wC Try.prog cx9 n9_29) Q s := yL _
theorem n9_27_eq (Q : Ex × St → Prop) (s : St) : wC Try.prog cx9 n9_27 Q s = wC Try.prog cx9 n9_28 (fun r => Q (inBlk 2 r)) s := yB 2 _
theorem n9_26_eq (Q : Ex × St → Prop) (env : Env) (h : Heap) : wC Try.prog cx9 n9_26 Q ⟨env, h⟩ = ( wC Try.prog cx9 n9_27 Q ⟨(Env.put env 8 (nat 0)), h⟩) := (ySR 9 (cOps (cL n9_26)) (cR n9_26)).trans (by
  refine w0 ?_
  refine wT 8 (nat 0) ?_
  exact wE)
theorem n9_50_eq (Q : Ex × St → Prop) (s : St) : wC Try.prog cx9 n9_50 Q s = Q (.nrm, s) := yK
theorem n9_51_eq (Q : Ex × St → Prop) (s : St) : wC Try.prog cx9 n9_51 Q s = Q (.exit 4, s) := yX 4
theorem n9_49_eq (Q : Ex × St → Prop) (s : St) : wC Try.prog cx9 n9_49 Q s = cndW (s.env.get 130) (wL Try.prog cx9 n9_50 Q s) (wL Try.prog cx9 n9_51 Q s) := yC 130 _ _
theorem n9_48_eq (Q : Ex × St → Prop) (env : Env) (h : Heap) : wC Try.prog cx9 n9_48 Q ⟨env, h⟩ = (Evs (mFieldAddr tState (env.get 2) 7) fun v1 => Evs (mLoad .cell v1 h) fun v2 => Evs (mLenS v2) fun v3 => Evs (mBin .lss (env.get 11) v3) fun v4 => wC Try.prog cx9 n9_49 Q ⟨(Env.put env 130 v4), h⟩) := (ySR 16 (cOps (cL n9_48)) (cR n9_48)).trans (by
  refine w0 ?_
  refine wT 126 (env.get 11) ?_
  refine wP 127 fun v1 => ?_
  refine wP 128 fun v2 => ?_
  refine wP 129 fun v3 => ?_
  refine wP 130 fun v4 => ?_
  exact wE)
theorem n9_57_eq (Q : Ex × St → Prop) (s : St) : wC Try.prog cx9 n9_57 Q s = Q (.ret, s) := yE
theorem n9_56_eq (Q : Ex × St → Prop) (env : Env) (h : Heap) : wC Try.prog cx9 n9_56 Q ⟨env, h⟩ = ( wC Try.prog cx9 n9_57 Q ⟨(Env.put env 4 (.bool false)), h⟩) := (ySR 19 (cOps (cL n9_56)) (cR n9_56)).trans (by
  refine w0 ?_
  refine wT 4 (.bool false) ?_
  exact wE)
theorem n9_58_eq (Q : Ex × St → Prop) (s : St) : wC Try.prog cx9 n9_58 Q s = Q (.nrm, s) := yK
theorem n9_55_eq (Q : Ex × St → Prop) (s : St) : wC Try.prog cx9 n9_55 Q s = cndW (s.env.get 143) (wL Try.prog cx9 n9_56 Q s) (wL Try.prog cx9 n9_58 Q s) := yC 143 _ _
theorem n9_54_ok : treeOk (cOps (cL n9_54)).toList [] [0, 1, 0, 7, 15, 0, 32, 0, 224, 480, 1023] = true := by kernel_rfl
theorem n9_54_w (Q : Ex × St → Prop) (env : Env) (h : Heap) (H : Evs (mFieldAddr tState (env.get 2) 7) fun v0_1 => Evs (mLoad .cell v0_1 h) fun v1_2 => Evs (mIdxS tAsk v1_2 (env.get 11)) fun v3_3 => Evs (mLoad tAsk v3_3 h) fun v4_4 => Evs (mFieldAddr tState (env.get 3) 7) fun v5_5 => Evs (mLoad .cell v5_5 h) fun v6_6 => Evs (mIdxS tAsk v6_6 (env.get 11)) fun v8_7 => Evs (mLoad tAsk v8_7 h) fun v9_8 => Evs (mEq tAsk .neq v4_4 v9_8) fun v10_9 => wC Try.prog cx9 n9_55 Q ⟨(Env.put env 143 v10_9), h⟩) : wC Try.prog cx9 n9_54 Q ⟨env, h⟩ := by
  refine ySD 18 (cOps (cL n9_54)) (cR n9_54) [] [0, 1, 0, 7, 15, 0, 32, 0, 224, 480, 1023] [0, 1, 2, 3, 4, 5, 6, 7, 8, 9, 10] n9_54_ok ?_
  refine rP H 133 fun v0_1 H => ?_
  refine rP H 134 fun v1_2 H => ?_
  refine rT 135 (env.get 11) ?_
  refine rP H 136 fun v3_3 H => ?_
  refine rP H 137 fun v4_4 H => ?_
  refine rP H 138 fun v5_5 H => ?_
  refine rP H 139 fun v6_6 H => ?_
  refine rT 140 (env.get 11) ?_
  refine rP H 141 fun v8_7 H => ?_
  refine rP H 142 fun v9_8 H => ?_
  refine rP H 143 fun v10_9 H => ?_
  refine rE ?_
  exact tE H
theorem n9_53_eq (Q : Ex × St → Prop) (s : St) : wC Try.prog cx9 n9_53 Q s = wC Try.prog cx9 n9_54 (fun r => Q (inBlk 5 r)) s := yB 5 _
theorem n9_59_eq (Q : Ex × St → Prop) (env : Env) (h : Heap) : wC Try.prog cx9 n9_59 Q ⟨env, h⟩ = (Evs (mBin .add (env.get 11) (nat 1)) fun v1 => Q (.nrm, ⟨(Env.put env 11 v1), h⟩)) := (yR 17 (cOps n9_59)).trans (by
  refine w0 ?_
  refine wT 131 (env.get 11) ?_
  refine wP 132 fun v1 => ?_
  refine wT 11 v1 ?_
  exact wE)
theorem n9_52_eq (Q : Ex × St → Prop) (s : St) : wC Try.prog cx9 n9_52 Q s = wC Try.prog cx9 n9_53 (sqW (wC Try.prog cx9 n9_59) Q) s := yS _ _
theorem n9_47_eq (Q : Ex × St → Prop) (s : St) : wC Try.prog cx9 n9_47 Q s = wC Try.prog cx9 n9_48 (sqW (wC Try.prog cx9 n9_52) Q) s := yS _ _
theorem n9_46_eq (Q : Ex × St → Prop) (s : St) : wC Try.prog cx9 n9_46 Q s = loopW (wC Try.prog cx9 n9_47) Q s := yL _
theorem n9_45_eq (Q : Ex × St → Prop) (s : St) : wC Try.prog cx9 n9_45 Q s = wC Try.prog cx9 n9_46 (fun r => Q (inBlk 4 r)) s := yB 4 _
theorem n9_44_eq (Q : Ex × St → Prop) (env : Env) (h : Heap) : wC Try.prog cx9 n9_44 Q ⟨env, h⟩ = ( wC Try.prog cx9 n9_45 Q ⟨(Env.put env 11 (nat 0)), h⟩) := (ySR 15 (cOps (cL n9_44)) (cR n9_44)).trans (by
  refine w0 ?_
  refine wT 11 (nat 0) ?_
  exact wE)
theorem n9_67_eq (Q : Ex × St → Prop) (s : St) : wC Try.prog cx9 n9_67 Q s = Q (.nrm, s) := yK
theorem n9_68_eq (Q : Ex × St → Prop) (s : St) : wC Try.prog cx9 n9_68 Q s = Q (.exit 6, s) := yX 6
theorem n9_66_eq (Q : Ex × St → Prop) (s : St) : wC Try.prog cx9 n9_66 Q s = cndW (s.env.get 148) (wL Try.prog cx9 n9_67 Q s) (wL Try.prog cx9 n9_68 Q s) := yC 148 _ _
theorem n9_65_eq (Q : Ex × St → Prop) (env : Env) (h : Heap) : wC Try.prog cx9 n9_65 Q ⟨env, h⟩ = (Evs (mFieldAddr tState (env.get 2) 8) fun v1 => Evs (mLoad .cell v1 h) fun v2 => Evs (mLenS v2) fun v3 => Evs (mBin .lss (env.get 12) v3) fun v4 => wC Try.prog cx9 n9_66 Q ⟨(Env.put env 148 v4), h⟩) := (ySR 21 (cOps (cL n9_65)) (cR n9_65)).trans (by
  refine w0 ?_
  refine wT 144 (env.get 12) ?_
  refine wP 145 fun v1 => ?_
  refine wP 146 fun v2 => ?_
  refine wP 147 fun v3 => ?_
  refine wP 148 fun v4 => ?_
  exact wE)
theorem n9_74_eq (Q : Ex × St → Prop) (s : St) : wC Try.prog cx9 n9_74 Q s = Q (.ret, s) := yE
theorem n9_73_eq (Q : Ex × St → Prop) (env : Env) (h : Heap) : wC Try.prog cx9 n9_73 Q ⟨env, h⟩ = ( wC Try.prog cx9 n9_74 Q ⟨(Env.put env 4 (.bool false)), h⟩) := (ySR 24 (cOps (cL n9_73)) (cR n9_73)).trans (by
  refine w0 ?_
  refine wT 4 (.bool false) ?_
  exact wE)
theorem n9_75_eq (Q : Ex × St → Prop) (s : St) : wC Try.prog cx9 n9_75 Q s = Q (.nrm, s) := yK
theorem n9_72_eq (Q : Ex × St → Prop) (s : St) : wC Try.prog cx9 n9_72 Q s = cndW (s.env.get 161) (wL Try.prog cx9 n9_73 Q s) (wL Try.prog cx9 n9_75 Q s) := yC 161 _ _
theorem n9_71_ok : treeOk (cOps (cL n9_71)).toList [] [0, 1, 0, 7, 15, 0, 32, 0, 224, 480, 1023] = true := by kernel_rfl
theorem n9_71_w (Q : Ex × St → Prop) (env : Env) (h : Heap) (H : Evs (mFieldAddr tState (env.get 2) 8) fun v0_1 => Evs (mLoad .cell v0_1 h) fun v1_2 => Evs (mIdxS tBan v1_2 (env.get 12)) fun v3_3 => Evs (mLoad tBan v3_3 h) fun v4_4 => Evs (mFieldAddr tState (env.get 3) 8) fun v5_5 => Evs (mLoad .cell v5_5 h) fun v6_6 => Evs (mIdxS tBan v6_6 (env.get 12)) fun v8_7 => Evs (mLoad tBan v8_7 h) fun v9_8 => Evs (mEq tBan .neq v4_4 v9_8) fun v10_9 => wC Try.prog cx9 n9_72 Q ⟨(Env.put env 161 v10_9), h⟩) : wC Try.prog cx9 n9_71 Q ⟨env, h⟩ := by
  refine ySD 23 (cOps (cL n9_71)) (cR n9_71) [] [0, 1, 0, 7, 15, 0, 32, 0, 224, 480, 1023] [0, 1, 2, 3, 4, 5, 6, 7, 8, 9, 10] n9_71_ok ?_
  refine rP H 151 fun v0_1 H => ?_
  refine rP H 152 fun v1_2 H => ?_
  refine rT 153 (env.get 12) ?_
  refine rP H 154 fun v3_3 H => ?_
  refine rP H 155 fun v4_4 H => ?_
  refine rP H 156 fun v5_5 H => ?_
  refine rP H 157 fun v6_6 H => ?_
  refine rT 158 (env.get 12) ?_
  refine rP H 159 fun v8_7 H => ?_
  refine rP H 160 fun v9_8 H => ?_
  refine rP H 161 fun v10_9 H => ?_
  refine rE ?_
  exact tE H
theorem n9_70_eq (Q : Ex × St → Prop) (s : St) : wC Try.prog cx9 n9_70 Q s = wC Try.prog cx9 n9_71 (fun r => Q (inBlk 7 r)) s := yB 7 _
theorem n9_76_eq (Q : Ex × St → Prop) (env : Env) (h : Heap) : wC Try.prog cx9 n9_76 Q ⟨env, h⟩ = (Evs (mBin .add (env.get 12) (nat 1)) fun v1 => Q (.nrm, ⟨(Env.put env 12 v1), h⟩)) := (yR 22 (cOps n9_76)).trans (by
  refine w0 ?_
  refine wT 149 (env.get 12) ?_
  refine wP 150 fun v1 => ?_
  refine wT 12 v1 ?_
  exact wE)
theorem n9_69_eq (Q : Ex × St → Prop) (s : St) : wC Try.prog cx9 n9_69 Q s = wC Try.prog cx9 n9_70 (sqW (wC Try.prog cx9 n9_76) Q) s := yS _ _
theorem n9_64_eq (Q : Ex × St → Prop) (s : St) : wC Try.prog cx9 n9_64 Q s = wC Try.prog cx9 n9_65 (sqW (wC Try.prog cx9 n9_69) Q) s := yS _ _
theorem n9_63_eq (Q : Ex × St → Prop) (s : St) : wC Try.prog cx9 n9_63 Q s = loopW (wC Try.prog cx9 n9_64) Q s := yL _
theorem n9_62_eq (Q : Ex × St → Prop) (s : St) : wC Try.prog cx9 n9_62 Q s = wC Try.prog cx9 n9_63 (fun r => Q (inBlk 6 r)) s := yB 6 _
theorem n9_61_eq (Q : Ex × St → Prop) (env : Env) (h : Heap) : wC Try.prog cx9 n9_61 Q ⟨env, h⟩ = ( wC Try.prog cx9 n9_62 Q ⟨(Env.put env 12 (nat 0)), h⟩) := (ySR 20 (cOps (cL n9_61)) (cR n9_61)).trans (by
  refine w0 ?_
  refine wT 12 (nat 0) ?_
  exact wE)
theorem n9_78_eq (Q : Ex × St → Prop) (s : St) : wC Try.prog cx9 n9_78 Q s = Q (.ret, s) := yE
theorem n9_77_eq (Q : Ex × St → Prop) (env : Env) (h : Heap) : wC Try.prog cx9 n9_77 Q ⟨env, h⟩ = ( wC Try.prog cx9 n9_78 Q ⟨(Env.put env 4 (.bool true)), h⟩) := (ySR 25 (cOps (cL n9_77)) (cR n9_77)).trans (by
  refine w0 ?_
  refine wT 4 (.bool true) ?_
  exact wE)
theorem n9_60_eq (Q : Ex × St → Prop) (s : St) : wC Try.prog cx9 n9_60 Q s = wC Try.prog cx9 n9_61 (sqW (wC Try.prog cx9 n9_77) Q) s := yS _ _
theorem n9_43_eq (Q : Ex × St → Prop) (s : St) : wC Try.prog cx9 n9_43 Q s = wC Try.prog cx9 n9_44 (sqW (wC Try.prog cx9 n9_60) Q) s := yS _ _
theorem n9_25_eq (Q : Ex × St → Prop) (s : St) : wC Try.prog cx9 n9_25 Q s = wC Try.prog cx9 n9_26 (sqW (wC Try.prog cx9 n9_43) Q) s := yS _ _
theorem n9_7_eq (Q : Ex × St → Prop) (s : St) : wC Try.prog cx9 n9_7 Q s = wC Try.prog cx9 n9_8 (sqW (wC Try.prog cx9 n9_25) Q) s := yS _ _
theorem n9_1_eq (Q : Ex × St → Prop) (s : St) : wC Try.prog cx9 n9_1 Q s = wC Try.prog cx9 n9_2 (sqW (wC Try.prog cx9 n9_7) Q) s := yS _ _
theorem n9_0_eq (Q : Ex × St → Prop) (env : Env) (h : Heap) : wC Try.prog cx9 n9_0 Q ⟨env, h⟩ = (Evs (mNew tState (env.get 0) h) fun r0 => Evs (mNew tState (env.get 1) r0.2) fun r1 => wC Try.prog cx9 n9_1 Q ⟨(Env.put (Env.put (Env.put env 2 r0.1) 3 r1.1) 4 (.bool false)), r1.2⟩) := (ySR 0 (cOps (cL n9_0)) (cR n9_0)).trans (by
  refine w0 ?_
  refine wH 2 fun r0 => ?_
  refine wH 3 fun r1 => ?_
  refine wT 4 (.bool false) ?_
  exact wE)
theorem fn9 : Try.prog.funcs[9]? = some Try.f9 := by kernel_rfl
set_option maxHeartbeats 4000000 in
theorem q9 {a0 a1 : AV} {h : Heap} {K : AV × Heap → Prop} (H : ∀ env : Env, env.get 0 = a0 → env.get 1 = a1 → wC Try.prog cx9 n9_0 (retW (fun s => (bnd (some (s.env.get 4)) fun v => bnd (some []) fun vs => some (v :: vs))) K) ⟨env, h⟩) : SpecQ Try.prog 9 [a0, a1] h K :=
  bodyW_sound (C := cx9) TT_ok mixed_ok fn9 (by kernel_rfl) (show _ = some n9_0 by kernel_rfl) (by kernel_rfl) (by kernel_rfl) (of_decide_eq_true (by kernel_rfl)) ((show wC Try.prog cx9 n9_0 (retW (fun s => resAll cx9 s Try.f9.results.toList) K) ⟨env0 cx9 [a0, a1], h⟩ = wC Try.prog cx9 n9_0 (retW (fun s => (bnd (some (s.env.get 4)) fun v => bnd (some []) fun vs => some (v :: vs))) K) ⟨[(0, a0), (1, a1), (2, .junk), (3, .junk), (4, .junk), (5, .junk), (6, .junk), (7, .junk), (8, .junk), (9, .junk), (10, .junk), (11, .junk), (12, .junk), (85, .junk), (90, .junk), (105, .junk), (110, .junk), (125, .junk), (130, .junk), (143, .junk), (148, .junk), (161, .junk)], h⟩ by kernel_rfl).mpr (H [(0, a0), (1, a1), (2, .junk), (3, .junk), (4, .junk), (5, .junk), (6, .junk), (7, .junk), (8, .junk), (9, .junk), (10, .junk), (11, .junk), (12, .junk), (85, .junk), (90, .junk), (105, .junk), (110, .junk), (125, .junk), (130, .junk), (143, .junk), (148, .junk), (161, .junk)] rfl rfl))
set_option maxHeartbeats 4000000 in
def sn9 := And.intro n9_5_eq (And.intro n9_4_eq (And.intro n9_6_eq (And.intro n9_3_eq (And.intro n9_2_eq (And.intro n9_14_eq (And.intro n9_15_eq (And.intro n9_13_eq (And.intro n9_12_eq (And.intro n9_22_eq (And.intro n9_21_eq (And.intro n9_23_eq (And.intro n9_20_eq (And.intro n9_19_eq (And.intro n9_17_eq (And.intro n9_24_eq (And.intro n9_16_eq (And.intro n9_11_eq (And.intro n9_10_eq (And.intro n9_9_eq (And.intro n9_8_eq (And.intro n9_32_eq (And.intro n9_33_eq (And.intro n9_31_eq (And.intro n9_30_eq (And.intro n9_40_eq (And.intro n9_39_eq (And.intro n9_41_eq (And.intro n9_38_eq (And.intro n9_37_eq (And.intro n9_35_eq (And.intro n9_42_eq (And.intro n9_34_eq (And.intro n9_29_eq (And.intro n9_28_eq (And.intro n9_27_eq (And.intro n9_26_eq (And.intro n9_50_eq (And.intro n9_51_eq (And.intro n9_49_eq (And.intro n9_48_eq (And.intro n9_57_eq (And.intro n9_56_eq (And.intro n9_58_eq (And.intro n9_55_eq (And.intro n9_53_eq (And.intro n9_59_eq (And.intro n9_52_eq (And.intro n9_47_eq (And.intro n9_46_eq (And.intro n9_45_eq (And.intro n9_44_eq (And.intro n9_67_eq (And.intro n9_68_eq (And.intro n9_66_eq (And.intro n9_65_eq (And.intro n9_74_eq (And.intro n9_73_eq (And.intro n9_75_eq (And.intro n9_72_eq (And.intro n9_70_eq (And.intro n9_76_eq (And.intro n9_69_eq (And.intro n9_64_eq (And.intro n9_63_eq (And.intro n9_62_eq (And.intro n9_61_eq (And.intro n9_78_eq (And.intro n9_77_eq (And.intro n9_60_eq (And.intro n9_43_eq (And.intro n9_25_eq (And.intro n9_7_eq (And.intro n9_1_eq (n9_0_eq))))))))))))))))))))))))))))))))))))))))))))))))))))))))))))))))))))))))))
-- draws: n9_18 n9_36 n9_54 n9_71
end Go.Vab

/-
  The document's SameState, walked.
-/
namespace Go.Vab
open Go Go.Proofs

theorem c9 {h : Heap} {a b : Stt} {at_ ap as_ ai aa ab bt bp bs bi ba bb : AV} (ra : StR h a at_ ap as_ ai aa ab) (rb : StR h b bt bp bs bi ba bb) :
    SpecQ Try.prog 9 [eSt a at_ ap as_ ai aa ab, eSt b bt bp bs bi ba bb] h fun r => r = (.bool (decide (a = b)), h) := by
  have ta := ra.cells
  have tb := rb.cells
  obtain ⟨A, hA⟩ : ∃ A, A = eSt a at_ ap as_ ai aa ab := ⟨_, rfl⟩
  obtain ⟨B, hB⟩ : ∃ B, B = eSt b bt bp bs bi ba bb := ⟨_, rfl⟩
  have sat := fun l => (ra.ft.app l).str
  have sap := fun l => (ra.fp.app l).str
  have sbt := fun l => (rb.ft.app l).str
  have sbp := fun l => (rb.fp.app l).str
  have las := ra.fs.len
  have lai := ra.fi.len
  have laa := ra.fa.len
  have lab := ra.fb.len
  have lbs := rb.fs.len
  have lbi := rb.fi.len
  have lba := rb.fa.len
  have lbb := rb.fb.len
  have bas := ra.fs.bound
  have bai := ra.fi.bound
  have baa := ra.fa.bound
  have bab := ra.fb.bound
  simp only [List.length_map] at las lai laa lab lbs lbi lba lbb bas bai baa bab
  refine SpecQ.drop1 rfl (q9 fun env g0 g1 => ?_)
  repeat' (first
    | ((with_reducible apply evs_of); (focus ((conv => lhs; simp (disch := omega) [g0, g1, ta, tb, sat, sap, sbt, sbp, las, lai, laa, lab, lbs, lbi, lba, lbb]); done)); try dsimp only)
    | ((with_reducible apply cndW_T); (focus (simp (disch := omega) [g0, g1, ta, tb, sat, sap, sbt, sbp, las, lai, laa, lab, lbs, lbi, lba, lbb] <;> omega)))
    | ((with_reducible apply cndW_F); (focus (simp (disch := omega) [g0, g1, ta, tb, sat, sap, sbt, sbp, las, lai, laa, lab, lbs, lbi, lba, lbb] <;> omega)))
    | ((with_reducible apply stabP_i); (focus (simp (disch := omega) [g0, g1, ta, tb, sat, sap, sbt, sbp, las, lai, laa, lab, lbs, lbi, lba, lbb]; done)))
    | (with_reducible apply bothP_i)
    | (with_reducible apply wL_i)
    | ((with_reducible apply stabA_i); (focus ((conv => lhs; simp (disch := omega) [g0, g1, ta, tb, sat, sap, sbt, sbp, las, lai, laa, lab, lbs, lbi, lba, lbb]); done)))
    | ((with_reducible apply stabA_fn); (focus ((conv => lhs; simp (disch := omega) [g0, g1, ta, tb, sat, sap, sbt, sbp, las, lai, laa, lab, lbs, lbi, lba, lbb]); done)))
    | ((with_reducible apply stab_do); (focus (simp (disch := omega) [g0, g1, ta, tb, sat, sap, sbt, sbp, las, lai, laa, lab, lbs, lbi, lba, lbb]; done)))
    | (simp (decide := true) only [sn9, sqW_nrm, sqW_exit, sqW_ret, inBlk_nrm, inBlk_ret, inBlk_same, inBlk_exit, if_true, if_false, retW_nrm, retW_ret])
    | (with_reducible refine n9_18_w _ _ _ ?_)
    | (with_reducible refine n9_36_w _ _ _ ?_)
    | (with_reducible refine n9_54_w _ _ _ ?_)
    | (with_reducible refine n9_71_w _ _ _ ?_)
    | ((with_reducible apply cndW_splitE); (focus ((conv => lhs; simp (disch := omega) [g0, g1, ta, tb, sat, sap, sbt, sbp, las, lai, laa, lab, lbs, lbi, lba, lbb]); done)); all_goals ((intro hb; try simp only [Bool.not_true, Bool.not_false] at hb); try simp only [hb]))
    | (with_reducible refine gv_split ?_ ?_ <;> (intro hb; try simp only [Bool.not_true, Bool.not_false] at hb) <;> try simp only [hb])
    | (with_reducible refine cndW_split ?_ ?_ <;> (intro hb; try simp only [Bool.not_true, Bool.not_false] at hb) <;> try simp only [hb]))
  rotate_left
  all_goals try (refine fin_b (decide_eq_false ?_).symm; rintro rfl; simp_all; done)
  rename_i u1 u2 u3 u4 u5 u6 u7 u8
  simp only [Bool.not_eq_false', decide_eq_true_eq, Bool.or_eq_false_iff] at u1 u2 u3 u4 u5 u6 u7 u8 hb
  -- seats
  refine loop_up a.seats.length (fun i st => ∃ env' t, st = ⟨env', h ++ (⟨eSt a at_ ap as_ ai aa ab, 0, .own⟩ :: ⟨eSt b bt bp bs bi ba bb, 0, .own⟩ :: t)⟩ ∧ env'.get 2 = .ptr h.length 0 [] tState ∧ env'.get 3 = .ptr (h.length + 1) 0 [] tState ∧ env'.get 5 = nat i ∧ ∀ j, j < i → a.seats[j]? = b.seats[j]?) ?_ ?_ ⟨_, _, rfl, by simp [*], by simp [*], by simp, fun j hj => absurd hj (by omega)⟩
  · rintro i st hi ⟨env', t, rfl, e2, e3, ei, hj⟩
    obtain ⟨p, p1, p2⟩ := ra.fs.idx (i := i) (by simpa using hi)
    obtain ⟨q, q1, q2⟩ := rb.fs.idx (i := i) (by simpa [← u6] using hi)
    simp only [List.getElem?_map, List.getElem?_eq_getElem hi, Option.map_some] at p2
    simp only [List.getElem?_map, List.getElem?_eq_getElem (show i < b.seats.length by omega), Option.map_some] at q2
    by_cases hab : a.seats[i] = b.seats[i]
    · repeat' (first
        | ((with_reducible apply evs_of); (focus ((conv => lhs; simp (disch := omega) [e2, e3, ei, p1, p2, q1, q2, hab, las]); done)); try dsimp only)
        | ((with_reducible apply cndW_T); (focus (simp (disch := omega) [e2, e3, ei, p1, p2, q1, q2, hab, las] <;> omega)))
        | ((with_reducible apply cndW_F); (focus (simp (disch := omega) [e2, e3, ei, p1, p2, q1, q2, hab, las] <;> omega)))
        | ((with_reducible apply stabP_i); (focus (simp (disch := omega) [e2, e3, ei, p1, p2, q1, q2, hab, las]; done)))
        | (with_reducible apply bothP_i)
        | (with_reducible apply wL_i)
        | ((with_reducible apply stabA_i); (focus ((conv => lhs; simp (disch := omega) [e2, e3, ei, p1, p2, q1, q2, hab, las]); done)))
        | ((with_reducible apply stabA_fn); (focus ((conv => lhs; simp (disch := omega) [e2, e3, ei, p1, p2, q1, q2, hab, las]); done)))
        | ((with_reducible apply stab_do); (focus (simp (disch := omega) [e2, e3, ei, p1, p2, q1, q2, hab, las]; done)))
        | (simp (decide := true) only [sn9, sqW_nrm, sqW_exit, sqW_ret, inBlk_nrm, inBlk_ret, inBlk_same, inBlk_exit, if_true, if_false, retW_nrm, retW_ret])
        | (with_reducible refine n9_18_w _ _ _ ?_)
        | (with_reducible refine n9_36_w _ _ _ ?_)
        | (with_reducible refine n9_54_w _ _ _ ?_)
        | (with_reducible refine n9_71_w _ _ _ ?_))
      all_goals
        refine .inl ⟨by simp, _, _, rfl, by simp [e2], by simp [e3], by simp, fun j hj' => ?_⟩
        by_cases hji : j = i
        · subst hji
          rw [List.getElem?_eq_getElem hi, List.getElem?_eq_getElem (by omega), hab]
        · exact hj j (by omega)
    · repeat' (first
        | ((with_reducible apply evs_of); (focus ((conv => lhs; simp (disch := omega) [e2, e3, ei, p1, p2, q1, q2, hab, las]); done)); try dsimp only)
        | ((with_reducible apply cndW_T); (focus (simp (disch := omega) [e2, e3, ei, p1, p2, q1, q2, hab, las] <;> omega)))
        | ((with_reducible apply cndW_F); (focus (simp (disch := omega) [e2, e3, ei, p1, p2, q1, q2, hab, las] <;> omega)))
        | ((with_reducible apply stabP_i); (focus (simp (disch := omega) [e2, e3, ei, p1, p2, q1, q2, hab, las]; done)))
        | (with_reducible apply bothP_i)
        | (with_reducible apply wL_i)
        | ((with_reducible apply stabA_i); (focus ((conv => lhs; simp (disch := omega) [e2, e3, ei, p1, p2, q1, q2, hab, las]); done)))
        | ((with_reducible apply stabA_fn); (focus ((conv => lhs; simp (disch := omega) [e2, e3, ei, p1, p2, q1, q2, hab, las]); done)))
        | ((with_reducible apply stab_do); (focus (simp (disch := omega) [e2, e3, ei, p1, p2, q1, q2, hab, las]; done)))
        | (simp (decide := true) only [sn9, sqW_nrm, sqW_exit, sqW_ret, inBlk_nrm, inBlk_ret, inBlk_same, inBlk_exit, if_true, if_false, retW_nrm, retW_ret])
        | (with_reducible refine n9_18_w _ _ _ ?_)
        | (with_reducible refine n9_36_w _ _ _ ?_)
        | (with_reducible refine n9_54_w _ _ _ ?_)
        | (with_reducible refine n9_71_w _ _ _ ?_))
      all_goals
        refine .inr ⟨by simp, ?_⟩
        repeat' (first
          | ((with_reducible apply evs_of); (focus ((conv => lhs; simp (disch := omega) [e2, e3, ei]); done)); try dsimp only)
          | ((with_reducible apply cndW_T); (focus (simp (disch := omega) [e2, e3, ei] <;> omega)))
          | ((with_reducible apply cndW_F); (focus (simp (disch := omega) [e2, e3, ei] <;> omega)))
          | ((with_reducible apply stabP_i); (focus (simp (disch := omega) [e2, e3, ei]; done)))
          | (with_reducible apply bothP_i)
          | (with_reducible apply wL_i)
          | ((with_reducible apply stabA_i); (focus ((conv => lhs; simp (disch := omega) [e2, e3, ei]); done)))
          | ((with_reducible apply stabA_fn); (focus ((conv => lhs; simp (disch := omega) [e2, e3, ei]); done)))
          | ((with_reducible apply stab_do); (focus (simp (disch := omega) [e2, e3, ei]; done)))
          | (simp (decide := true) only [sn9, sqW_nrm, sqW_exit, sqW_ret, inBlk_nrm, inBlk_ret, inBlk_same, inBlk_exit, if_true, if_false, retW_nrm, retW_ret])
          | (with_reducible refine n9_18_w _ _ _ ?_)
          | (with_reducible refine n9_36_w _ _ _ ?_)
          | (with_reducible refine n9_54_w _ _ _ ?_)
          | (with_reducible refine n9_71_w _ _ _ ?_))
        refine fin_b (decide_eq_false ?_).symm
        rintro rfl
        exact hab rfl
  rintro st ⟨env', t, rfl, e2, e3, ei, hj⟩
  repeat' (first
    | ((with_reducible apply evs_of); (focus ((conv => lhs; simp (disch := omega) [e2, e3, ei, las]); done)); try dsimp only)
    | ((with_reducible apply cndW_T); (focus (simp (disch := omega) [e2, e3, ei, las] <;> omega)))
    | ((with_reducible apply cndW_F); (focus (simp (disch := omega) [e2, e3, ei, las] <;> omega)))
    | ((with_reducible apply stabP_i); (focus (simp (disch := omega) [e2, e3, ei, las]; done)))
    | (with_reducible apply bothP_i)
    | (with_reducible apply wL_i)
    | ((with_reducible apply stabA_i); (focus ((conv => lhs; simp (disch := omega) [e2, e3, ei, las]); done)))
    | ((with_reducible apply stabA_fn); (focus ((conv => lhs; simp (disch := omega) [e2, e3, ei, las]); done)))
    | ((with_reducible apply stab_do); (focus (simp (disch := omega) [e2, e3, ei, las]; done)))
    | (simp (decide := true) only [sn9, sqW_nrm, sqW_exit, sqW_ret, inBlk_nrm, inBlk_ret, inBlk_same, inBlk_exit, if_true, if_false, retW_nrm, retW_ret])
    | (with_reducible refine n9_18_w _ _ _ ?_)
    | (with_reducible refine n9_36_w _ _ _ ?_)
    | (with_reducible refine n9_54_w _ _ _ ?_)
    | (with_reducible refine n9_71_w _ _ _ ?_))
  refine ⟨by simp, ?_⟩
  repeat' (first
    | ((with_reducible apply evs_of); (focus ((conv => lhs; simp (disch := omega) [e2, e3, ei, las]); done)); try dsimp only)
    | ((with_reducible apply cndW_T); (focus (simp (disch := omega) [e2, e3, ei, las] <;> omega)))
    | ((with_reducible apply cndW_F); (focus (simp (disch := omega) [e2, e3, ei, las] <;> omega)))
    | ((with_reducible apply stabP_i); (focus (simp (disch := omega) [e2, e3, ei, las]; done)))
    | (with_reducible apply bothP_i)
    | (with_reducible apply wL_i)
    | ((with_reducible apply stabA_i); (focus ((conv => lhs; simp (disch := omega) [e2, e3, ei, las]); done)))
    | ((with_reducible apply stabA_fn); (focus ((conv => lhs; simp (disch := omega) [e2, e3, ei, las]); done)))
    | ((with_reducible apply stab_do); (focus (simp (disch := omega) [e2, e3, ei, las]; done)))
    | (simp (decide := true) only [sn9, sqW_nrm, sqW_exit, sqW_ret, inBlk_nrm, inBlk_ret, inBlk_same, inBlk_exit, if_true, if_false, retW_nrm, retW_ret])
    | (with_reducible refine n9_18_w _ _ _ ?_)
    | (with_reducible refine n9_36_w _ _ _ ?_)
    | (with_reducible refine n9_54_w _ _ _ ?_)
    | (with_reducible refine n9_71_w _ _ _ ?_))
  have w_seats : a.seats = b.seats := List.ext_getElem? fun j => by
    by_cases hj' : j < a.seats.length
    · exact hj j hj'
    · rw [List.getElem?_eq_none (by omega), List.getElem?_eq_none (by omega)]
  clear hj
  -- invites
  refine loop_up a.invites.length (fun i st => ∃ env' t, st = ⟨env', h ++ (⟨eSt a at_ ap as_ ai aa ab, 0, .own⟩ :: ⟨eSt b bt bp bs bi ba bb, 0, .own⟩ :: t)⟩ ∧ env'.get 2 = .ptr h.length 0 [] tState ∧ env'.get 3 = .ptr (h.length + 1) 0 [] tState ∧ env'.get 8 = nat i ∧ ∀ j, j < i → a.invites[j]? = b.invites[j]?) ?_ ?_ ⟨_, _, rfl, by simp [*], by simp [*], by simp, fun j hj => absurd hj (by omega)⟩
  · rintro i st hi ⟨env', t, rfl, e2, e3, ei, hj⟩
    obtain ⟨p, p1, p2⟩ := ra.fi.idx (i := i) (by simpa using hi)
    obtain ⟨q, q1, q2⟩ := rb.fi.idx (i := i) (by simpa [← u7] using hi)
    simp only [List.getElem?_map, List.getElem?_eq_getElem hi, Option.map_some] at p2
    simp only [List.getElem?_map, List.getElem?_eq_getElem (show i < b.invites.length by omega), Option.map_some] at q2
    by_cases hab : a.invites[i] = b.invites[i]
    · repeat' (first
        | ((with_reducible apply evs_of); (focus ((conv => lhs; simp (disch := omega) [e2, e3, ei, p1, p2, q1, q2, hab, lai]); done)); try dsimp only)
        | ((with_reducible apply cndW_T); (focus (simp (disch := omega) [e2, e3, ei, p1, p2, q1, q2, hab, lai] <;> omega)))
        | ((with_reducible apply cndW_F); (focus (simp (disch := omega) [e2, e3, ei, p1, p2, q1, q2, hab, lai] <;> omega)))
        | ((with_reducible apply stabP_i); (focus (simp (disch := omega) [e2, e3, ei, p1, p2, q1, q2, hab, lai]; done)))
        | (with_reducible apply bothP_i)
        | (with_reducible apply wL_i)
        | ((with_reducible apply stabA_i); (focus ((conv => lhs; simp (disch := omega) [e2, e3, ei, p1, p2, q1, q2, hab, lai]); done)))
        | ((with_reducible apply stabA_fn); (focus ((conv => lhs; simp (disch := omega) [e2, e3, ei, p1, p2, q1, q2, hab, lai]); done)))
        | ((with_reducible apply stab_do); (focus (simp (disch := omega) [e2, e3, ei, p1, p2, q1, q2, hab, lai]; done)))
        | (simp (decide := true) only [sn9, sqW_nrm, sqW_exit, sqW_ret, inBlk_nrm, inBlk_ret, inBlk_same, inBlk_exit, if_true, if_false, retW_nrm, retW_ret])
        | (with_reducible refine n9_18_w _ _ _ ?_)
        | (with_reducible refine n9_36_w _ _ _ ?_)
        | (with_reducible refine n9_54_w _ _ _ ?_)
        | (with_reducible refine n9_71_w _ _ _ ?_))
      all_goals
        refine .inl ⟨by simp, _, _, rfl, by simp [e2], by simp [e3], by simp, fun j hj' => ?_⟩
        by_cases hji : j = i
        · subst hji
          rw [List.getElem?_eq_getElem hi, List.getElem?_eq_getElem (by omega), hab]
        · exact hj j (by omega)
    · repeat' (first
        | ((with_reducible apply evs_of); (focus ((conv => lhs; simp (disch := omega) [e2, e3, ei, p1, p2, q1, q2, hab, lai]); done)); try dsimp only)
        | ((with_reducible apply cndW_T); (focus (simp (disch := omega) [e2, e3, ei, p1, p2, q1, q2, hab, lai] <;> omega)))
        | ((with_reducible apply cndW_F); (focus (simp (disch := omega) [e2, e3, ei, p1, p2, q1, q2, hab, lai] <;> omega)))
        | ((with_reducible apply stabP_i); (focus (simp (disch := omega) [e2, e3, ei, p1, p2, q1, q2, hab, lai]; done)))
        | (with_reducible apply bothP_i)
        | (with_reducible apply wL_i)
        | ((with_reducible apply stabA_i); (focus ((conv => lhs; simp (disch := omega) [e2, e3, ei, p1, p2, q1, q2, hab, lai]); done)))
        | ((with_reducible apply stabA_fn); (focus ((conv => lhs; simp (disch := omega) [e2, e3, ei, p1, p2, q1, q2, hab, lai]); done)))
        | ((with_reducible apply stab_do); (focus (simp (disch := omega) [e2, e3, ei, p1, p2, q1, q2, hab, lai]; done)))
        | (simp (decide := true) only [sn9, sqW_nrm, sqW_exit, sqW_ret, inBlk_nrm, inBlk_ret, inBlk_same, inBlk_exit, if_true, if_false, retW_nrm, retW_ret])
        | (with_reducible refine n9_18_w _ _ _ ?_)
        | (with_reducible refine n9_36_w _ _ _ ?_)
        | (with_reducible refine n9_54_w _ _ _ ?_)
        | (with_reducible refine n9_71_w _ _ _ ?_))
      all_goals
        refine .inr ⟨by simp, ?_⟩
        repeat' (first
          | ((with_reducible apply evs_of); (focus ((conv => lhs; simp (disch := omega) [e2, e3, ei]); done)); try dsimp only)
          | ((with_reducible apply cndW_T); (focus (simp (disch := omega) [e2, e3, ei] <;> omega)))
          | ((with_reducible apply cndW_F); (focus (simp (disch := omega) [e2, e3, ei] <;> omega)))
          | ((with_reducible apply stabP_i); (focus (simp (disch := omega) [e2, e3, ei]; done)))
          | (with_reducible apply bothP_i)
          | (with_reducible apply wL_i)
          | ((with_reducible apply stabA_i); (focus ((conv => lhs; simp (disch := omega) [e2, e3, ei]); done)))
          | ((with_reducible apply stabA_fn); (focus ((conv => lhs; simp (disch := omega) [e2, e3, ei]); done)))
          | ((with_reducible apply stab_do); (focus (simp (disch := omega) [e2, e3, ei]; done)))
          | (simp (decide := true) only [sn9, sqW_nrm, sqW_exit, sqW_ret, inBlk_nrm, inBlk_ret, inBlk_same, inBlk_exit, if_true, if_false, retW_nrm, retW_ret])
          | (with_reducible refine n9_18_w _ _ _ ?_)
          | (with_reducible refine n9_36_w _ _ _ ?_)
          | (with_reducible refine n9_54_w _ _ _ ?_)
          | (with_reducible refine n9_71_w _ _ _ ?_))
        refine fin_b (decide_eq_false ?_).symm
        rintro rfl
        exact hab rfl
  rintro st ⟨env', t, rfl, e2, e3, ei, hj⟩
  repeat' (first
    | ((with_reducible apply evs_of); (focus ((conv => lhs; simp (disch := omega) [e2, e3, ei, lai]); done)); try dsimp only)
    | ((with_reducible apply cndW_T); (focus (simp (disch := omega) [e2, e3, ei, lai] <;> omega)))
    | ((with_reducible apply cndW_F); (focus (simp (disch := omega) [e2, e3, ei, lai] <;> omega)))
    | ((with_reducible apply stabP_i); (focus (simp (disch := omega) [e2, e3, ei, lai]; done)))
    | (with_reducible apply bothP_i)
    | (with_reducible apply wL_i)
    | ((with_reducible apply stabA_i); (focus ((conv => lhs; simp (disch := omega) [e2, e3, ei, lai]); done)))
    | ((with_reducible apply stabA_fn); (focus ((conv => lhs; simp (disch := omega) [e2, e3, ei, lai]); done)))
    | ((with_reducible apply stab_do); (focus (simp (disch := omega) [e2, e3, ei, lai]; done)))
    | (simp (decide := true) only [sn9, sqW_nrm, sqW_exit, sqW_ret, inBlk_nrm, inBlk_ret, inBlk_same, inBlk_exit, if_true, if_false, retW_nrm, retW_ret])
    | (with_reducible refine n9_18_w _ _ _ ?_)
    | (with_reducible refine n9_36_w _ _ _ ?_)
    | (with_reducible refine n9_54_w _ _ _ ?_)
    | (with_reducible refine n9_71_w _ _ _ ?_))
  refine ⟨by simp, ?_⟩
  repeat' (first
    | ((with_reducible apply evs_of); (focus ((conv => lhs; simp (disch := omega) [e2, e3, ei, lai]); done)); try dsimp only)
    | ((with_reducible apply cndW_T); (focus (simp (disch := omega) [e2, e3, ei, lai] <;> omega)))
    | ((with_reducible apply cndW_F); (focus (simp (disch := omega) [e2, e3, ei, lai] <;> omega)))
    | ((with_reducible apply stabP_i); (focus (simp (disch := omega) [e2, e3, ei, lai]; done)))
    | (with_reducible apply bothP_i)
    | (with_reducible apply wL_i)
    | ((with_reducible apply stabA_i); (focus ((conv => lhs; simp (disch := omega) [e2, e3, ei, lai]); done)))
    | ((with_reducible apply stabA_fn); (focus ((conv => lhs; simp (disch := omega) [e2, e3, ei, lai]); done)))
    | ((with_reducible apply stab_do); (focus (simp (disch := omega) [e2, e3, ei, lai]; done)))
    | (simp (decide := true) only [sn9, sqW_nrm, sqW_exit, sqW_ret, inBlk_nrm, inBlk_ret, inBlk_same, inBlk_exit, if_true, if_false, retW_nrm, retW_ret])
    | (with_reducible refine n9_18_w _ _ _ ?_)
    | (with_reducible refine n9_36_w _ _ _ ?_)
    | (with_reducible refine n9_54_w _ _ _ ?_)
    | (with_reducible refine n9_71_w _ _ _ ?_))
  have w_invites : a.invites = b.invites := List.ext_getElem? fun j => by
    by_cases hj' : j < a.invites.length
    · exact hj j hj'
    · rw [List.getElem?_eq_none (by omega), List.getElem?_eq_none (by omega)]
  clear hj
  -- asks
  refine loop_up a.asks.length (fun i st => ∃ env' t, st = ⟨env', h ++ (⟨eSt a at_ ap as_ ai aa ab, 0, .own⟩ :: ⟨eSt b bt bp bs bi ba bb, 0, .own⟩ :: t)⟩ ∧ env'.get 2 = .ptr h.length 0 [] tState ∧ env'.get 3 = .ptr (h.length + 1) 0 [] tState ∧ env'.get 11 = nat i ∧ ∀ j, j < i → a.asks[j]? = b.asks[j]?) ?_ ?_ ⟨_, _, rfl, by simp [*], by simp [*], by simp, fun j hj => absurd hj (by omega)⟩
  · rintro i st hi ⟨env', t, rfl, e2, e3, ei, hj⟩
    obtain ⟨p, p1, p2⟩ := ra.fa.idx (i := i) (by simpa using hi)
    obtain ⟨q, q1, q2⟩ := rb.fa.idx (i := i) (by simpa [← u8] using hi)
    simp only [List.getElem?_map, List.getElem?_eq_getElem hi, Option.map_some] at p2
    simp only [List.getElem?_map, List.getElem?_eq_getElem (show i < b.asks.length by omega), Option.map_some] at q2
    by_cases hab : a.asks[i] = b.asks[i]
    · repeat' (first
        | ((with_reducible apply evs_of); (focus ((conv => lhs; simp (disch := omega) [e2, e3, ei, p1, p2, q1, q2, hab, laa]); done)); try dsimp only)
        | ((with_reducible apply cndW_T); (focus (simp (disch := omega) [e2, e3, ei, p1, p2, q1, q2, hab, laa] <;> omega)))
        | ((with_reducible apply cndW_F); (focus (simp (disch := omega) [e2, e3, ei, p1, p2, q1, q2, hab, laa] <;> omega)))
        | ((with_reducible apply stabP_i); (focus (simp (disch := omega) [e2, e3, ei, p1, p2, q1, q2, hab, laa]; done)))
        | (with_reducible apply bothP_i)
        | (with_reducible apply wL_i)
        | ((with_reducible apply stabA_i); (focus ((conv => lhs; simp (disch := omega) [e2, e3, ei, p1, p2, q1, q2, hab, laa]); done)))
        | ((with_reducible apply stabA_fn); (focus ((conv => lhs; simp (disch := omega) [e2, e3, ei, p1, p2, q1, q2, hab, laa]); done)))
        | ((with_reducible apply stab_do); (focus (simp (disch := omega) [e2, e3, ei, p1, p2, q1, q2, hab, laa]; done)))
        | (simp (decide := true) only [sn9, sqW_nrm, sqW_exit, sqW_ret, inBlk_nrm, inBlk_ret, inBlk_same, inBlk_exit, if_true, if_false, retW_nrm, retW_ret])
        | (with_reducible refine n9_18_w _ _ _ ?_)
        | (with_reducible refine n9_36_w _ _ _ ?_)
        | (with_reducible refine n9_54_w _ _ _ ?_)
        | (with_reducible refine n9_71_w _ _ _ ?_))
      all_goals
        refine .inl ⟨by simp, _, _, rfl, by simp [e2], by simp [e3], by simp, fun j hj' => ?_⟩
        by_cases hji : j = i
        · subst hji
          rw [List.getElem?_eq_getElem hi, List.getElem?_eq_getElem (by omega), hab]
        · exact hj j (by omega)
    · repeat' (first
        | ((with_reducible apply evs_of); (focus ((conv => lhs; simp (disch := omega) [e2, e3, ei, p1, p2, q1, q2, hab, laa]); done)); try dsimp only)
        | ((with_reducible apply cndW_T); (focus (simp (disch := omega) [e2, e3, ei, p1, p2, q1, q2, hab, laa] <;> omega)))
        | ((with_reducible apply cndW_F); (focus (simp (disch := omega) [e2, e3, ei, p1, p2, q1, q2, hab, laa] <;> omega)))
        | ((with_reducible apply stabP_i); (focus (simp (disch := omega) [e2, e3, ei, p1, p2, q1, q2, hab, laa]; done)))
        | (with_reducible apply bothP_i)
        | (with_reducible apply wL_i)
        | ((with_reducible apply stabA_i); (focus ((conv => lhs; simp (disch := omega) [e2, e3, ei, p1, p2, q1, q2, hab, laa]); done)))
        | ((with_reducible apply stabA_fn); (focus ((conv => lhs; simp (disch := omega) [e2, e3, ei, p1, p2, q1, q2, hab, laa]); done)))
        | ((with_reducible apply stab_do); (focus (simp (disch := omega) [e2, e3, ei, p1, p2, q1, q2, hab, laa]; done)))
        | (simp (decide := true) only [sn9, sqW_nrm, sqW_exit, sqW_ret, inBlk_nrm, inBlk_ret, inBlk_same, inBlk_exit, if_true, if_false, retW_nrm, retW_ret])
        | (with_reducible refine n9_18_w _ _ _ ?_)
        | (with_reducible refine n9_36_w _ _ _ ?_)
        | (with_reducible refine n9_54_w _ _ _ ?_)
        | (with_reducible refine n9_71_w _ _ _ ?_))
      all_goals
        refine .inr ⟨by simp, ?_⟩
        repeat' (first
          | ((with_reducible apply evs_of); (focus ((conv => lhs; simp (disch := omega) [e2, e3, ei]); done)); try dsimp only)
          | ((with_reducible apply cndW_T); (focus (simp (disch := omega) [e2, e3, ei] <;> omega)))
          | ((with_reducible apply cndW_F); (focus (simp (disch := omega) [e2, e3, ei] <;> omega)))
          | ((with_reducible apply stabP_i); (focus (simp (disch := omega) [e2, e3, ei]; done)))
          | (with_reducible apply bothP_i)
          | (with_reducible apply wL_i)
          | ((with_reducible apply stabA_i); (focus ((conv => lhs; simp (disch := omega) [e2, e3, ei]); done)))
          | ((with_reducible apply stabA_fn); (focus ((conv => lhs; simp (disch := omega) [e2, e3, ei]); done)))
          | ((with_reducible apply stab_do); (focus (simp (disch := omega) [e2, e3, ei]; done)))
          | (simp (decide := true) only [sn9, sqW_nrm, sqW_exit, sqW_ret, inBlk_nrm, inBlk_ret, inBlk_same, inBlk_exit, if_true, if_false, retW_nrm, retW_ret])
          | (with_reducible refine n9_18_w _ _ _ ?_)
          | (with_reducible refine n9_36_w _ _ _ ?_)
          | (with_reducible refine n9_54_w _ _ _ ?_)
          | (with_reducible refine n9_71_w _ _ _ ?_))
        refine fin_b (decide_eq_false ?_).symm
        rintro rfl
        exact hab rfl
  rintro st ⟨env', t, rfl, e2, e3, ei, hj⟩
  repeat' (first
    | ((with_reducible apply evs_of); (focus ((conv => lhs; simp (disch := omega) [e2, e3, ei, laa]); done)); try dsimp only)
    | ((with_reducible apply cndW_T); (focus (simp (disch := omega) [e2, e3, ei, laa] <;> omega)))
    | ((with_reducible apply cndW_F); (focus (simp (disch := omega) [e2, e3, ei, laa] <;> omega)))
    | ((with_reducible apply stabP_i); (focus (simp (disch := omega) [e2, e3, ei, laa]; done)))
    | (with_reducible apply bothP_i)
    | (with_reducible apply wL_i)
    | ((with_reducible apply stabA_i); (focus ((conv => lhs; simp (disch := omega) [e2, e3, ei, laa]); done)))
    | ((with_reducible apply stabA_fn); (focus ((conv => lhs; simp (disch := omega) [e2, e3, ei, laa]); done)))
    | ((with_reducible apply stab_do); (focus (simp (disch := omega) [e2, e3, ei, laa]; done)))
    | (simp (decide := true) only [sn9, sqW_nrm, sqW_exit, sqW_ret, inBlk_nrm, inBlk_ret, inBlk_same, inBlk_exit, if_true, if_false, retW_nrm, retW_ret])
    | (with_reducible refine n9_18_w _ _ _ ?_)
    | (with_reducible refine n9_36_w _ _ _ ?_)
    | (with_reducible refine n9_54_w _ _ _ ?_)
    | (with_reducible refine n9_71_w _ _ _ ?_))
  refine ⟨by simp, ?_⟩
  repeat' (first
    | ((with_reducible apply evs_of); (focus ((conv => lhs; simp (disch := omega) [e2, e3, ei, laa]); done)); try dsimp only)
    | ((with_reducible apply cndW_T); (focus (simp (disch := omega) [e2, e3, ei, laa] <;> omega)))
    | ((with_reducible apply cndW_F); (focus (simp (disch := omega) [e2, e3, ei, laa] <;> omega)))
    | ((with_reducible apply stabP_i); (focus (simp (disch := omega) [e2, e3, ei, laa]; done)))
    | (with_reducible apply bothP_i)
    | (with_reducible apply wL_i)
    | ((with_reducible apply stabA_i); (focus ((conv => lhs; simp (disch := omega) [e2, e3, ei, laa]); done)))
    | ((with_reducible apply stabA_fn); (focus ((conv => lhs; simp (disch := omega) [e2, e3, ei, laa]); done)))
    | ((with_reducible apply stab_do); (focus (simp (disch := omega) [e2, e3, ei, laa]; done)))
    | (simp (decide := true) only [sn9, sqW_nrm, sqW_exit, sqW_ret, inBlk_nrm, inBlk_ret, inBlk_same, inBlk_exit, if_true, if_false, retW_nrm, retW_ret])
    | (with_reducible refine n9_18_w _ _ _ ?_)
    | (with_reducible refine n9_36_w _ _ _ ?_)
    | (with_reducible refine n9_54_w _ _ _ ?_)
    | (with_reducible refine n9_71_w _ _ _ ?_))
  have w_asks : a.asks = b.asks := List.ext_getElem? fun j => by
    by_cases hj' : j < a.asks.length
    · exact hj j hj'
    · rw [List.getElem?_eq_none (by omega), List.getElem?_eq_none (by omega)]
  clear hj
  -- bans
  refine loop_up a.bans.length (fun i st => ∃ env' t, st = ⟨env', h ++ (⟨eSt a at_ ap as_ ai aa ab, 0, .own⟩ :: ⟨eSt b bt bp bs bi ba bb, 0, .own⟩ :: t)⟩ ∧ env'.get 2 = .ptr h.length 0 [] tState ∧ env'.get 3 = .ptr (h.length + 1) 0 [] tState ∧ env'.get 12 = nat i ∧ ∀ j, j < i → a.bans[j]? = b.bans[j]?) ?_ ?_ ⟨_, _, rfl, by simp [*], by simp [*], by simp, fun j hj => absurd hj (by omega)⟩
  · rintro i st hi ⟨env', t, rfl, e2, e3, ei, hj⟩
    obtain ⟨p, p1, p2⟩ := ra.fb.idx (i := i) (by simpa using hi)
    obtain ⟨q, q1, q2⟩ := rb.fb.idx (i := i) (by simpa [← hb] using hi)
    simp only [List.getElem?_map, List.getElem?_eq_getElem hi, Option.map_some] at p2
    simp only [List.getElem?_map, List.getElem?_eq_getElem (show i < b.bans.length by omega), Option.map_some] at q2
    by_cases hab : a.bans[i] = b.bans[i]
    · repeat' (first
        | ((with_reducible apply evs_of); (focus ((conv => lhs; simp (disch := omega) [e2, e3, ei, p1, p2, q1, q2, hab, lab]); done)); try dsimp only)
        | ((with_reducible apply cndW_T); (focus (simp (disch := omega) [e2, e3, ei, p1, p2, q1, q2, hab, lab] <;> omega)))
        | ((with_reducible apply cndW_F); (focus (simp (disch := omega) [e2, e3, ei, p1, p2, q1, q2, hab, lab] <;> omega)))
        | ((with_reducible apply stabP_i); (focus (simp (disch := omega) [e2, e3, ei, p1, p2, q1, q2, hab, lab]; done)))
        | (with_reducible apply bothP_i)
        | (with_reducible apply wL_i)
        | ((with_reducible apply stabA_i); (focus ((conv => lhs; simp (disch := omega) [e2, e3, ei, p1, p2, q1, q2, hab, lab]); done)))
        | ((with_reducible apply stabA_fn); (focus ((conv => lhs; simp (disch := omega) [e2, e3, ei, p1, p2, q1, q2, hab, lab]); done)))
        | ((with_reducible apply stab_do); (focus (simp (disch := omega) [e2, e3, ei, p1, p2, q1, q2, hab, lab]; done)))
        | (simp (decide := true) only [sn9, sqW_nrm, sqW_exit, sqW_ret, inBlk_nrm, inBlk_ret, inBlk_same, inBlk_exit, if_true, if_false, retW_nrm, retW_ret])
        | (with_reducible refine n9_18_w _ _ _ ?_)
        | (with_reducible refine n9_36_w _ _ _ ?_)
        | (with_reducible refine n9_54_w _ _ _ ?_)
        | (with_reducible refine n9_71_w _ _ _ ?_))
      all_goals
        refine .inl ⟨by simp, _, _, rfl, by simp [e2], by simp [e3], by simp, fun j hj' => ?_⟩
        by_cases hji : j = i
        · subst hji
          rw [List.getElem?_eq_getElem hi, List.getElem?_eq_getElem (by omega), hab]
        · exact hj j (by omega)
    · repeat' (first
        | ((with_reducible apply evs_of); (focus ((conv => lhs; simp (disch := omega) [e2, e3, ei, p1, p2, q1, q2, hab, lab]); done)); try dsimp only)
        | ((with_reducible apply cndW_T); (focus (simp (disch := omega) [e2, e3, ei, p1, p2, q1, q2, hab, lab] <;> omega)))
        | ((with_reducible apply cndW_F); (focus (simp (disch := omega) [e2, e3, ei, p1, p2, q1, q2, hab, lab] <;> omega)))
        | ((with_reducible apply stabP_i); (focus (simp (disch := omega) [e2, e3, ei, p1, p2, q1, q2, hab, lab]; done)))
        | (with_reducible apply bothP_i)
        | (with_reducible apply wL_i)
        | ((with_reducible apply stabA_i); (focus ((conv => lhs; simp (disch := omega) [e2, e3, ei, p1, p2, q1, q2, hab, lab]); done)))
        | ((with_reducible apply stabA_fn); (focus ((conv => lhs; simp (disch := omega) [e2, e3, ei, p1, p2, q1, q2, hab, lab]); done)))
        | ((with_reducible apply stab_do); (focus (simp (disch := omega) [e2, e3, ei, p1, p2, q1, q2, hab, lab]; done)))
        | (simp (decide := true) only [sn9, sqW_nrm, sqW_exit, sqW_ret, inBlk_nrm, inBlk_ret, inBlk_same, inBlk_exit, if_true, if_false, retW_nrm, retW_ret])
        | (with_reducible refine n9_18_w _ _ _ ?_)
        | (with_reducible refine n9_36_w _ _ _ ?_)
        | (with_reducible refine n9_54_w _ _ _ ?_)
        | (with_reducible refine n9_71_w _ _ _ ?_))
      all_goals
        refine .inr ⟨by simp, ?_⟩
        repeat' (first
          | ((with_reducible apply evs_of); (focus ((conv => lhs; simp (disch := omega) [e2, e3, ei]); done)); try dsimp only)
          | ((with_reducible apply cndW_T); (focus (simp (disch := omega) [e2, e3, ei] <;> omega)))
          | ((with_reducible apply cndW_F); (focus (simp (disch := omega) [e2, e3, ei] <;> omega)))
          | ((with_reducible apply stabP_i); (focus (simp (disch := omega) [e2, e3, ei]; done)))
          | (with_reducible apply bothP_i)
          | (with_reducible apply wL_i)
          | ((with_reducible apply stabA_i); (focus ((conv => lhs; simp (disch := omega) [e2, e3, ei]); done)))
          | ((with_reducible apply stabA_fn); (focus ((conv => lhs; simp (disch := omega) [e2, e3, ei]); done)))
          | ((with_reducible apply stab_do); (focus (simp (disch := omega) [e2, e3, ei]; done)))
          | (simp (decide := true) only [sn9, sqW_nrm, sqW_exit, sqW_ret, inBlk_nrm, inBlk_ret, inBlk_same, inBlk_exit, if_true, if_false, retW_nrm, retW_ret])
          | (with_reducible refine n9_18_w _ _ _ ?_)
          | (with_reducible refine n9_36_w _ _ _ ?_)
          | (with_reducible refine n9_54_w _ _ _ ?_)
          | (with_reducible refine n9_71_w _ _ _ ?_))
        refine fin_b (decide_eq_false ?_).symm
        rintro rfl
        exact hab rfl
  rintro st ⟨env', t, rfl, e2, e3, ei, hj⟩
  repeat' (first
    | ((with_reducible apply evs_of); (focus ((conv => lhs; simp (disch := omega) [e2, e3, ei, lab]); done)); try dsimp only)
    | ((with_reducible apply cndW_T); (focus (simp (disch := omega) [e2, e3, ei, lab] <;> omega)))
    | ((with_reducible apply cndW_F); (focus (simp (disch := omega) [e2, e3, ei, lab] <;> omega)))
    | ((with_reducible apply stabP_i); (focus (simp (disch := omega) [e2, e3, ei, lab]; done)))
    | (with_reducible apply bothP_i)
    | (with_reducible apply wL_i)
    | ((with_reducible apply stabA_i); (focus ((conv => lhs; simp (disch := omega) [e2, e3, ei, lab]); done)))
    | ((with_reducible apply stabA_fn); (focus ((conv => lhs; simp (disch := omega) [e2, e3, ei, lab]); done)))
    | ((with_reducible apply stab_do); (focus (simp (disch := omega) [e2, e3, ei, lab]; done)))
    | (simp (decide := true) only [sn9, sqW_nrm, sqW_exit, sqW_ret, inBlk_nrm, inBlk_ret, inBlk_same, inBlk_exit, if_true, if_false, retW_nrm, retW_ret])
    | (with_reducible refine n9_18_w _ _ _ ?_)
    | (with_reducible refine n9_36_w _ _ _ ?_)
    | (with_reducible refine n9_54_w _ _ _ ?_)
    | (with_reducible refine n9_71_w _ _ _ ?_))
  refine ⟨by simp, ?_⟩
  repeat' (first
    | ((with_reducible apply evs_of); (focus ((conv => lhs; simp (disch := omega) [e2, e3, ei, lab]); done)); try dsimp only)
    | ((with_reducible apply cndW_T); (focus (simp (disch := omega) [e2, e3, ei, lab] <;> omega)))
    | ((with_reducible apply cndW_F); (focus (simp (disch := omega) [e2, e3, ei, lab] <;> omega)))
    | ((with_reducible apply stabP_i); (focus (simp (disch := omega) [e2, e3, ei, lab]; done)))
    | (with_reducible apply bothP_i)
    | (with_reducible apply wL_i)
    | ((with_reducible apply stabA_i); (focus ((conv => lhs; simp (disch := omega) [e2, e3, ei, lab]); done)))
    | ((with_reducible apply stabA_fn); (focus ((conv => lhs; simp (disch := omega) [e2, e3, ei, lab]); done)))
    | ((with_reducible apply stab_do); (focus (simp (disch := omega) [e2, e3, ei, lab]; done)))
    | (simp (decide := true) only [sn9, sqW_nrm, sqW_exit, sqW_ret, inBlk_nrm, inBlk_ret, inBlk_same, inBlk_exit, if_true, if_false, retW_nrm, retW_ret])
    | (with_reducible refine n9_18_w _ _ _ ?_)
    | (with_reducible refine n9_36_w _ _ _ ?_)
    | (with_reducible refine n9_54_w _ _ _ ?_)
    | (with_reducible refine n9_71_w _ _ _ ?_))
  have w_bans : a.bans = b.bans := List.ext_getElem? fun j => by
    by_cases hj' : j < a.bans.length
    · exact hj j hj'
    · rw [List.getElem?_eq_none (by omega), List.getElem?_eq_none (by omega)]
  clear hj
  refine fin_b (decide_eq_true ?_).symm
  cases a
  cases b
  simp_all

end Go.Vab

/- How the code of a function is read. Printed by wip/tools/gen2.py (own work). -/
namespace Go.Vab
open Go Go.Proofs
/-! vestry/forms.SameReply -/
def cx17 : Ctx := ⟨fun _ _ _ => none, TT, 49, [5, 6, 7, 8, 9, 10, 11, 12, 13, 14, 15, 16, 17, 18, 19, 20, 21, 22, 23, 24, 25, 26, 27, 28, 29, 30, 31, 32, 33, 34, 35, 36, 37, 38, 39, 40, 41, 42, 43, 44, 45, 46, 47, 48]⟩
noncomputable def n17_0 : Code := bodyOf Try.f17
noncomputable def n17_1 : Code := cR n17_0
noncomputable def n17_2 : Code := cR n17_1
theorem n17_2_eq (Q : Ex × St → Prop) (s : St) : wC Try.prog cx17 n17_2 Q s = Q (.ret, s) := yE
theorem n17_1_eq (Q : Ex × St → Prop) (env : Env) (h : Heap) : wC Try.prog cx17 n17_1 Q ⟨env, h⟩ = (Evs (mFieldAddr tReply (env.get 2) 0) fun v0 => Evs (mLoad (.int .i64) v0 h) fun v1 => Evs (mFieldAddr tReply (env.get 3) 0) fun v2 => Evs (mLoad (.int .i64) v2 h) fun v3 => Evs (mBin .eql v1 v3) fun v4 => Evs (gv v4 true (mFieldAddr tReply (env.get 2) 1)) fun v6 => Evs (gv v4 true (mLoad (.int .u8) v6 h)) fun v7 => Evs (gv v4 true (mFieldAddr tReply (env.get 3) 1)) fun v8 => Evs (gv v4 true (mLoad (.int .u8) v8 h)) fun v9 => Evs (gv v4 true (mBin .eql v7 v9)) fun v10 => Evs (mPick v4 v10 (.bool false)) fun v11 => Evs (gv v11 true (mFieldAddr tReply (env.get 2) 2)) fun v13 => Evs (gv v11 true (mLoad tState v13 h)) fun v14 => Evs (gv v11 true (mFieldAddr tReply (env.get 3) 2)) fun v15 => Evs (gv v11 true (mLoad tState v15 h)) fun v16 => gW v11 true (SpecA Try.prog 8 [v14, v16] h) h fun r17 => Evs (mPick v11 r17.1 (.bool false)) fun v18 => Evs (gv v18 true (mFieldAddr tReply (env.get 2) 3)) fun v20 => Evs (gv v18 true (mLoad .cell v20 r17.2)) fun v21 => Evs (gv v18 true (mFieldAddr tReply (env.get 3) 3)) fun v22 => Evs (gv v18 true (mLoad .cell v22 r17.2)) fun v23 => gW v18 true (SpecA Try.prog 31 [v21, v23, (.fn 32 [])] r17.2) r17.2 fun r24 => Evs (mPick v18 r24.1 (.bool false)) fun v25 => Evs (gv v25 true (mFieldAddr tReply (env.get 2) 4)) fun v27 => Evs (gv v25 true (mFieldAddr tGrant v27 0)) fun v28 => Evs (gv v25 true (mLoad tToken v28 r24.2)) fun v29 => Evs (gv v25 true (mFieldAddr tReply (env.get 3) 4)) fun v30 => Evs (gv v25 true (mFieldAddr tGrant v30 0)) fun v31 => Evs (gv v25 true (mLoad tToken v31 r24.2)) fun v32 => Evs (gv v25 true (mEq tToken .eql v29 v32)) fun v33 => Evs (mPick v25 v33 (.bool false)) fun v34 => Evs (gv v34 true (mFieldAddr tReply (env.get 2) 4)) fun v36 => Evs (gv v34 true (mFieldAddr tGrant v36 1)) fun v37 => Evs (gv v34 true (mLoad tProof v37 r24.2)) fun v38 => Evs (gv v34 true (mFieldAddr tReply (env.get 3) 4)) fun v39 => Evs (gv v34 true (mFieldAddr tGrant v39 1)) fun v40 => Evs (gv v34 true (mLoad tProof v40 r24.2)) fun v41 => gW v34 true (SpecA Try.prog 28 [v38, v41] r24.2) r24.2 fun r42 => Evs (mPick v34 r42.1 (.bool false)) fun v43 => wC Try.prog cx17 n17_2 Q ⟨(Env.put env 4 v43), r42.2⟩) := (ySR 1 (cOps (cL n17_1)) (cR n17_1)).trans (by
  refine w0 ?_
  refine wP 5 fun v0 => ?_
  refine wP 6 fun v1 => ?_
  refine wP 7 fun v2 => ?_
  refine wP 8 fun v3 => ?_
  refine wP 9 fun v4 => ?_
  refine wT 10 v4 ?_
  refine wG 11 fun v6 => ?_
  refine wG 12 fun v7 => ?_
  refine wG 13 fun v8 => ?_
  refine wG 14 fun v9 => ?_
  refine wG 15 fun v10 => ?_
  refine wP 16 fun v11 => ?_
  refine wT 17 v11 ?_
  refine wG 18 fun v13 => ?_
  refine wG 19 fun v14 => ?_
  refine wG 20 fun v15 => ?_
  refine wG 21 fun v16 => ?_
  refine wH 22 fun r17 => ?_
  refine wP 23 fun v18 => ?_
  refine wT 24 v18 ?_
  refine wG 25 fun v20 => ?_
  refine wG 26 fun v21 => ?_
  refine wG 27 fun v22 => ?_
  refine wG 28 fun v23 => ?_
  refine wH 29 fun r24 => ?_
  refine wP 30 fun v25 => ?_
  refine wT 31 v25 ?_
  refine wG 32 fun v27 => ?_
  refine wG 33 fun v28 => ?_
  refine wG 34 fun v29 => ?_
  refine wG 35 fun v30 => ?_
  refine wG 36 fun v31 => ?_
  refine wG 37 fun v32 => ?_
  refine wG 38 fun v33 => ?_
  refine wP 39 fun v34 => ?_
  refine wT 40 v34 ?_
  refine wG 41 fun v36 => ?_
  refine wG 42 fun v37 => ?_
  refine wG 43 fun v38 => ?_
  refine wG 44 fun v39 => ?_
  refine wG 45 fun v40 => ?_
  refine wG 46 fun v41 => ?_
  refine wH 47 fun r42 => ?_
  refine wP 48 fun v43 => ?_
  refine wT 4 v43 ?_
  exact wE)
theorem n17_0_eq (Q : Ex × St → Prop) (env : Env) (h : Heap) : wC Try.prog cx17 n17_0 Q ⟨env, h⟩ = (Evs (mNew tReply (env.get 0) h) fun r0 => Evs (mNew tReply (env.get 1) r0.2) fun r1 => wC Try.prog cx17 n17_1 Q ⟨(Env.put (Env.put (Env.put env 2 r0.1) 3 r1.1) 4 (.bool false)), r1.2⟩) := (ySR 0 (cOps (cL n17_0)) (cR n17_0)).trans (by
  refine w0 ?_
  refine wH 2 fun r0 => ?_
  refine wH 3 fun r1 => ?_
  refine wT 4 (.bool false) ?_
  exact wE)
theorem fn17 : Try.prog.funcs[17]? = some Try.f17 := by kernel_rfl
theorem q17 {a0 a1 : AV} {h : Heap} {K : AV × Heap → Prop} (H : ∀ env : Env, env.get 0 = a0 → env.get 1 = a1 → wC Try.prog cx17 n17_0 (retW (fun s => (bnd (some (s.env.get 4)) fun v => bnd (some []) fun vs => some (v :: vs))) K) ⟨env, h⟩) : SpecQ Try.prog 17 [a0, a1] h K :=
  bodyW_sound (C := cx17) TT_ok mixed_ok fn17 (by kernel_rfl) (show _ = some n17_0 by kernel_rfl) (by kernel_rfl) (by kernel_rfl) (of_decide_eq_true (by kernel_rfl)) ((show wC Try.prog cx17 n17_0 (retW (fun s => resAll cx17 s Try.f17.results.toList) K) ⟨env0 cx17 [a0, a1], h⟩ = wC Try.prog cx17 n17_0 (retW (fun s => (bnd (some (s.env.get 4)) fun v => bnd (some []) fun vs => some (v :: vs))) K) ⟨[(0, a0), (1, a1), (2, .junk), (3, .junk), (4, .junk)], h⟩ by kernel_rfl).mpr (H [(0, a0), (1, a1), (2, .junk), (3, .junk), (4, .junk)] rfl rfl))
def sn17 := And.intro n17_2_eq (And.intro n17_1_eq (n17_0_eq))
-- draws: 
end Go.Vab

/- How the code of a function is read. Printed by wip/tools/gen2.py (own work). -/
namespace Go.Vab
open Go Go.Proofs
/-! vestry/vestryref18.SameReply -/
def cx18 : Ctx := ⟨fun _ _ _ => none, TT, 49, [5, 6, 7, 8, 9, 10, 11, 12, 13, 14, 15, 16, 17, 18, 19, 20, 21, 22, 23, 24, 25, 26, 27, 28, 29, 30, 31, 32, 33, 34, 35, 36, 37, 38, 39, 40, 41, 42, 43, 44, 45, 46, 47, 48]⟩
noncomputable def n18_0 : Code := bodyOf Try.f18
noncomputable def n18_1 : Code := cR n18_0
noncomputable def n18_2 : Code := cR n18_1
theorem n18_2_eq (Q : Ex × St → Prop) (s : St) : wC Try.prog cx18 n18_2 Q s = Q (.ret, s) := yE
theorem n18_1_eq (Q : Ex × St → Prop) (env : Env) (h : Heap) : wC Try.prog cx18 n18_1 Q ⟨env, h⟩ = (Evs (mFieldAddr tReply (env.get 2) 0) fun v0 => Evs (mLoad (.int .i64) v0 h) fun v1 => Evs (mFieldAddr tReply (env.get 3) 0) fun v2 => Evs (mLoad (.int .i64) v2 h) fun v3 => Evs (mBin .eql v1 v3) fun v4 => Evs (gv v4 true (mFieldAddr tReply (env.get 2) 1)) fun v6 => Evs (gv v4 true (mLoad (.int .u8) v6 h)) fun v7 => Evs (gv v4 true (mFieldAddr tReply (env.get 3) 1)) fun v8 => Evs (gv v4 true (mLoad (.int .u8) v8 h)) fun v9 => Evs (gv v4 true (mBin .eql v7 v9)) fun v10 => Evs (mPick v4 v10 (.bool false)) fun v11 => Evs (gv v11 true (mFieldAddr tReply (env.get 2) 2)) fun v13 => Evs (gv v11 true (mLoad tState v13 h)) fun v14 => Evs (gv v11 true (mFieldAddr tReply (env.get 3) 2)) fun v15 => Evs (gv v11 true (mLoad tState v15 h)) fun v16 => gW v11 true (SpecA Try.prog 9 [v14, v16] h) h fun r17 => Evs (mPick v11 r17.1 (.bool false)) fun v18 => Evs (gv v18 true (mFieldAddr tReply (env.get 2) 3)) fun v20 => Evs (gv v18 true (mLoad .cell v20 r17.2)) fun v21 => Evs (gv v18 true (mFieldAddr tReply (env.get 3) 3)) fun v22 => Evs (gv v18 true (mLoad .cell v22 r17.2)) fun v23 => gW v18 true (SpecA Try.prog 33 [v21, v23] r17.2) r17.2 fun r24 => Evs (mPick v18 r24.1 (.bool false)) fun v25 => Evs (gv v25 true (mFieldAddr tReply (env.get 2) 4)) fun v27 => Evs (gv v25 true (mFieldAddr tGrant v27 0)) fun v28 => Evs (gv v25 true (mLoad tToken v28 r24.2)) fun v29 => Evs (gv v25 true (mFieldAddr tReply (env.get 3) 4)) fun v30 => Evs (gv v25 true (mFieldAddr tGrant v30 0)) fun v31 => Evs (gv v25 true (mLoad tToken v31 r24.2)) fun v32 => Evs (gv v25 true (mEq tToken .eql v29 v32)) fun v33 => Evs (mPick v25 v33 (.bool false)) fun v34 => Evs (gv v34 true (mFieldAddr tReply (env.get 2) 4)) fun v36 => Evs (gv v34 true (mFieldAddr tGrant v36 1)) fun v37 => Evs (gv v34 true (mLoad tProof v37 r24.2)) fun v38 => Evs (gv v34 true (mFieldAddr tReply (env.get 3) 4)) fun v39 => Evs (gv v34 true (mFieldAddr tGrant v39 1)) fun v40 => Evs (gv v34 true (mLoad tProof v40 r24.2)) fun v41 => gW v34 true (SpecA Try.prog 34 [v38, v41] r24.2) r24.2 fun r42 => Evs (mPick v34 r42.1 (.bool false)) fun v43 => wC Try.prog cx18 n18_2 Q ⟨(Env.put env 4 v43), r42.2⟩) := (ySR 1 (cOps (cL n18_1)) (cR n18_1)).trans (by
  refine w0 ?_
  refine wP 5 fun v0 => ?_
  refine wP 6 fun v1 => ?_
  refine wP 7 fun v2 => ?_
  refine wP 8 fun v3 => ?_
  refine wP 9 fun v4 => ?_
  refine wT 10 v4 ?_
  refine wG 11 fun v6 => ?_
  refine wG 12 fun v7 => ?_
  refine wG 13 fun v8 => ?_
  refine wG 14 fun v9 => ?_
  refine wG 15 fun v10 => ?_
  refine wP 16 fun v11 => ?_
  refine wT 17 v11 ?_
  refine wG 18 fun v13 => ?_
  refine wG 19 fun v14 => ?_
  refine wG 20 fun v15 => ?_
  refine wG 21 fun v16 => ?_
  refine wH 22 fun r17 => ?_
  refine wP 23 fun v18 => ?_
  refine wT 24 v18 ?_
  refine wG 25 fun v20 => ?_
  refine wG 26 fun v21 => ?_
  refine wG 27 fun v22 => ?_
  refine wG 28 fun v23 => ?_
  refine wH 29 fun r24 => ?_
  refine wP 30 fun v25 => ?_
  refine wT 31 v25 ?_
  refine wG 32 fun v27 => ?_
  refine wG 33 fun v28 => ?_
  refine wG 34 fun v29 => ?_
  refine wG 35 fun v30 => ?_
  refine wG 36 fun v31 => ?_
  refine wG 37 fun v32 => ?_
  refine wG 38 fun v33 => ?_
  refine wP 39 fun v34 => ?_
  refine wT 40 v34 ?_
  refine wG 41 fun v36 => ?_
  refine wG 42 fun v37 => ?_
  refine wG 43 fun v38 => ?_
  refine wG 44 fun v39 => ?_
  refine wG 45 fun v40 => ?_
  refine wG 46 fun v41 => ?_
  refine wH 47 fun r42 => ?_
  refine wP 48 fun v43 => ?_
  refine wT 4 v43 ?_
  exact wE)
theorem n18_0_eq (Q : Ex × St → Prop) (env : Env) (h : Heap) : wC Try.prog cx18 n18_0 Q ⟨env, h⟩ = (Evs (mNew tReply (env.get 0) h) fun r0 => Evs (mNew tReply (env.get 1) r0.2) fun r1 => wC Try.prog cx18 n18_1 Q ⟨(Env.put (Env.put (Env.put env 2 r0.1) 3 r1.1) 4 (.bool false)), r1.2⟩) := (ySR 0 (cOps (cL n18_0)) (cR n18_0)).trans (by
  refine w0 ?_
  refine wH 2 fun r0 => ?_
  refine wH 3 fun r1 => ?_
  refine wT 4 (.bool false) ?_
  exact wE)
theorem fn18 : Try.prog.funcs[18]? = some Try.f18 := by kernel_rfl
theorem q18 {a0 a1 : AV} {h : Heap} {K : AV × Heap → Prop} (H : ∀ env : Env, env.get 0 = a0 → env.get 1 = a1 → wC Try.prog cx18 n18_0 (retW (fun s => (bnd (some (s.env.get 4)) fun v => bnd (some []) fun vs => some (v :: vs))) K) ⟨env, h⟩) : SpecQ Try.prog 18 [a0, a1] h K :=
  bodyW_sound (C := cx18) TT_ok mixed_ok fn18 (by kernel_rfl) (show _ = some n18_0 by kernel_rfl) (by kernel_rfl) (by kernel_rfl) (of_decide_eq_true (by kernel_rfl)) ((show wC Try.prog cx18 n18_0 (retW (fun s => resAll cx18 s Try.f18.results.toList) K) ⟨env0 cx18 [a0, a1], h⟩ = wC Try.prog cx18 n18_0 (retW (fun s => (bnd (some (s.env.get 4)) fun v => bnd (some []) fun vs => some (v :: vs))) K) ⟨[(0, a0), (1, a1), (2, .junk), (3, .junk), (4, .junk)], h⟩ by kernel_rfl).mpr (H [(0, a0), (1, a1), (2, .junk), (3, .junk), (4, .junk)] rfl rfl))
def sn18 := And.intro n18_2_eq (And.intro n18_1_eq (n18_0_eq))
-- draws: 
end Go.Vab

/-
  Replies alike, walked.
-/
namespace Go.Vab
open Go Go.Proofs

set_option maxRecDepth 20000 in
theorem c17 {h : Heap} {a b : Rep} {vt vp vs vi va vb vd sg wt wp_ ws wi wa wb wd ug : AV} (ra : RepR h a vt vp vs vi va vb vd sg) (rb : RepR h b wt wp_ ws wi wa wb wd ug) :
    SpecQ Try.prog 17 [eRep a vt vp vs vi va vb vd sg, eRep b wt wp_ ws wi wa wb wd ug] h fun r => r = (.bool (decide (a = b)), h) := by
  have ta := ra.cells
  have tb := rb.cells
  refine SpecQ.drop1 rfl (q17 fun env g0 g1 => ?_)
  repeat' (first
    | ((with_reducible apply evs_of); (focus ((conv => lhs; simp (disch := omega) [g0, g1, ta, tb]); done)); try dsimp only)
    | ((with_reducible apply gW_do); (focus (simp (disch := omega) [g0, g1, ta, tb]; done)))
    | ((with_reducible apply gW_no); (focus (simp (disch := omega) [g0, g1, ta, tb]; done)); try dsimp only)
    | ((with_reducible apply gW_un); (focus (simp (disch := omega) [g0, g1, ta, tb]; done)); try dsimp only)
    | (with_reducible refine SpecQ.step (c8 (ra.s.app _) (rb.s.app _)) ?_; rintro _ rfl; try dsimp only)
    | (with_reducible refine SpecQ.step (c31 (ra.d.app _) (rb.d.app _)) ?_; rintro _ rfl; try dsimp only)
    | (with_reducible refine SpecQ.step (c28 (ra.g.app _) (rb.g.app _)) ?_; rintro _ rfl; try dsimp only)
    | ((with_reducible apply SpecA_i); (focus ((conv => lhs; simp (disch := omega) [g0, g1, ta, tb]); done)))
    | (simp (decide := true) only [sn17, sqW_nrm, sqW_exit, sqW_ret, inBlk_nrm, inBlk_ret, inBlk_same, inBlk_exit, if_true, if_false, retW_nrm, retW_ret])
    | (with_reducible refine gv_split ?_ ?_ <;> (intro hb; try simp only [Bool.not_true, Bool.not_false] at hb) <;> try simp only [hb])
    | (with_reducible refine gW_split ?_ ?_ <;> (intro hb; try simp only [Bool.not_true, Bool.not_false] at hb) <;> try simp only [hb]))
  all_goals refine fin_b ?_
  all_goals (clear ra rb ta tb; obtain ⟨a0, a1, a2, a3, a4, a5⟩ := a; obtain ⟨b0, b1, b2, b3, b4, b5⟩ := b; simp_all)

set_option maxRecDepth 20000 in
theorem c18 {h : Heap} {a b : Rep} {vt vp vs vi va vb vd sg wt wp_ ws wi wa wb wd ug : AV} (ra : RepR h a vt vp vs vi va vb vd sg) (rb : RepR h b wt wp_ ws wi wa wb wd ug) :
    SpecQ Try.prog 18 [eRep a vt vp vs vi va vb vd sg, eRep b wt wp_ ws wi wa wb wd ug] h fun r => r = (.bool (decide (a = b)), h) := by
  have ta := ra.cells
  have tb := rb.cells
  refine SpecQ.drop1 rfl (q18 fun env g0 g1 => ?_)
  repeat' (first
    | ((with_reducible apply evs_of); (focus ((conv => lhs; simp (disch := omega) [g0, g1, ta, tb]); done)); try dsimp only)
    | ((with_reducible apply gW_do); (focus (simp (disch := omega) [g0, g1, ta, tb]; done)))
    | ((with_reducible apply gW_no); (focus (simp (disch := omega) [g0, g1, ta, tb]; done)); try dsimp only)
    | ((with_reducible apply gW_un); (focus (simp (disch := omega) [g0, g1, ta, tb]; done)); try dsimp only)
    | (with_reducible refine SpecQ.step (c9 (ra.s.app _) (rb.s.app _)) ?_; rintro _ rfl; try dsimp only)
    | (with_reducible refine SpecQ.step (c33 (ra.d.app _) (rb.d.app _)) ?_; rintro _ rfl; try dsimp only)
    | (with_reducible refine SpecQ.step (c34 (ra.g.app _) (rb.g.app _)) ?_; rintro _ rfl; try dsimp only)
    | ((with_reducible apply SpecA_i); (focus ((conv => lhs; simp (disch := omega) [g0, g1, ta, tb]); done)))
    | (simp (decide := true) only [sn18, sqW_nrm, sqW_exit, sqW_ret, inBlk_nrm, inBlk_ret, inBlk_same, inBlk_exit, if_true, if_false, retW_nrm, retW_ret])
    | (with_reducible refine gv_split ?_ ?_ <;> (intro hb; try simp only [Bool.not_true, Bool.not_false] at hb) <;> try simp only [hb])
    | (with_reducible refine gW_split ?_ ?_ <;> (intro hb; try simp only [Bool.not_true, Bool.not_false] at hb) <;> try simp only [hb]))
  all_goals refine fin_b ?_
  all_goals (clear ra rb ta tb; obtain ⟨a0, a1, a2, a3, a4, a5⟩ := a; obtain ⟨b0, b1, b2, b3, b4, b5⟩ := b; simp_all)

end Go.Vab
