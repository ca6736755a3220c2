/- How the evaluator reads the functions of a seat. Printed by wip/tools/gen.py (own work). -/
import Derived.Test.YtfolmjdaemoojaaV3
import Derived.Test.YtfolmjdaemoojaaV7
set_option linter.all false
set_option linter.unusedSectionVars false
namespace Go.Vab
open Go Go.Proofs
/-! vestry/vestrylaw09.SivPolyval -/
noncomputable def cx12 (call : Calling) : Ctx := ⟨call, TT, 59, [15, 16, 18, 19, 20, 21, 22, 23, 24, 25, 26, 27, 28, 29, 30, 31, 32, 33, 34, 35, 36, 37, 38, 39, 40, 41, 42, 43, 44, 45, 46, 47, 48, 49, 50, 51, 52, 53, 54, 55, 56, 57, 58]⟩
noncomputable def n12_0 : Code := bodyOf Try.f12
noncomputable def n12_1 : Code := cR n12_0
noncomputable def n12_2 : Code := cL n12_1
noncomputable def n12_3 : Code := cR n12_2
noncomputable def n12_4 : Code := cL n12_3
noncomputable def n12_5 : Code := cR n12_4
noncomputable def n12_6 : Code := cR n12_3
noncomputable def n12_7 : Code := cR n12_1
noncomputable def n12_8 : Code := cR n12_7
noncomputable def n12_9 : Code := cR n12_8
noncomputable def n12_10 : Code := cR n12_9
noncomputable def n12_11 : Code := cR n12_10
noncomputable def n12_12 : Code := cR n12_11
@[simp] theorem n12_5_eq (call : Calling) (s : St) : evC (cx12 call) n12_5 s = some (.ret, s) := xE
@[simp] theorem n12_4_eq (call : Calling) (env : Env) (h : Heap) : evC (cx12 call) n12_4 ⟨env, h⟩ = (bnd (call 24 [] h) fun r0 => evC (cx12 call) n12_5 ⟨(Env.put env 8 r0.1), r0.2⟩) := (xSR 2 (cOps (cL n12_4)) (cR n12_4)).trans (by
  refine opsK_0 ?_
  refine oP 18 fun r0 => ?_
  refine oT 8 r0.1 ?_
  exact oE)
@[simp] theorem n12_6_eq (call : Calling) (s : St) : evC (cx12 call) n12_6 s = some (.nrm, s) := xK
@[simp] theorem n12_3_eq (call : Calling) (s : St) : evC (cx12 call) n12_3 s = cnd (s.env.get 17) (evC (cx12 call) n12_4 s) (evC (cx12 call) n12_6 s) := xC 17 _ _
@[simp] theorem n12_2_eq (call : Calling) (env : Env) (h : Heap) : evC (cx12 call) n12_2 ⟨env, h⟩ = (bnd (pureV h (mLenS (env.get 1))) fun r1 => bnd (pureV r1.2 (mBin .gtr r1.1 (nat 300))) fun r2 => evC (cx12 call) n12_3 ⟨(Env.put env 17 r2.1), r2.2⟩) := (xSR 1 (cOps (cL n12_2)) (cR n12_2)).trans (by
  refine opsK_0 ?_
  refine oT 15 (env.get 1) ?_
  refine oP 16 fun r1 => ?_
  refine oP 17 fun r2 => ?_
  exact oE)
@[simp] theorem n12_12_eq (call : Calling) (s : St) : evC (cx12 call) n12_12 s = some (.ret, s) := xE
theorem n12_11_ok : drawOk (cOps (cL n12_11)).toList = true := by kernel_rfl
@[simp] theorem n12_11_eq (call : Calling) (env : Env) (h : Heap) : evC (cx12 call) n12_11 ⟨env, h⟩ = (bnd (still call 28 [(env.get 9), (env.get 1)] h) fun r2 => bnd (gdo r2.1 true (pureV r2.2 (mLoad (.arr 16 (.int .u8)) (env.get 10) r2.2)) r2.2) fun r4 => bnd (gdo r2.1 true (pureV r4.2 (mLoad (.arr 16 (.int .u8)) (env.get 4) r4.2)) r4.2) fun r5 => bnd (gdo r2.1 true (some ((env.get 1), r5.2)) r5.2) fun r6 => bnd (gdo r2.1 true (still call 36 [r5.1, r6.1] r6.2) r6.2) fun r7 => bnd (gdo r2.1 true (pureV r7.2 (mEq (.arr 16 (.int .u8)) .eql r4.1 r7.1)) r7.2) fun r8 => bnd (pureV r8.2 (mPick r2.1 r8.1 (.bool false))) fun r9 => bnd (gdo r9.1 true (pureV r9.2 (mLoad (.arr 16 (.int .u8)) (env.get 11) r9.2)) r9.2) fun r11 => bnd (gdo r9.1 true (pureV r11.2 (mLoad (.arr 16 (.int .u8)) (env.get 13) r11.2)) r11.2) fun r12 => bnd (gdo r9.1 true (pureV r12.2 (mEq (.arr 16 (.int .u8)) .eql r11.1 r12.1)) r12.2) fun r13 => bnd (pureV r13.2 (mPick r9.1 r13.1 (.bool false))) fun r14 => bnd (gdo r14.1 true (pureV r14.2 (mLoad (.arr 32 (.int .u8)) (env.get 12) r14.2)) r14.2) fun r16 => bnd (gdo r14.1 true (pureV r16.2 (mLoad (.arr 32 (.int .u8)) (env.get 14) r16.2)) r16.2) fun r17 => bnd (gdo r14.1 true (pureV r17.2 (mEq (.arr 32 (.int .u8)) .eql r16.1 r17.1)) r17.2) fun r18 => bnd (pureV r18.2 (mPick r14.1 r18.1 (.bool false))) fun r19 => bnd (gdo r19.1 true (still call 24 [] r19.2) r19.2) fun r21 => bnd (pureV r21.2 (mPick r19.1 r21.1 (.bool false))) fun r22 => evC (cx12 call) n12_12 ⟨(Env.put env 8 r22.1), r22.2⟩) := (xSD 7 (cOps (cL n12_11)) (cR n12_11) n12_11_ok).trans (by
  refine opsK_0 ?_
  refine oT 36 (env.get 9) ?_
  refine oT 37 (env.get 1) ?_
  refine oP 38 fun r2 => ?_
  refine oT 39 r2.1 ?_
  refine oP 40 fun r4 => ?_
  refine oP 41 fun r5 => ?_
  refine oP 42 fun r6 => ?_
  refine oP 43 fun r7 => ?_
  refine oP 44 fun r8 => ?_
  refine oP 45 fun r9 => ?_
  refine oT 46 r9.1 ?_
  refine oP 47 fun r11 => ?_
  refine oP 48 fun r12 => ?_
  refine oP 49 fun r13 => ?_
  refine oP 50 fun r14 => ?_
  refine oT 51 r14.1 ?_
  refine oP 52 fun r16 => ?_
  refine oP 53 fun r17 => ?_
  refine oP 54 fun r18 => ?_
  refine oP 55 fun r19 => ?_
  refine oT 56 r19.1 ?_
  refine oP 57 fun r21 => ?_
  refine oP 58 fun r22 => ?_
  refine oT 8 r22.1 ?_
  exact oE)
@[simp] theorem n12_10_eq (call : Calling) (env : Env) (h : Heap) : evC (cx12 call) n12_10 ⟨env, h⟩ = (bnd (pureV h (mLoad (.arr 32 (.int .u8)) (env.get 6) h)) fun r0 => bnd (pureV r0.2 (mLoad (.arr 12 (.int .u8)) (env.get 7) r0.2)) fun r1 => bnd (call 35 [r0.1, r1.1] r1.2) fun r2 => bnd (pureV r2.2 (mExtract r2.1 0)) fun r4 => bnd (pureV r4.2 (mExtract r2.1 1)) fun r5 => bnd (mNew (.arr 16 (.int .u8)) (arr 16 fun _ => 0#8) r5.2) fun r6 => bnd (mNew (.arr 32 (.int .u8)) (arr 32 fun _ => 0#8) r6.2) fun r7 => bnd (stU (.arr 16 (.int .u8)) r6.1 r4.1 r7.2) fun r8 => bnd (stU (.arr 32 (.int .u8)) r7.1 r5.1 r8.2) fun r9 => evC (cx12 call) n12_11 ⟨(Env.put (Env.put env 13 r6.1) 14 r7.1), r9.2⟩) := (xSR 6 (cOps (cL n12_10)) (cR n12_10)).trans (by
  refine opsK_0 ?_
  refine oP 31 fun r0 => ?_
  refine oP 32 fun r1 => ?_
  refine oP 33 fun r2 => ?_
  refine oT 30 r2.1 ?_
  refine oP 34 fun r4 => ?_
  refine oP 35 fun r5 => ?_
  refine oP 13 fun r6 => ?_
  refine oP 14 fun r7 => ?_
  refine oN fun r8 => ?_
  refine oN fun r9 => ?_
  exact oE)
@[simp] theorem n12_9_eq (call : Calling) (env : Env) (h : Heap) : evC (cx12 call) n12_9 ⟨env, h⟩ = (bnd (pureV h (mLoad (.arr 32 (.int .u8)) (env.get 6) h)) fun r0 => bnd (pureV r0.2 (mLoad (.arr 12 (.int .u8)) (env.get 7) r0.2)) fun r1 => bnd (call 34 [r0.1, r1.1] r1.2) fun r2 => bnd (pureV r2.2 (mExtract r2.1 0)) fun r4 => bnd (pureV r4.2 (mExtract r2.1 1)) fun r5 => bnd (mNew (.arr 16 (.int .u8)) (arr 16 fun _ => 0#8) r5.2) fun r6 => bnd (mNew (.arr 32 (.int .u8)) (arr 32 fun _ => 0#8) r6.2) fun r7 => bnd (stU (.arr 16 (.int .u8)) r6.1 r4.1 r7.2) fun r8 => bnd (stU (.arr 32 (.int .u8)) r7.1 r5.1 r8.2) fun r9 => evC (cx12 call) n12_10 ⟨(Env.put (Env.put env 11 r6.1) 12 r7.1), r9.2⟩) := (xSR 5 (cOps (cL n12_9)) (cR n12_9)).trans (by
  refine opsK_0 ?_
  refine oP 25 fun r0 => ?_
  refine oP 26 fun r1 => ?_
  refine oP 27 fun r2 => ?_
  refine oT 24 r2.1 ?_
  refine oP 28 fun r4 => ?_
  refine oP 29 fun r5 => ?_
  refine oP 11 fun r6 => ?_
  refine oP 12 fun r7 => ?_
  refine oN fun r8 => ?_
  refine oN fun r9 => ?_
  exact oE)
@[simp] theorem n12_8_eq (call : Calling) (env : Env) (h : Heap) : evC (cx12 call) n12_8 ⟨env, h⟩ = (bnd (pureV h (mLoad (.arr 16 (.int .u8)) (env.get 4) h)) fun r0 => bnd (call 33 [r0.1, (env.get 9)] r0.2) fun r2 => bnd (mNew (.arr 16 (.int .u8)) (arr 16 fun _ => 0#8) r2.2) fun r3 => bnd (stU (.arr 16 (.int .u8)) r3.1 r2.1 r3.2) fun r4 => evC (cx12 call) n12_9 ⟨(Env.put env 10 r3.1), r4.2⟩) := (xSR 4 (cOps (cL n12_8)) (cR n12_8)).trans (by
  refine opsK_0 ?_
  refine oP 21 fun r0 => ?_
  refine oT 22 (env.get 9) ?_
  refine oP 23 fun r2 => ?_
  refine oP 10 fun r3 => ?_
  refine oN fun r4 => ?_
  exact oE)
@[simp] theorem n12_7_eq (call : Calling) (env : Env) (h : Heap) : evC (cx12 call) n12_7 ⟨env, h⟩ = (bnd (call 25 [(env.get 1)] h) fun r1 => evC (cx12 call) n12_8 ⟨(Env.put env 9 r1.1), r1.2⟩) := (xSR 3 (cOps (cL n12_7)) (cR n12_7)).trans (by
  refine opsK_0 ?_
  refine oT 19 (env.get 1) ?_
  refine oP 20 fun r1 => ?_
  refine oT 9 r1.1 ?_
  exact oE)
@[simp] theorem n12_1_eq (call : Calling) (s : St) : evC (cx12 call) n12_1 s = bnd (evC (cx12 call) n12_2 s) (sqK (evC (cx12 call) n12_7)) := xS _ _
@[simp] theorem n12_0_eq (call : Calling) (env : Env) (h : Heap) : evC (cx12 call) n12_0 ⟨env, h⟩ = (bnd (mNew (.arr 16 (.int .u8)) (env.get 0) h) fun r0 => bnd (mNew (.arr 32 (.int .u8)) (env.get 2) r0.2) fun r1 => bnd (mNew (.arr 12 (.int .u8)) (env.get 3) r1.2) fun r2 => evC (cx12 call) n12_1 ⟨(Env.put (Env.put (Env.put (Env.put env 4 r0.1) 6 r1.1) 7 r2.1) 8 (.bool false)), r2.2⟩) := (xSR 0 (cOps (cL n12_0)) (cR n12_0)).trans (by
  refine opsK_0 ?_
  refine oP 4 fun r0 => ?_
  refine oP 6 fun r1 => ?_
  refine oP 7 fun r2 => ?_
  refine oT 8 (.bool false) ?_
  exact oE)
theorem b12 (call : Calling) (a0 a1 a2 a3 : AV) (h : Heap) : evBody (cx12 call) Try.f12 n12_0 [a0, a1, a2, a3] h = bnd (evC (cx12 call) n12_0 ⟨[(0, a0), (1, a1), (2, a2), (3, a3), (4, .junk), (5, .junk), (6, .junk), (7, .junk), (8, .junk), (9, .junk), (10, .junk), (11, .junk), (12, .junk), (13, .junk), (14, .junk), (17, .junk)], h⟩) (retK fun s => bnd (bnd (some (s.env.get 8)) fun v => bnd (some []) fun vs => some (v :: vs)) fun vs => some (oneOrTuple vs)) := by kernel_rfl
theorem fn12 : Try.prog.funcs[12]? = some Try.f12 := by kernel_rfl
theorem k12 : Callable Try.prog 12 := ⟨Try.f12, fn12, by kernel_rfl, by kernel_rfl⟩
theorem s12 {call : Calling} (hc : CallOK Try.prog call) {args : List AV} {h h' : Heap} {v : AV} (he : evBody (cx12 call) Try.f12 n12_0 args h = some (v, h')) : Spec Try.prog 12 args h v h' := body_sound (C := cx12 call) TT_ok hc mixed_ok fn12 (by kernel_rfl) (by kernel_rfl) he
def sn12 := And.intro n12_5_eq (And.intro n12_4_eq (And.intro n12_6_eq (And.intro n12_3_eq (And.intro n12_2_eq (And.intro n12_12_eq (And.intro n12_11_eq (And.intro n12_10_eq (And.intro n12_9_eq (And.intro n12_8_eq (And.intro n12_7_eq (And.intro n12_1_eq (n12_0_eq))))))))))))
end Go.Vab

/-
  The law SivPolyval, walked.
-/
namespace Go.Vab
open Go Go.Proofs

theorem walk12 (h : Heap) (y key nonce : Nat → BitVec 8) (b : AV) (n : Nat) (g : Nat → BitVec 8) (hb : Byt h b n g) : ∃ tr, evBody (cx12 callS26) Try.f12 n12_0 [arr 16 y, b, arr 32 key, arr 12 nonce] h = some (.bool true, h ++ tr) := by
  have lb := hb.len
  rw [b12]
  have main : Evs (evC (cx12 callS26) n12_0 ⟨[(0, arr 16 y), (1, b), (2, arr 32 key), (3, arr 12 nonce), (4, .junk), (5, .junk), (6, .junk), (7, .junk), (8, .junk), (9, .junk), (10, .junk), (11, .junk), (12, .junk), (13, .junk), (14, .junk), (17, .junk)], h⟩) (fun r => ∃ env tr, r = (.ret, ⟨env, h ++ tr⟩) ∧ env.get 8 = .bool true) := by
    obtain ⟨env, he⟩ : ∃ env : Env, env = [(0, arr 16 y), (1, b), (2, arr 32 key), (3, arr 12 nonce), (4, .junk), (5, .junk), (6, .junk), (7, .junk), (8, .junk), (9, .junk), (10, .junk), (11, .junk), (12, .junk), (13, .junk), (14, .junk), (17, .junk)] := ⟨_, rfl⟩
    rw [← he]
    have g0 : env.get 0 = arr 16 y := by rw [he]; rfl
    have g1 : env.get 1 = b := by rw [he]; rfl
    have g2 : env.get 2 = arr 32 key := by rw [he]; rfl
    have g3 : env.get 3 = arr 12 nonce := by rw [he]; rfl
    clear he
    by_cases h1 : 300 < n
    · repeat (first
        | (with_reducible refine Evs.assoc ?_)
        | ((with_reducible refine Evs.some_bnd ?_); try dsimp only [sqK_nrm, sqK_exit, sqK_ret])
        | ((with_reducible apply Evs.bcndT); (focus (simp (disch := omega) [g0, g1, g2, g3, lb, h1] <;> omega)))
        | ((with_reducible apply Evs.bcndF); (focus (simp (disch := omega) [g0, g1, g2, g3, lb, h1] <;> omega)))
        | ((with_reducible apply Evs.step); (focus ((conv => lhs; simp (disch := omega) [g0, g1, g2, g3, lb, h1]); done)); try dsimp only)
        | (simp only [sn12, sqK_nrm, sqK_exit, sqK_ret, inBlk_nrm, inBlk_ret, inBlk_same]))
      exact Evs.ret ⟨_, _, rfl, by simp⟩
    have k25 : ∀ l, callS25 25 [b] (h ++ l) = some (.slice (h ++ l).length (n + 1) [] (.int .u8) 0 n none, h ++ l ++ [⟨arr (n + 1) (lentF n g), n + 1, .open⟩]) := fun l => callS25_25 b n g (h ++ l) ⟨hb.app l, by omega⟩
    have k33 : ∀ (l : Heap) (i : Nat), l[i]? = some ⟨arr (n + 1) (lentF n g), n + 1, .open⟩ → callS13 33 [arr 16 y, .slice (h.length + i) (n + 1) [] (.int .u8) 0 n none] (h ++ l) = some (arr 16 (bytesX (polyX 0#128 (val16 y) n g)), h ++ l) := fun l i hi => by
      have hB : Byt (h ++ l) (.slice (h.length + i) (n + 1) [] (.int .u8) 0 n none) n g := (Byt.grown (b := ⟨arr (n + 1) (lentF n g), n + 1, .open⟩) (m := n + 1) (by rw [blkAt_new]; unfold blkAt; rw [hi]; simp) rfl (by omega) (by omega)).congr fun j hj => by unfold lentF; rw [if_pos hj]
      exact callS13_33 y _ n g (h ++ l) ⟨hB, by omega⟩
    have k28 : ∀ (l : Heap) (i : Nat), l[i]? = some ⟨arr (n + 1) (lentF n g), n + 1, .open⟩ → still callS26 28 [.slice (h.length + i) (n + 1) [] (.int .u8) 0 n none, b] (h ++ l) = some (.bool true, h ++ l) := fun l i hi =>
      callS26_28s _ _ n b (h ++ l) ⟨n + 1, .open, g, by rw [blkAt_new]; unfold blkAt; rw [hi]; simp, by omega, by omega, by omega, hb.app l⟩
    have k36 : ∀ l, still callS22 36 [arr 16 y, b] (h ++ l) = some (arr 16 (bytesX (polyX 0#128 (val16 y) n g)), h ++ l) := fun l => callS22_36s y b n g (h ++ l) ⟨hb.app l, by omega⟩
    repeat (first
      | (with_reducible refine Evs.assoc ?_)
      | ((with_reducible refine Evs.some_bnd ?_); try dsimp only [sqK_nrm, sqK_exit, sqK_ret])
      | ((with_reducible apply Evs.bcndT); (focus (simp (disch := omega) [g0, g1, g2, g3, lb, h1, k25] <;> omega)))
      | ((with_reducible apply Evs.bcndF); (focus (simp (disch := omega) [g0, g1, g2, g3, lb, h1, k25] <;> omega)))
      | ((with_reducible apply Evs.step); (focus ((conv => lhs; simp (disch := omega) [g0, g1, g2, g3, lb, h1, k25]); done)); try dsimp only)
      | (simp only [sn12, sqK_nrm, sqK_exit, sqK_ret, inBlk_nrm, inBlk_ret, inBlk_same]))
    with_reducible apply Evs.step
    · conv => lhs; simp (disch := omega) [g1]
      exact k33 _ 3 rfl
    repeat (first
      | (with_reducible refine Evs.assoc ?_)
      | ((with_reducible refine Evs.some_bnd ?_); try dsimp only [sqK_nrm, sqK_exit, sqK_ret])
      | ((with_reducible apply Evs.bcndT); (focus (simp (disch := omega) [g0, g1, g2, g3, lb, h1] <;> omega)))
      | ((with_reducible apply Evs.bcndF); (focus (simp (disch := omega) [g0, g1, g2, g3, lb, h1] <;> omega)))
      | ((with_reducible apply Evs.step); (focus ((conv => lhs; simp (disch := omega) [g0, g1, g2, g3, lb, h1]); done)); try dsimp only)
      | (simp only [sn12, sqK_nrm, sqK_exit, sqK_ret, inBlk_nrm, inBlk_ret, inBlk_same]))
    with_reducible apply Evs.step
    · conv => lhs; simp (disch := omega) [g1]
      exact k28 _ 3 rfl
    repeat (first
      | (with_reducible refine Evs.assoc ?_)
      | ((with_reducible refine Evs.some_bnd ?_); try dsimp only [sqK_nrm, sqK_exit, sqK_ret])
      | ((with_reducible apply Evs.bcndT); (focus (simp (disch := omega) [g0, g1, g2, g3, lb, h1, k36, arrEq_self] <;> omega)))
      | ((with_reducible apply Evs.bcndF); (focus (simp (disch := omega) [g0, g1, g2, g3, lb, h1, k36, arrEq_self] <;> omega)))
      | ((with_reducible apply Evs.step); (focus ((conv => lhs; simp (disch := omega) [g0, g1, g2, g3, lb, h1, k36, arrEq_self]); done)); try dsimp only)
      | (simp only [sn12, sqK_nrm, sqK_exit, sqK_ret, inBlk_nrm, inBlk_ret, inBlk_same]))
    exact Evs.ret ⟨_, _, rfl, by simp⟩
  obtain ⟨r, hr, env, tr, rfl, e0⟩ := main
  refine ⟨tr, ?_⟩
  rw [hr]
  simp [e0, oneOrTuple]

end Go.Vab
