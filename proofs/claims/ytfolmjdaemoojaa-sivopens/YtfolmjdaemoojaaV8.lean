/- How the evaluator reads the functions of a seat. Printed by wip/tools/gen.py (own work). -/
import Derived.Test.YtfolmjdaemoojaaV3
import Derived.Test.YtfolmjdaemoojaaV7
import Derived.Test.YtfolmjdaemoojaaV5
set_option linter.all false
set_option linter.unusedSectionVars false
namespace Go.Vab
open Go Go.Proofs
noncomputable section
variable (call : Calling) (env : Env) (h : Heap) (s : St)
/-! vestry/vestryref09.Open -/
def cx30 (call : Calling) : Ctx := ⟨call, TT, 57, [14, 15, 16, 17, 18, 19, 20, 22, 23, 25, 26, 27, 28, 30, 31, 32, 33, 34, 35, 36, 37, 38, 39, 40, 41, 42, 43, 44, 45, 46, 47, 48, 49, 50, 51, 52, 53, 54, 56]⟩
def n30_0 : Code := bodyOf Try.f30
def n30_1 : Code := cR n30_0
def n30_2 : Code := cL n30_1
def n30_3 : Code := cR n30_2
def n30_4 : Code := cL n30_3
def n30_5 : Code := cR n30_4
def n30_6 : Code := cR n30_3
def n30_7 : Code := cR n30_1
def n30_8 : Code := cL n30_7
def n30_9 : Code := cR n30_8
def n30_10 : Code := cL n30_9
def n30_11 : Code := cR n30_10
def n30_12 : Code := cR n30_9
def n30_13 : Code := cR n30_7
def n30_14 : Code := cR n30_13
def n30_15 : Code := cR n30_14
def n30_16 : Code := cL n30_15
def n30_17 : Code := cR n30_16
def n30_18 : Code := cB n30_17
def n30_19 : Code := cB n30_18
def n30_20 : Code := cL n30_19
def n30_21 : Code := cR n30_20
def n30_22 : Code := cL n30_21
def n30_23 : Code := cR n30_21
def n30_24 : Code := cR n30_19
def n30_25 : Code := cL n30_24
def n30_26 : Code := cB n30_25
def n30_27 : Code := cR n30_24
def n30_28 : Code := cR n30_15
def n30_29 : Code := cR n30_28
def n30_30 : Code := cL n30_29
def n30_31 : Code := cR n30_30
def n30_32 : Code := cL n30_31
def n30_33 : Code := cR n30_32
def n30_34 : Code := cR n30_31
def n30_35 : Code := cR n30_29
def n30_36 : Code := cR n30_35
@[simp] theorem n30_5_eq : evC (cx30 call) n30_5 s = some (.ret, s) := xE
@[simp] theorem n30_4_eq : evC (cx30 call) n30_4 ⟨env, h⟩ = ( evC (cx30 call) n30_5 ⟨(Env.put (Env.put env 8 .nilslice) 9 (nat 3)), h⟩) := (xSR 2 (cOps (cL n30_4)) (cR n30_4)).trans (by
  refine opsK_0 ?_
  refine oT 8 .nilslice ?_
  refine oT 9 (nat 3) ?_
  exact oE)
@[simp] theorem n30_6_eq : evC (cx30 call) n30_6 s = some (.nrm, s) := xK
@[simp] theorem n30_3_eq : evC (cx30 call) n30_3 s = cnd (s.env.get 21) (evC (cx30 call) n30_4 s) (evC (cx30 call) n30_6 s) := xC 21 _ _
@[simp] theorem n30_2_eq : evC (cx30 call) n30_2 ⟨env, h⟩ = (bnd (pureV h (mLenS (env.get 2))) fun r1 => bnd (pureV r1.2 (mBin .gtr r1.1 (nat 65536))) fun r2 => bnd (gdo r2.1 false (some ((env.get 3), r2.2)) r2.2) fun r4 => bnd (gdo r2.1 false (pureV r4.2 (mLenS r4.1)) r4.2) fun r5 => bnd (gdo r2.1 false (pureV r5.2 (mBin .gtr r5.1 (nat 65552))) r5.2) fun r6 => bnd (pureV r6.2 (mPick r2.1 (.bool true) r6.1)) fun r7 => evC (cx30 call) n30_3 ⟨(Env.put env 21 r7.1), r7.2⟩) := (xSR 1 (cOps (cL n30_2)) (cR n30_2)).trans (by
  refine opsK_0 ?_
  refine oT 14 (env.get 2) ?_
  refine oP 15 fun r1 => ?_
  refine oP 16 fun r2 => ?_
  refine oT 17 r2.1 ?_
  refine oP 18 fun r4 => ?_
  refine oP 19 fun r5 => ?_
  refine oP 20 fun r6 => ?_
  refine oP 21 fun r7 => ?_
  exact oE)
@[simp] theorem n30_11_eq : evC (cx30 call) n30_11 s = some (.ret, s) := xE
@[simp] theorem n30_10_eq : evC (cx30 call) n30_10 ⟨env, h⟩ = ( evC (cx30 call) n30_11 ⟨(Env.put (Env.put env 8 .nilslice) 9 (nat 4)), h⟩) := (xSR 4 (cOps (cL n30_10)) (cR n30_10)).trans (by
  refine opsK_0 ?_
  refine oT 8 .nilslice ?_
  refine oT 9 (nat 4) ?_
  exact oE)
@[simp] theorem n30_12_eq : evC (cx30 call) n30_12 s = some (.nrm, s) := xK
@[simp] theorem n30_9_eq : evC (cx30 call) n30_9 s = cnd (s.env.get 24) (evC (cx30 call) n30_10 s) (evC (cx30 call) n30_12 s) := xC 24 _ _
@[simp] theorem n30_8_eq : evC (cx30 call) n30_8 ⟨env, h⟩ = (bnd (pureV h (mLenS (env.get 3))) fun r1 => bnd (pureV r1.2 (mBin .lss r1.1 (nat 16))) fun r2 => evC (cx30 call) n30_9 ⟨(Env.put env 24 r2.1), r2.2⟩) := (xSR 3 (cOps (cL n30_8)) (cR n30_8)).trans (by
  refine opsK_0 ?_
  refine oT 22 (env.get 3) ?_
  refine oP 23 fun r1 => ?_
  refine oP 24 fun r2 => ?_
  exact oE)
@[simp] theorem n30_22_eq : evC (cx30 call) n30_22 s = some (.nrm, s) := xK
@[simp] theorem n30_23_eq : evC (cx30 call) n30_23 s = some (.exit 0, s) := xX 0
@[simp] theorem n30_21_eq : evC (cx30 call) n30_21 s = cnd (s.env.get 29) (evC (cx30 call) n30_22 s) (evC (cx30 call) n30_23 s) := xC 29 _ _
@[simp] theorem n30_20_eq : evC (cx30 call) n30_20 ⟨env, h⟩ = (bnd (pureV h (mBin .lss (env.get 12) (nat 16))) fun r1 => evC (cx30 call) n30_21 ⟨(Env.put env 29 r1.1), r1.2⟩) := (xSR 8 (cOps (cL n30_20)) (cR n30_20)).trans (by
  refine opsK_0 ?_
  refine oT 28 (env.get 12) ?_
  refine oP 29 fun r1 => ?_
  exact oE)
@[simp] theorem n30_26_eq : evC (cx30 call) n30_26 ⟨env, h⟩ = (bnd (pureV h (mBin .add (env.get 10) (env.get 12))) fun r4 => bnd (pureV r4.2 (mIdxS (.int .u8) (env.get 3) r4.1)) fun r5 => bnd (pureV r5.2 (mLoad (.int .u8) r5.1 r5.2)) fun r6 => bnd (pureV r6.2 (mIdxA (.arr 16 (.int .u8)) (env.get 11) (env.get 12))) fun r7 => bnd (stU (.int .u8) r7.1 r6.1 r7.2) fun r8 => some (.nrm, ⟨env, r8.2⟩)) := (xR 10 (cOps n30_26)).trans (by
  refine opsK_0 ?_
  refine oT 32 (env.get 12) ?_
  refine oT 33 (env.get 3) ?_
  refine oT 34 (env.get 10) ?_
  refine oT 35 (env.get 12) ?_
  refine oP 36 fun r4 => ?_
  refine oP 37 fun r5 => ?_
  refine oP 38 fun r6 => ?_
  refine oP 39 fun r7 => ?_
  refine oN fun r8 => ?_
  exact oE)
@[simp] theorem n30_25_eq : evC (cx30 call) n30_25 s = bnd (evC (cx30 call) n30_26 s) fun r => some (inBlk 1 r) := xB 1 _
@[simp] theorem n30_27_eq : evC (cx30 call) n30_27 ⟨env, h⟩ = (bnd (pureV h (mBin .add (env.get 12) (nat 1))) fun r1 => some (.nrm, ⟨(Env.put env 12 r1.1), r1.2⟩)) := (xR 9 (cOps n30_27)).trans (by
  refine opsK_0 ?_
  refine oT 30 (env.get 12) ?_
  refine oP 31 fun r1 => ?_
  refine oT 12 r1.1 ?_
  exact oE)
@[simp] theorem n30_24_eq : evC (cx30 call) n30_24 s = bnd (evC (cx30 call) n30_25 s) (sqK (evC (cx30 call) n30_27)) := xS _ _
@[simp] theorem n30_19_eq : evC (cx30 call) n30_19 s = bnd (evC (cx30 call) n30_20 s) (sqK (evC (cx30 call) n30_24)) := xS _ _
@[simp] theorem n30_18_eq : evC (cx30 call) n30_18 s = evLoop (evC (cx30 call) n30_19) s := xL _
@[simp] theorem n30_17_eq : evC (cx30 call) n30_17 s = bnd (evC (cx30 call) n30_18 s) fun r => some (inBlk 0 r) := xB 0 _
@[simp] theorem n30_16_eq : evC (cx30 call) n30_16 ⟨env, h⟩ = ( evC (cx30 call) n30_17 ⟨(Env.put env 12 (nat 0)), h⟩) := (xSR 7 (cOps (cL n30_16)) (cR n30_16)).trans (by
  refine opsK_0 ?_
  refine oT 12 (nat 0) ?_
  exact oE)
@[simp] theorem n30_33_eq : evC (cx30 call) n30_33 s = some (.ret, s) := xE
@[simp] theorem n30_32_eq : evC (cx30 call) n30_32 ⟨env, h⟩ = ( evC (cx30 call) n30_33 ⟨(Env.put (Env.put env 8 .nilslice) 9 (nat 90)), h⟩) := (xSR 13 (cOps (cL n30_32)) (cR n30_32)).trans (by
  refine opsK_0 ?_
  refine oT 8 .nilslice ?_
  refine oT 9 (nat 90) ?_
  exact oE)
@[simp] theorem n30_34_eq : evC (cx30 call) n30_34 s = some (.nrm, s) := xK
@[simp] theorem n30_31_eq : evC (cx30 call) n30_31 s = cnd (s.env.get 55) (evC (cx30 call) n30_32 s) (evC (cx30 call) n30_34 s) := xC 55 _ _
theorem n30_30_ok : drawOk (cOps (cL n30_30)).toList = true := by kernel_rfl
@[simp] theorem n30_30_eq : evC (cx30 call) n30_30 ⟨env, h⟩ = (bnd (pureV h (mLoad (.arr 32 (.int .u8)) (env.get 4) h)) fun r0 => bnd (pureV r0.2 (mLoad (.arr 12 (.int .u8)) (env.get 5) r0.2)) fun r1 => bnd (still call 47 [r0.1, r1.1, (env.get 2), (env.get 13)] r1.2) fun r4 => bnd (pureV r4.2 (mLoad (.arr 16 (.int .u8)) (env.get 11) r4.2)) fun r5 => bnd (pureV r5.2 (mEq (.arr 16 (.int .u8)) .neq r4.1 r5.1)) fun r6 => evC (cx30 call) n30_31 ⟨(Env.put env 55 r6.1), r6.2⟩) := (xSD 12 (cOps (cL n30_30)) (cR n30_30) n30_30_ok).trans (by
  refine opsK_0 ?_
  refine oP 49 fun r0 => ?_
  refine oP 50 fun r1 => ?_
  refine oT 51 (env.get 2) ?_
  refine oT 52 (env.get 13) ?_
  refine oP 53 fun r4 => ?_
  refine oP 54 fun r5 => ?_
  refine oP 55 fun r6 => ?_
  exact oE)
@[simp] theorem n30_36_eq : evC (cx30 call) n30_36 s = some (.ret, s) := xE
@[simp] theorem n30_35_eq : evC (cx30 call) n30_35 ⟨env, h⟩ = ( evC (cx30 call) n30_36 ⟨(Env.put (Env.put env 8 (env.get 13)) 9 (nat 0)), h⟩) := (xSR 14 (cOps (cL n30_35)) (cR n30_35)).trans (by
  refine opsK_0 ?_
  refine oT 56 (env.get 13) ?_
  refine oT 8 (env.get 13) ?_
  refine oT 9 (nat 0) ?_
  exact oE)
@[simp] theorem n30_29_eq : evC (cx30 call) n30_29 s = bnd (evC (cx30 call) n30_30 s) (sqK (evC (cx30 call) n30_35)) := xS _ _
theorem n30_28_ok : loud (cOps (cL n30_28)).toList = true := by kernel_rfl
@[simp] theorem n30_28_eq : evC (cx30 call) n30_28 ⟨env, h⟩ = (bnd (pureV h (mSliceS (.int .u8) (env.get 3) none (some (env.get 10)) none)) fun r2 => bnd (pureV r2.2 (mLoad (.arr 32 (.int .u8)) (env.get 4) r2.2)) fun r3 => bnd (pureV r3.2 (mLoad (.arr 12 (.int .u8)) (env.get 5) r3.2)) fun r4 => bnd (pureV r4.2 (mLoad (.arr 16 (.int .u8)) (env.get 11) r4.2)) fun r5 => bnd (call 49 [r3.1, r4.1, r5.1, (env.get 10)] r5.2) fun r7 => bnd (call 48 [r2.1, r7.1] r7.2) fun r8 => evC (cx30 call) n30_29 ⟨(Env.put env 13 r8.1), r8.2⟩) := (xSDL 11 (cOps (cL n30_28)) (cR n30_28) n30_28_ok).trans (by
  refine opsK_0 ?_
  refine oT 40 (env.get 3) ?_
  refine oT 41 (env.get 10) ?_
  refine oP 42 fun r2 => ?_
  refine oP 43 fun r3 => ?_
  refine oP 44 fun r4 => ?_
  refine oP 45 fun r5 => ?_
  refine oT 46 (env.get 10) ?_
  refine oP 47 fun r7 => ?_
  refine oP 48 fun r8 => ?_
  refine oT 13 r8.1 ?_
  exact oE)
@[simp] theorem n30_15_eq : evC (cx30 call) n30_15 s = bnd (evC (cx30 call) n30_16 s) (sqK (evC (cx30 call) n30_28)) := xS _ _
@[simp] theorem n30_14_eq : evC (cx30 call) n30_14 ⟨env, h⟩ = (bnd (mNew (.arr 16 (.int .u8)) (arr 16 fun _ => 0#8) h) fun r0 => evC (cx30 call) n30_15 ⟨(Env.put env 11 r0.1), r0.2⟩) := (xSR 6 (cOps (cL n30_14)) (cR n30_14)).trans (by
  refine opsK_0 ?_
  refine oP 11 fun r0 => ?_
  exact oE)
@[simp] theorem n30_13_eq : evC (cx30 call) n30_13 ⟨env, h⟩ = (bnd (pureV h (mLenS (env.get 3))) fun r1 => bnd (pureV r1.2 (mBin .sub r1.1 (nat 16))) fun r2 => evC (cx30 call) n30_14 ⟨(Env.put env 10 r2.1), r2.2⟩) := (xSR 5 (cOps (cL n30_13)) (cR n30_13)).trans (by
  refine opsK_0 ?_
  refine oT 25 (env.get 3) ?_
  refine oP 26 fun r1 => ?_
  refine oP 27 fun r2 => ?_
  refine oT 10 r2.1 ?_
  exact oE)
@[simp] theorem n30_7_eq : evC (cx30 call) n30_7 s = bnd (evC (cx30 call) n30_8 s) (sqK (evC (cx30 call) n30_13)) := xS _ _
@[simp] theorem n30_1_eq : evC (cx30 call) n30_1 s = bnd (evC (cx30 call) n30_2 s) (sqK (evC (cx30 call) n30_7)) := xS _ _
@[simp] theorem n30_0_eq : evC (cx30 call) n30_0 ⟨env, h⟩ = (bnd (mNew (.arr 32 (.int .u8)) (env.get 0) h) fun r0 => bnd (mNew (.arr 12 (.int .u8)) (env.get 1) r0.2) fun r1 => evC (cx30 call) n30_1 ⟨(Env.put (Env.put (Env.put (Env.put env 4 r0.1) 5 r1.1) 8 .nilslice) 9 (nat 0)), r1.2⟩) := (xSR 0 (cOps (cL n30_0)) (cR n30_0)).trans (by
  refine opsK_0 ?_
  refine oP 4 fun r0 => ?_
  refine oP 5 fun r1 => ?_
  refine oT 8 .nilslice ?_
  refine oT 9 (nat 0) ?_
  exact oE)
theorem b30 (call : Calling) (a0 a1 a2 a3 : AV) (h : Heap) : evBody (cx30 call) Try.f30 n30_0 [a0, a1, a2, a3] h = bnd (evC (cx30 call) n30_0 ⟨[(0, a0), (1, a1), (2, a2), (3, a3), (4, .junk), (5, .junk), (6, .junk), (7, .junk), (8, .junk), (9, .junk), (10, .junk), (11, .junk), (12, .junk), (13, .junk), (21, .junk), (24, .junk), (29, .junk), (55, .junk)], h⟩) (retK fun s => bnd (bnd (some (s.env.get 8)) fun v => bnd (bnd (some (s.env.get 9)) fun v => bnd (some []) fun vs => some (v :: vs)) fun vs => some (v :: vs)) fun vs => some (oneOrTuple vs)) := by kernel_rfl
theorem fn30 : Try.prog.funcs[30]? = some Try.f30 := by kernel_rfl
theorem k30 : Callable Try.prog 30 := ⟨Try.f30, fn30, by kernel_rfl, by kernel_rfl⟩
theorem s30 {call : Calling} (hc : CallOK Try.prog call) {args : List AV} {h h' : Heap} {v : AV} (he : evBody (cx30 call) Try.f30 n30_0 args h = some (v, h')) : Spec Try.prog 30 args h v h' := body_sound (C := cx30 call) TT_ok hc mixed_ok fn30 (by kernel_rfl) (by kernel_rfl) he
def sn30 := Y n30_5_eq (Y n30_4_eq (Y n30_6_eq (Y n30_3_eq (Y n30_2_eq (Y n30_11_eq (Y n30_10_eq (Y n30_12_eq (Y n30_9_eq (Y n30_8_eq (Y n30_22_eq (Y n30_23_eq (Y n30_21_eq (Y n30_20_eq (Y n30_26_eq (Y n30_25_eq (Y n30_27_eq (Y n30_24_eq (Y n30_19_eq (Y n30_18_eq (Y n30_17_eq (Y n30_16_eq (Y n30_33_eq (Y n30_32_eq (Y n30_34_eq (Y n30_31_eq (Y n30_30_eq (Y n30_36_eq (Y n30_35_eq (Y n30_29_eq (Y n30_28_eq (Y n30_15_eq (Y n30_14_eq (Y n30_13_eq (Y n30_7_eq (Y n30_1_eq (n30_0_eq))))))))))))))))))))))))))))))))))))
end
end Go.Vab

/-
  The document's Open, walked.
-/
namespace Go.Vab
open Go Go.Proofs

theorem walk30b (h : Heap) (key nonce : Nat → BitVec 8) (xa xs : AV) (na m : Nat) (a s : Nat → BitVec 8) (ha : Byt h xa na a) (hs : Byt h xs m s) (hb : bigO na m) :
    ∃ tr, evBody (cx30 callS31) Try.f30 n30_0 [arr 32 key, arr 12 nonce, xa, xs] h = some (.tuple [.nilslice, nat 3], h ++ tr) := by
  have la := ha.len
  have lt := hs.len
  rw [b30]
  have main : Evs (evC (cx30 callS31) n30_0 ⟨[(0, arr 32 key), (1, arr 12 nonce), (2, xa), (3, xs), (4, .junk), (5, .junk), (6, .junk), (7, .junk), (8, .junk), (9, .junk), (10, .junk), (11, .junk), (12, .junk), (13, .junk), (21, .junk), (24, .junk), (29, .junk), (55, .junk)], h⟩) (fun r => ∃ env tr, r = (.ret, ⟨env, h ++ tr⟩) ∧ env.get 8 = .nilslice ∧ env.get 9 = nat 3) := by
    obtain ⟨env, he⟩ : ∃ env : Env, env = [(0, arr 32 key), (1, arr 12 nonce), (2, xa), (3, xs), (4, .junk), (5, .junk), (6, .junk), (7, .junk), (8, .junk), (9, .junk), (10, .junk), (11, .junk), (12, .junk), (13, .junk), (21, .junk), (24, .junk), (29, .junk), (55, .junk)] := ⟨_, rfl⟩
    rw [← he]
    have g0 : env.get 0 = arr 32 key := by rw [he]; rfl
    have g1 : env.get 1 = arr 12 nonce := by rw [he]; rfl
    have g2 : env.get 2 = xa := by rw [he]; rfl
    have g3 : env.get 3 = xs := by rw [he]; rfl
    clear he
    by_cases h1 : 65536 < na
    · repeat (first | (with_reducible refine Evs.assoc ?_) | ((with_reducible refine Evs.some_bnd ?_); try dsimp only [sqK_nrm, sqK_exit, sqK_ret]) | ((with_reducible apply Evs.bcndT); (focus (simp (disch := omega) [g0, g1, g2, g3, la, lt, h1] <;> omega))) | ((with_reducible apply Evs.bcndF); (focus (simp (disch := omega) [g0, g1, g2, g3, la, lt, h1] <;> omega))) | ((with_reducible apply Evs.step); (focus ((conv => lhs; simp (disch := omega) [g0, g1, g2, g3, la, lt, h1]); done)); try dsimp only) | (simp only [sn30, snB]))
      exact Evs.ret ⟨_, _, rfl, by simp, by simp⟩
    · have h2 : 65552 < m := hb.resolve_left h1
      repeat (first | (with_reducible refine Evs.assoc ?_) | ((with_reducible refine Evs.some_bnd ?_); try dsimp only [sqK_nrm, sqK_exit, sqK_ret]) | ((with_reducible apply Evs.bcndT); (focus (simp (disch := omega) [g0, g1, g2, g3, la, lt, h1, h2] <;> omega))) | ((with_reducible apply Evs.bcndF); (focus (simp (disch := omega) [g0, g1, g2, g3, la, lt, h1, h2] <;> omega))) | ((with_reducible apply Evs.step); (focus ((conv => lhs; simp (disch := omega) [g0, g1, g2, g3, la, lt, h1, h2]); done)); try dsimp only) | (simp only [sn30, snB]))
      exact Evs.ret ⟨_, _, rfl, by simp, by simp⟩
  obtain ⟨r, hr, env, tr, rfl, e0, e1⟩ := main
  refine ⟨tr, ?_⟩
  rw [hr]
  simp [e0, e1, oneOrTuple]

theorem walk30s (h : Heap) (key nonce : Nat → BitVec 8) (xa xs : AV) (na m : Nat) (a s : Nat → BitVec 8) (ha : Byt h xa na a) (hs : Byt h xs m s) (hb : ¬ bigO na m) (hm : m < 16) :
    ∃ tr, evBody (cx30 callS31) Try.f30 n30_0 [arr 32 key, arr 12 nonce, xa, xs] h = some (.tuple [.nilslice, nat 4], h ++ tr) := by
  have la := ha.len
  have lt := hs.len
  have h1 : ¬ 65536 < na := fun q => hb (.inl q)
  have h2 : ¬ 65552 < m := fun q => hb (.inr q)
  rw [b30]
  have main : Evs (evC (cx30 callS31) n30_0 ⟨[(0, arr 32 key), (1, arr 12 nonce), (2, xa), (3, xs), (4, .junk), (5, .junk), (6, .junk), (7, .junk), (8, .junk), (9, .junk), (10, .junk), (11, .junk), (12, .junk), (13, .junk), (21, .junk), (24, .junk), (29, .junk), (55, .junk)], h⟩) (fun r => ∃ env tr, r = (.ret, ⟨env, h ++ tr⟩) ∧ env.get 8 = .nilslice ∧ env.get 9 = nat 4) := by
    obtain ⟨env, he⟩ : ∃ env : Env, env = [(0, arr 32 key), (1, arr 12 nonce), (2, xa), (3, xs), (4, .junk), (5, .junk), (6, .junk), (7, .junk), (8, .junk), (9, .junk), (10, .junk), (11, .junk), (12, .junk), (13, .junk), (21, .junk), (24, .junk), (29, .junk), (55, .junk)] := ⟨_, rfl⟩
    rw [← he]
    have g0 : env.get 0 = arr 32 key := by rw [he]; rfl
    have g1 : env.get 1 = arr 12 nonce := by rw [he]; rfl
    have g2 : env.get 2 = xa := by rw [he]; rfl
    have g3 : env.get 3 = xs := by rw [he]; rfl
    clear he
    repeat (first | (with_reducible refine Evs.assoc ?_) | ((with_reducible refine Evs.some_bnd ?_); try dsimp only [sqK_nrm, sqK_exit, sqK_ret]) | ((with_reducible apply Evs.bcndT); (focus (simp (disch := omega) [g0, g1, g2, g3, la, lt, h1, h2] <;> omega))) | ((with_reducible apply Evs.bcndF); (focus (simp (disch := omega) [g0, g1, g2, g3, la, lt, h1, h2] <;> omega))) | ((with_reducible apply Evs.step); (focus ((conv => lhs; simp (disch := omega) [g0, g1, g2, g3, la, lt, h1, h2]); done)); try dsimp only) | (simp only [sn30, snB]))
    exact Evs.ret ⟨_, _, rfl, by simp, by simp⟩
  obtain ⟨r, hr, env, tr, rfl, e0, e1⟩ := main
  refine ⟨tr, ?_⟩
  rw [hr]
  simp [e0, e1, oneOrTuple]

def H30 (h : Heap) (key nonce T : Nat → BitVec 8) : Heap := h ++ [⟨arr 32 key, 0, .own⟩, ⟨arr 12 nonce, 0, .own⟩, ⟨arr 16 T, 0, .own⟩]
def B30 (L m : Nat) (xa xs : AV) (env : Env) : Prop := env.get 2 = xa ∧ env.get 3 = xs ∧ env.get 4 = .ptr L 0 [] (.arr 32 (.int .u8)) ∧ env.get 5 = .ptr (L + 1) 0 [] (.arr 12 (.int .u8)) ∧ env.get 10 = nat (m - 16) ∧ env.get 11 = .ptr (L + 2) 0 [] (.arr 16 (.int .u8))

theorem walk30 (h : Heap) (key nonce : Nat → BitVec 8) (xa xs : AV) (na m : Nat) (a s : Nat → BitVec 8) (ha : Byt h xa na a) (hs : Byt h xs m s) (hb : ¬ bigO na m) (hm : 16 ≤ m) :
    ∃ o tr, evBody (cx30 callS31) Try.f30 n30_0 [arr 32 key, arr 12 nonce, xa, xs] h = some (if openG key nonce na a m s = true then .tuple [o, nat 0] else .tuple [.nilslice, nat 90], h ++ tr) ∧ OutS h tr o (m - 16) (openF key nonce m s) := by
  have la := ha.len
  have lt := hs.len
  have h1 : ¬ 65536 < na := fun q => hb (.inl q)
  have h2 : ¬ 65552 < m := fun q => hb (.inr q)
  obtain ⟨z, z1, z2⟩ := hs.upto (l := m - 16) (by omega)
  rw [b30]
  have main : Evs (evC (cx30 callS31) n30_0 ⟨[(0, arr 32 key), (1, arr 12 nonce), (2, xa), (3, xs), (4, .junk), (5, .junk), (6, .junk), (7, .junk), (8, .junk), (9, .junk), (10, .junk), (11, .junk), (12, .junk), (13, .junk), (21, .junk), (24, .junk), (29, .junk), (55, .junk)], h⟩) (fun r => ∃ env o tr, r = (.ret, ⟨env, h ++ tr⟩) ∧ (if openG key nonce na a m s = true then env.get 8 = o ∧ env.get 9 = nat 0 else env.get 8 = .nilslice ∧ env.get 9 = nat 90) ∧ OutS h tr o (m - 16) (openF key nonce m s)) := by
    obtain ⟨env, he⟩ : ∃ env : Env, env = [(0, arr 32 key), (1, arr 12 nonce), (2, xa), (3, xs), (4, .junk), (5, .junk), (6, .junk), (7, .junk), (8, .junk), (9, .junk), (10, .junk), (11, .junk), (12, .junk), (13, .junk), (21, .junk), (24, .junk), (29, .junk), (55, .junk)] := ⟨_, rfl⟩
    rw [← he]
    have g0 : env.get 0 = arr 32 key := by rw [he]; rfl
    have g1 : env.get 1 = arr 12 nonce := by rw [he]; rfl
    have g2 : env.get 2 = xa := by rw [he]; rfl
    have g3 : env.get 3 = xs := by rw [he]; rfl
    clear he
    repeat (first | (with_reducible refine Evs.assoc ?_) | ((with_reducible refine Evs.some_bnd ?_); try dsimp only [sqK_nrm, sqK_exit, sqK_ret]) | ((with_reducible apply Evs.bcndT); (focus (simp (disch := omega) [g0, g1, g2, g3, la, lt, h1, h2] <;> omega))) | ((with_reducible apply Evs.bcndF); (focus (simp (disch := omega) [g0, g1, g2, g3, la, lt, h1, h2] <;> omega))) | ((with_reducible apply Evs.step); (focus ((conv => lhs; simp (disch := omega) [g0, g1, g2, g3, la, lt, h1, h2]); done)); try dsimp only) | (simp only [sn30, snB]))
    refine Evs.bnd (Q := fun r => ∃ env', r = (.exit 0, ⟨env', H30 h key nonce (tailF m s)⟩) ∧ B30 h.length m xa xs env') ?_ ?_
    · refine Evs.up 16 (fun i st => ∃ env' T, st = ⟨env', H30 h key nonce T⟩ ∧ B30 h.length m xa xs env' ∧ env'.get 12 = nat i ∧ ∀ j, j < i → T j = tailF m s j) ?_ ?_
        ⟨_, _, rfl, ⟨by simp [g2], by simp [g3], by simp, by simp, by simp, by simp⟩, by simp, fun j hj => absurd hj (by omega)⟩
      · rintro i st hi ⟨env', T, rfl, ⟨e2, e3, e4, e5, e10, e11⟩, e12, hT⟩
        obtain ⟨p, p1, p2, p3⟩ := hs.idx (show m - 16 + i < m by omega)
        unfold H30
        repeat (first | (with_reducible refine Evs.assoc ?_) | ((with_reducible refine Evs.some_bnd ?_); try dsimp only [sqK_nrm, sqK_exit, sqK_ret]) | ((with_reducible apply Evs.bcndT); (focus (simp (disch := omega) [e3, e10, e11, e12, p1, p3] <;> omega))) | ((with_reducible apply Evs.bcndF); (focus (simp (disch := omega) [e3, e10, e11, e12, p1, p3] <;> omega))) | ((with_reducible apply Evs.step); (focus ((conv => lhs; simp (disch := omega) [e3, e10, e11, e12, p1, p3]); done)); try dsimp only) | (simp only [sn30, snB]))
        refine Evs.ret ⟨rfl, _, _, rfl, ⟨by simp [e2], by simp [e3], by simp [e4], by simp [e5], by simp [e10], by simp [e11]⟩, by simp, fun j hj => ?_⟩
        by_cases hji : j = i
        · subst hji; rw [upd_same]; rfl
        · rw [upd_ne _ _ hji]; exact hT j (by omega)
      · rintro st ⟨env', T, rfl, ⟨e2, e3, e4, e5, e10, e11⟩, e12, hT⟩
        have q : H30 h key nonce T = H30 h key nonce (tailF m s) := by unfold H30; rw [arr_congr hT]
        rw [q]
        repeat (first | (with_reducible refine Evs.assoc ?_) | ((with_reducible refine Evs.some_bnd ?_); try dsimp only [sqK_nrm, sqK_exit, sqK_ret]) | ((with_reducible apply Evs.bcndT); (focus (simp (disch := omega) [e12] <;> omega))) | ((with_reducible apply Evs.bcndF); (focus (simp (disch := omega) [e12] <;> omega))) | ((with_reducible apply Evs.step); (focus ((conv => lhs; simp (disch := omega) [e12]); done)); try dsimp only) | (simp only [sn30, snB]))
        exact Evs.ret ⟨by simp, _, rfl, ⟨by simp [e2], by simp [e3], by simp [e4], by simp [e5], by simp [e10], by simp [e11]⟩⟩
    rintro r ⟨env', rfl, ⟨e2, e3, e4, e5, e10, e11⟩⟩
    have hof : ∀ j, j < m - 16 → xorF s (strF (keyE key nonce) (tailF m s)) j = openF key nonce m s j := fun j hj => (turn_xor _ _ _ _ _ hj).symm
    by_cases h0 : m = 16
    · subst h0
      have k49 : ∀ (T : Nat → BitVec 8) (l : Heap), callS30 49 [arr 32 key, arr 12 nonce, arr 16 T, nat 0] (h ++ l) = some (.nilslice, h ++ l) := fun T l => callS30_49 key nonce T 0 (h ++ l) (by omega)
      have k48 : ∀ (l : Heap), callS29 48 [z, .nilslice] (h ++ l) = some (.nilslice, h ++ l) := fun l => callS29_48 z .nilslice 0 0 s s (h ++ l) ⟨z2.app l, Byt.nil _ _, Nat.le_refl _, by omega⟩
      have k47 : ∀ (l : Heap), still callS28 47 [arr 32 key, arr 12 nonce, xa, .nilslice] (h ++ l) = some (arr 16 (tagS key nonce na a 0 (openF key nonce 16 s)), h ++ l) := fun l => callS28_47s key nonce xa .nilslice na 0 a _ (h ++ l) ⟨ha.app l, Byt.nil _ _, by omega, by omega⟩
      simp only [Nat.sub_self] at e10 z1
      unfold H30
      by_cases hg : openG key nonce na a 16 s = true
      · have hg' : arrEq 16 (tagS key nonce na a 0 (openF key nonce 16 s)) (tailF 16 s) = true := hg
        repeat (first | (with_reducible refine Evs.assoc ?_) | ((with_reducible refine Evs.some_bnd ?_); try dsimp only [sqK_nrm, sqK_exit, sqK_ret]) | ((with_reducible apply Evs.bcndT); (focus (simp (disch := omega) [e2, e3, e4, e5, e10, e11, z1, k49, k48, k47, hg'] <;> omega))) | ((with_reducible apply Evs.bcndF); (focus (simp (disch := omega) [e2, e3, e4, e5, e10, e11, z1, k49, k48, k47, hg'] <;> omega))) | ((with_reducible apply Evs.step); (focus ((conv => lhs; simp (disch := omega) [e2, e3, e4, e5, e10, e11, z1, k49, k48, k47, hg']); done)); try dsimp only) | (simp only [sn30, snB]))
        exact Evs.ret ⟨_, .nilslice, _, rfl, by rw [if_pos hg]; simp, .inl ⟨rfl, rfl⟩⟩
      · have hg' : arrEq 16 (tagS key nonce na a 0 (openF key nonce 16 s)) (tailF 16 s) = false := Bool.eq_false_iff.2 hg
        repeat (first | (with_reducible refine Evs.assoc ?_) | ((with_reducible refine Evs.some_bnd ?_); try dsimp only [sqK_nrm, sqK_exit, sqK_ret]) | ((with_reducible apply Evs.bcndT); (focus (simp (disch := omega) [e2, e3, e4, e5, e10, e11, z1, k49, k48, k47, hg'] <;> omega))) | ((with_reducible apply Evs.bcndF); (focus (simp (disch := omega) [e2, e3, e4, e5, e10, e11, z1, k49, k48, k47, hg'] <;> omega))) | ((with_reducible apply Evs.step); (focus ((conv => lhs; simp (disch := omega) [e2, e3, e4, e5, e10, e11, z1, k49, k48, k47, hg']); done)); try dsimp only) | (simp only [sn30, snB]))
        exact Evs.ret ⟨_, .nilslice, _, rfl, by rw [if_neg hg]; simp, .inl ⟨rfl, rfl⟩⟩
    · have hn0 : m - 16 ≠ 0 := by omega
      have hu : upN (m - 16) ≠ 0 := by unfold upN; omega
      have hle : m - 16 ≤ upN (m - 16) := by unfold upN; omega
      have k49 : ∀ (T : Nat → BitVec 8) (l : Heap), callS30 49 [arr 32 key, arr 12 nonce, arr 16 T, nat (m - 16)] (h ++ l) = some (.slice (h ++ l).length (upN (m - 16)) [] (.int .u8) 0 (upN (m - 16)) none, h ++ l ++ [⟨arr (upN (m - 16)) (strF (keyE key nonce) T), upN (m - 16), .open⟩]) := fun T l => by
        have := callS30_49 key nonce T (m - 16) (h ++ l) (by omega)
        unfold outV outH at this
        rwa [if_neg hu, if_neg hu] at this
      have k48 : ∀ (l : Heap) (i : Nat) (S : Nat → BitVec 8), l[i]? = some ⟨arr (upN (m - 16)) S, upN (m - 16), .open⟩ → callS29 48 [z, .slice (h.length + i) (upN (m - 16)) [] (.int .u8) 0 (upN (m - 16)) none] (h ++ l) = some (.slice (h ++ l).length (m - 16) [] (.int .u8) 0 (m - 16) none, h ++ l ++ [⟨arr (m - 16) (xorF s S), (m - 16), .open⟩]) := fun l i S hi => by
        have hB : Byt (h ++ l) (.slice (h.length + i) (upN (m - 16)) [] (.int .u8) 0 (upN (m - 16)) none) (upN (m - 16)) S := Byt.grown (b := ⟨arr (upN (m - 16)) S, upN (m - 16), .open⟩) (m := upN (m - 16)) (by rw [blkAt_new]; exact at_blk hi) rfl (Nat.le_refl _) (Nat.le_refl _)
        have := callS29_48 z _ (m - 16) (upN (m - 16)) s S (h ++ l) ⟨z2.app l, hB, hle, by omega⟩
        unfold outV outH at this
        rwa [if_neg hn0, if_neg hn0] at this
      have k47 : ∀ (l : Heap) (i : Nat) (f : Nat → BitVec 8), l[i]? = some ⟨arr (m - 16) f, m - 16, .open⟩ → (∀ j, j < m - 16 → f j = openF key nonce m s j) → still callS28 47 [arr 32 key, arr 12 nonce, xa, .slice (h.length + i) (m - 16) [] (.int .u8) 0 (m - 16) none] (h ++ l) = some (arr 16 (tagS key nonce na a (m - 16) (openF key nonce m s)), h ++ l) := fun l i f hi hf =>
        callS28_47s key nonce xa _ na (m - 16) a _ (h ++ l) ⟨ha.app l, (Byt.grown (b := ⟨arr (m - 16) f, m - 16, .open⟩) (m := m - 16) (by rw [blkAt_new]; exact at_blk hi) rfl (Nat.le_refl _) (Nat.le_refl _)).congr hf, by omega, by omega⟩
      unfold H30
      repeat (first | (with_reducible refine Evs.assoc ?_) | ((with_reducible refine Evs.some_bnd ?_); try dsimp only [sqK_nrm, sqK_exit, sqK_ret]) | ((with_reducible apply Evs.bcndT); (focus (simp (disch := omega) [e2, e3, e4, e5, e10, e11, z1, k49] <;> omega))) | ((with_reducible apply Evs.bcndF); (focus (simp (disch := omega) [e2, e3, e4, e5, e10, e11, z1, k49] <;> omega))) | ((with_reducible apply Evs.step); (focus ((conv => lhs; simp (disch := omega) [e2, e3, e4, e5, e10, e11, z1, k49]); done)); try dsimp only) | (simp only [sn30, snB]))
      with_reducible apply Evs.step
      · conv => lhs; simp (disch := omega) [e3]
        exact k48 _ 3 _ rfl
      repeat (first | (with_reducible refine Evs.assoc ?_) | ((with_reducible refine Evs.some_bnd ?_); try dsimp only [sqK_nrm, sqK_exit, sqK_ret]) | ((with_reducible apply Evs.bcndT); (focus (simp (disch := omega) [e2, e3, e4, e5, e10, e11] <;> omega))) | ((with_reducible apply Evs.bcndF); (focus (simp (disch := omega) [e2, e3, e4, e5, e10, e11] <;> omega))) | ((with_reducible apply Evs.step); (focus ((conv => lhs; simp (disch := omega) [e2, e3, e4, e5, e10, e11]); done)); try dsimp only) | (simp only [sn30, snB]))
      with_reducible apply Evs.step
      · conv => lhs; simp (disch := omega) [e2]
        exact k47 _ 4 _ rfl hof
      by_cases hg : openG key nonce na a m s = true
      · have hg' : arrEq 16 (tagS key nonce na a (m - 16) (openF key nonce m s)) (tailF m s) = true := hg
        repeat (first | (with_reducible refine Evs.assoc ?_) | ((with_reducible refine Evs.some_bnd ?_); try dsimp only [sqK_nrm, sqK_exit, sqK_ret]) | ((with_reducible apply Evs.bcndT); (focus (simp (disch := omega) [e11, hg'] <;> omega))) | ((with_reducible apply Evs.bcndF); (focus (simp (disch := omega) [e11, hg'] <;> omega))) | ((with_reducible apply Evs.step); (focus ((conv => lhs; simp (disch := omega) [e11, hg']); done)); try dsimp only) | (simp only [sn30, snB]))
        exact Evs.ret ⟨_, _, _, rfl, by rw [if_pos hg]; simp, .inr ⟨by omega, 4, _, rfl, rfl, hof⟩⟩
      · have hg' : arrEq 16 (tagS key nonce na a (m - 16) (openF key nonce m s)) (tailF m s) = false := Bool.eq_false_iff.2 hg
        repeat (first | (with_reducible refine Evs.assoc ?_) | ((with_reducible refine Evs.some_bnd ?_); try dsimp only [sqK_nrm, sqK_exit, sqK_ret]) | ((with_reducible apply Evs.bcndT); (focus (simp (disch := omega) [e11, hg'] <;> omega))) | ((with_reducible apply Evs.bcndF); (focus (simp (disch := omega) [e11, hg'] <;> omega))) | ((with_reducible apply Evs.step); (focus ((conv => lhs; simp (disch := omega) [e11, hg']); done)); try dsimp only) | (simp only [sn30, snB]))
        exact Evs.ret ⟨_, _, _, rfl, by rw [if_neg hg]; simp, .inr ⟨by omega, 4, _, rfl, rfl, hof⟩⟩
  obtain ⟨r, hr, env, o, tr, rfl, e0, e2⟩ := main
  refine ⟨o, tr, ?_, e2⟩
  rw [hr]
  split at e0
  · rename_i hg
    simp [e0.1, e0.2, hg, oneOrTuple]
  · rename_i hg
    simp [e0.1, e0.2, hg, oneOrTuple]

theorem spec_outT {P : Program} {f : Nat} {args : List AV} {h u : Heap} {o : AV} {m : Nat} {F : Nat → BitVec 8} (hs : Spec P f args h (.tuple [o, nat 0]) (h ++ u)) (hO : OutS h u o m F) : Spec P f args h (.tuple [outV m h.length, nat 0]) (outH m h F) := by
  rcases hO with ⟨rfl, rfl⟩ | ⟨h1, jo, g, h2, rfl, h4⟩
  · exact hs.drop0 u rfl
  · unfold outV outH
    rw [if_neg (by omega), if_neg (by omega), ← arr_congr h4]
    exact hs.pullT u jo _ h2 ⟨_, _, rfl⟩

noncomputable def c30 := conC (fun x : (Nat → BitVec 8) × (Nat → BitVec 8) × (AV) × (AV) × (Nat) × (Nat) × (Nat → BitVec 8) × (Nat → BitVec 8) => [arr 32 x.1, arr 12 x.2.1, x.2.2.1, x.2.2.2.1]) (fun (x : (Nat → BitVec 8) × (Nat → BitVec 8) × (AV) × (AV) × (Nat) × (Nat) × (Nat → BitVec 8) × (Nat → BitVec 8)) h => Byt h x.2.2.1 x.2.2.2.2.1 x.2.2.2.2.2.2.1 ∧ Byt h x.2.2.2.1 x.2.2.2.2.2.1 x.2.2.2.2.2.2.2) (fun (x : (Nat → BitVec 8) × (Nat → BitVec 8) × (AV) × (AV) × (Nat) × (Nat) × (Nat → BitVec 8) × (Nat → BitVec 8)) h => (ansVo (openC x.2.2.2.2.1 x.2.2.2.2.2.1 (openG x.1 x.2.1 x.2.2.2.2.1 x.2.2.2.2.2.2.1 x.2.2.2.2.2.1 x.2.2.2.2.2.2.2)) h.length (x.2.2.2.2.2.1 - 16), ansHo (openC x.2.2.2.2.1 x.2.2.2.2.2.1 (openG x.1 x.2.1 x.2.2.2.2.1 x.2.2.2.2.2.2.1 x.2.2.2.2.2.1 x.2.2.2.2.2.2.2)) (x.2.2.2.2.2.1 - 16) h (openF x.1 x.2.1 x.2.2.2.2.2.1 x.2.2.2.2.2.2.2)))
noncomputable def callS32 : Calling := addC callS31 30 c30
theorem c30_eq (k : Nat → BitVec 8) (n : Nat → BitVec 8) (xa : AV) (xs : AV) (na : Nat) (m : Nat) (a : Nat → BitVec 8) (s : Nat → BitVec 8) (h : Heap) (hc : Byt h xa na a ∧ Byt h xs m s) : c30 [arr 32 k, arr 12 n, xa, xs] h = some (ansVo (openC na m (openG k n na a m s)) h.length (m - 16), ansHo (openC na m (openG k n na a m s)) (m - 16) h (openF k n m s)) :=
  conC_eqP (enc := fun x : (Nat → BitVec 8) × (Nat → BitVec 8) × (AV) × (AV) × (Nat) × (Nat) × (Nat → BitVec 8) × (Nat → BitVec 8) => [arr 32 x.1, arr 12 x.2.1, x.2.2.1, x.2.2.2.1]) (P := fun (x : (Nat → BitVec 8) × (Nat → BitVec 8) × (AV) × (AV) × (Nat) × (Nat) × (Nat → BitVec 8) × (Nat → BitVec 8)) h => Byt h x.2.2.1 x.2.2.2.2.1 x.2.2.2.2.2.2.1 ∧ Byt h x.2.2.2.1 x.2.2.2.2.2.1 x.2.2.2.2.2.2.2) (a := (k, n, xa, xs, na, m, a, s)) (f := fun (x : (Nat → BitVec 8) × (Nat → BitVec 8) × (AV) × (AV) × (Nat) × (Nat) × (Nat → BitVec 8) × (Nat → BitVec 8)) h => (ansVo (openC x.2.2.2.2.1 x.2.2.2.2.2.1 (openG x.1 x.2.1 x.2.2.2.2.1 x.2.2.2.2.2.2.1 x.2.2.2.2.2.1 x.2.2.2.2.2.2.2)) h.length (x.2.2.2.2.2.1 - 16), ansHo (openC x.2.2.2.2.1 x.2.2.2.2.2.1 (openG x.1 x.2.1 x.2.2.2.2.1 x.2.2.2.2.2.2.1 x.2.2.2.2.2.1 x.2.2.2.2.2.2.2)) (x.2.2.2.2.2.1 - 16) h (openF x.1 x.2.1 x.2.2.2.2.2.1 x.2.2.2.2.2.2.2))) (fun x y h hp hq e => by
    have e1 := arr_inj.1 (List.cons.inj e).1
    have e2 := arr_inj.1 (List.cons.inj (List.cons.inj e).2).1
    have e4 := (List.cons.inj (List.cons.inj (List.cons.inj e).2).2).1
    have e5 := (List.cons.inj (List.cons.inj (List.cons.inj (List.cons.inj e).2).2).2).1
    rw [e4, e5] at hp
    obtain ⟨d1, d2⟩ := hp.1.det hq.1
    obtain ⟨d3, d4⟩ := hp.2.det hq.2
    rw [← d1, ← d3]
    by_cases hm : 16 ≤ x.2.2.2.2.2.1
    · unfold ansHo outH
      rw [openG_congr e1 e2 d2 d4 hm, arr_congr fun i _ => openF_congr e1 e2 d4 hm i]
    · have q : ∀ g g' : Bool, openC x.2.2.2.2.1 x.2.2.2.2.2.1 g = openC x.2.2.2.2.1 x.2.2.2.2.2.1 g' := fun g g' => by
        unfold openC
        rw [if_pos (show x.2.2.2.2.2.1 < 16 by omega), if_pos (show x.2.2.2.2.2.1 < 16 by omega)]
      have q0 : ∀ g, openC x.2.2.2.2.1 x.2.2.2.2.2.1 g ≠ 0 := fun g => by
        unfold openC
        rw [if_pos (show x.2.2.2.2.2.1 < 16 by omega)]
        split <;> omega
      rw [q _ (openG y.1 y.2.1 x.2.2.2.2.1 y.2.2.2.2.2.2.1 x.2.2.2.2.2.1 y.2.2.2.2.2.2.2)]
      unfold ansHo
      rw [if_neg (q0 _), if_neg (q0 _)]
    ) hc
theorem callS32_ok : CallOK Try.prog callS32 := addC_con callS31_ok k30 fun x h hx => by
  show Spec _ 30 _ h (ansVo (openC _ _ _) _ _) (ansHo (openC _ _ _) _ _ _)
  by_cases hb : bigO x.2.2.2.2.1 x.2.2.2.2.2.1
  · obtain ⟨tr, hr⟩ := walk30b h x.1 x.2.1 _ _ _ _ _ _ hx.1 hx.2 hb
    have := (s30 callS31_ok hr).drop0 tr rfl
    have e : ∀ g, openC x.2.2.2.2.1 x.2.2.2.2.2.1 g = 3 := fun g => if_pos hb
    rw [e]
    exact this
  by_cases hm : x.2.2.2.2.2.1 < 16
  · obtain ⟨tr, hr⟩ := walk30s h x.1 x.2.1 _ _ _ _ _ _ hx.1 hx.2 hb hm
    have := (s30 callS31_ok hr).drop0 tr rfl
    have e : ∀ g, openC x.2.2.2.2.1 x.2.2.2.2.2.1 g = 4 := fun g => by unfold openC; rw [if_neg hb, if_pos hm]
    rw [e]
    exact this
  obtain ⟨o, tr, hr, hO⟩ := walk30 h x.1 x.2.1 _ _ _ _ _ _ hx.1 hx.2 hb (by omega)
  have e : ∀ g, openC x.2.2.2.2.1 x.2.2.2.2.2.1 g = if g = true then 0 else 90 := fun g => by unfold openC; rw [if_neg hb, if_neg hm]
  rw [e]
  by_cases hg : openG x.1 x.2.1 x.2.2.2.2.1 x.2.2.2.2.2.2.1 x.2.2.2.2.2.1 x.2.2.2.2.2.2.2 = true
  · rw [if_pos hg] at hr ⊢
    exact spec_outT (s30 callS31_ok hr) hO
  · rw [if_neg hg] at hr ⊢
    exact (s30 callS31_ok hr).drop0 tr rfl
@[simp] theorem callS32_ne {f : Nat} (args : List AV) (h : Heap) (hf : f ≠ 30) : callS32 f args h = callS31 f args h := addC_ne _ _ _ args h hf
@[simp] theorem callS32_sne {f : Nat} (args : List AV) (h : Heap) (hf : f ≠ 30) : still callS32 f args h = still callS31 f args h := still_ne _ _ _ args h hf
theorem callS32_30 (k : Nat → BitVec 8) (n : Nat → BitVec 8) (xa : AV) (xs : AV) (na : Nat) (m : Nat) (a : Nat → BitVec 8) (s : Nat → BitVec 8) (h : Heap) (hc : Byt h xa na a ∧ Byt h xs m s) : callS32 30 [arr 32 k, arr 12 n, xa, xs] h = some (ansVo (openC na m (openG k n na a m s)) h.length (m - 16), ansHo (openC na m (openG k n na a m s)) (m - 16) h (openF k n m s)) := by
  unfold callS32; rw [addC_same]; exact c30_eq k n xa xs na m a s h hc

end Go.Vab

/-
  Rows as strings.
-/
namespace Go.Vab
open Go

def rowStr : AV → Option AV
  | .ints _ xs => some (.str ⟨(xs.map fun n => UInt8.ofNat n.toNat).toArray⟩)
  | _ => none
@[simp] theorem rowStr_arr (n : Nat) (f : Nat → BitVec 8) : rowStr (arr n f) = some (.str (strOf n f)) := by
  simp only [rowStr, arr, bytes, strOf, List.map_map]
  congr 4
@[simp] theorem mStr_own (i ver len : Nat) (cap : Option Nat) (h : Heap) : mStr (.slice i ver [] (.int .u8) 0 len cap) h = bnd (blkAt h i ver) fun b => bnd (b.v.cut 0 len) rowStr := by
  simp only [mStr, mElems_slc, bnd_assoc]
  cases blkAt h i ver with
  | none => rfl
  | some b =>
    simp only [bnd_some, get_nil]
    rfl

end Go.Vab

/- How the evaluator reads the functions of a seat. Printed by wip/tools/gen.py (own work). -/
namespace Go.Vab
open Go Go.Proofs
noncomputable section
variable (call : Calling) (env : Env) (h : Heap) (s : St)
/-! vestry/vestrylaw09.lent -/
def cx25 (call : Calling) : Ctx := ⟨call, TT, 11, [3, 4, 5, 6, 7, 8, 9, 10]⟩
def n25_0 : Code := bodyOf Try.f25
def n25_1 : Code := cR n25_0
def n25_2 : Code := cR n25_1
@[simp] theorem n25_2_eq : evC (cx25 call) n25_2 s = some (.ret, s) := xE
@[simp] theorem n25_1_eq : evC (cx25 call) n25_1 ⟨env, h⟩ = (bnd (mBuildSlice (.int .u8) (u8 0#8) 0 [] h) fun r0 => bnd (mApp (.int .u8) 1 r0.1 (env.get 0) r0.2) fun r2 => bnd (mBuildSlice (.int .u8) (u8 0#8) 1 [(0, (u8 77#8))] r2.2) fun r3 => bnd (mApp (.int .u8) 1 r2.1 r3.1 r3.2) fun r4 => bnd (pureV r4.2 (mLenS (env.get 0))) fun r6 => bnd (pureV r6.2 (mSliceS (.int .u8) r4.1 none (some r6.1) none)) fun r7 => evC (cx25 call) n25_2 ⟨(Env.put env 2 r7.1), r7.2⟩) := (xSR 1 (cOps (cL n25_1)) (cR n25_1)).trans (by
  refine opsK_0 ?_
  refine oP 3 fun r0 => ?_
  refine oT 4 (env.get 0) ?_
  refine oP 5 fun r2 => ?_
  refine oP 6 fun r3 => ?_
  refine oP 7 fun r4 => ?_
  refine oT 8 (env.get 0) ?_
  refine oP 9 fun r6 => ?_
  refine oP 10 fun r7 => ?_
  refine oT 2 r7.1 ?_
  exact oE)
@[simp] theorem n25_0_eq : evC (cx25 call) n25_0 ⟨env, h⟩ = ( evC (cx25 call) n25_1 ⟨(Env.put env 2 .nilslice), h⟩) := (xSR 0 (cOps (cL n25_0)) (cR n25_0)).trans (by
  refine opsK_0 ?_
  refine oT 2 .nilslice ?_
  exact oE)
theorem b25 (call : Calling) (a0 : AV) (h : Heap) : evBody (cx25 call) Try.f25 n25_0 [a0] h = bnd (evC (cx25 call) n25_0 ⟨[(0, a0), (1, .junk), (2, .junk)], h⟩) (retK fun s => bnd (bnd (some (s.env.get 2)) fun v => bnd (some []) fun vs => some (v :: vs)) fun vs => some (oneOrTuple vs)) := by kernel_rfl
theorem fn25 : Try.prog.funcs[25]? = some Try.f25 := by kernel_rfl
theorem k25 : Callable Try.prog 25 := ⟨Try.f25, fn25, by kernel_rfl, by kernel_rfl⟩
theorem s25 {call : Calling} (hc : CallOK Try.prog call) {args : List AV} {h h' : Heap} {v : AV} (he : evBody (cx25 call) Try.f25 n25_0 args h = some (v, h')) : Spec Try.prog 25 args h v h' := body_sound (C := cx25 call) TT_ok hc mixed_ok fn25 (by kernel_rfl) (by kernel_rfl) he
def sn25 := Y n25_2_eq (Y n25_1_eq (n25_0_eq))
end
end Go.Vab

/- How the evaluator reads the functions of a seat. Printed by wip/tools/gen.py (own work). -/
namespace Go.Vab
open Go Go.Proofs
noncomputable section
variable (call : Calling) (env : Env) (h : Heap) (s : St)
/-! vestry/vestrylaw09.kept -/
def cx28 (call : Calling) : Ctx := ⟨call, TT, 22, [5, 6, 7, 8, 9, 10, 11, 12, 13, 14, 15, 16, 17, 18, 19, 20, 21]⟩
def n28_0 : Code := bodyOf Try.f28
def n28_1 : Code := cR n28_0
def n28_2 : Code := cR n28_1
@[simp] theorem n28_2_eq : evC (cx28 call) n28_2 s = some (.ret, s) := xE
@[simp] theorem n28_1_eq : evC (cx28 call) n28_1 ⟨env, h⟩ = (bnd (pureV h (mStr (env.get 0) h)) fun r1 => bnd (pureV r1.2 (mStr (env.get 1) r1.2)) fun r3 => bnd (pureV r3.2 (mBinT .eql r1.1 r3.1)) fun r4 => bnd (gdo r4.1 true (some ((env.get 0), r4.2)) r4.2) fun r6 => bnd (gdo r4.1 true (some ((env.get 1), r6.2)) r6.2) fun r7 => bnd (gdo r4.1 true (pureV r7.2 (mLenS r7.1)) r7.2) fun r8 => bnd (gdo r4.1 true (pureV r8.2 (mBin .add r8.1 (nat 1))) r8.2) fun r9 => bnd (gdo r4.1 true (pureV r9.2 (mSliceS (.int .u8) r6.1 none (some r9.1) none)) r9.2) fun r10 => bnd (gdo r4.1 true (some ((env.get 1), r10.2)) r10.2) fun r11 => bnd (gdo r4.1 true (pureV r11.2 (mLenS r11.1)) r11.2) fun r12 => bnd (gdo r4.1 true (pureV r12.2 (mIdxS (.int .u8) r10.1 r12.1)) r12.2) fun r13 => bnd (gdo r4.1 true (pureV r13.2 (mLoad (.int .u8) r13.1 r13.2)) r13.2) fun r14 => bnd (gdo r4.1 true (pureV r14.2 (mBin .eql r14.1 (u8 77#8))) r14.2) fun r15 => bnd (pureV r15.2 (mPick r4.1 r15.1 (.bool false))) fun r16 => evC (cx28 call) n28_2 ⟨(Env.put env 4 r16.1), r16.2⟩) := (xSR 1 (cOps (cL n28_1)) (cR n28_1)).trans (by
  refine opsK_0 ?_
  refine oT 5 (env.get 0) ?_
  refine oP 6 fun r1 => ?_
  refine oT 7 (env.get 1) ?_
  refine oP 8 fun r3 => ?_
  refine oP 9 fun r4 => ?_
  refine oT 10 r4.1 ?_
  refine oP 11 fun r6 => ?_
  refine oP 12 fun r7 => ?_
  refine oP 13 fun r8 => ?_
  refine oP 14 fun r9 => ?_
  refine oP 15 fun r10 => ?_
  refine oP 16 fun r11 => ?_
  refine oP 17 fun r12 => ?_
  refine oP 18 fun r13 => ?_
  refine oP 19 fun r14 => ?_
  refine oP 20 fun r15 => ?_
  refine oP 21 fun r16 => ?_
  refine oT 4 r16.1 ?_
  exact oE)
@[simp] theorem n28_0_eq : evC (cx28 call) n28_0 ⟨env, h⟩ = ( evC (cx28 call) n28_1 ⟨(Env.put env 4 (.bool false)), h⟩) := (xSR 0 (cOps (cL n28_0)) (cR n28_0)).trans (by
  refine opsK_0 ?_
  refine oT 4 (.bool false) ?_
  exact oE)
theorem b28 (call : Calling) (a0 a1 : AV) (h : Heap) : evBody (cx28 call) Try.f28 n28_0 [a0, a1] h = bnd (evC (cx28 call) n28_0 ⟨[(0, a0), (1, a1), (2, .junk), (3, .junk), (4, .junk)], h⟩) (retK fun s => bnd (bnd (some (s.env.get 4)) fun v => bnd (some []) fun vs => some (v :: vs)) fun vs => some (oneOrTuple vs)) := by kernel_rfl
theorem fn28 : Try.prog.funcs[28]? = some Try.f28 := by kernel_rfl
theorem k28 : Callable Try.prog 28 := ⟨Try.f28, fn28, by kernel_rfl, by kernel_rfl⟩
theorem s28 {call : Calling} (hc : CallOK Try.prog call) {args : List AV} {h h' : Heap} {v : AV} (he : evBody (cx28 call) Try.f28 n28_0 args h = some (v, h')) : Spec Try.prog 28 args h v h' := body_sound (C := cx28 call) TT_ok hc mixed_ok fn28 (by kernel_rfl) (by kernel_rfl) he
def sn28 := Y n28_2_eq (Y n28_1_eq (n28_0_eq))
end
end Go.Vab

/-
  A copy with a byte behind it, and whether it was kept, walked.
-/
namespace Go.Vab
open Go Go.Proofs

@[simp] theorem mSliceS_open (i ver : Nat) (path : List Nat) (off len k : Nat) : mSliceS (.int .u8) (.slice i ver path (.int .u8) off len none) none (some (nat k)) none = if k ≤ ver - off then some (.slice i ver path (.int .u8) off k none) else none := by
  by_cases h : k ≤ ver - off <;> simp [mSliceS, optBound, mBound, h]

def lentF (n : Nat) (g : Nat → BitVec 8) : Nat → BitVec 8 := fun j => if j < n then g j else 77#8
theorem lentF_congr {n : Nat} {g f : Nat → BitVec 8} (h : ∀ i, i < n → g i = f i) : ∀ j, lentF n g j = lentF n f j := fun j => by
  unfold lentF
  split
  · exact h j (by assumption)
  · rfl

theorem walk25 (call : Calling) (h : Heap) (b : AV) (n : Nat) (g : Nat → BitVec 8) (hb : Byt h b n g) (hn : n < 140737488355328) :
    ∃ tr, evBody (cx25 call) Try.f25 n25_0 [b] h = some (.slice (h.length + 1) (n + 1) [] (.int .u8) 0 n none, h ++ tr) ∧ tr[1]? = some ⟨arr (n + 1) (lentF n g), n + 1, .open⟩ := by
  have lb := hb.len
  have eb := hb.elems
  rw [b25]
  have main : Evs (evC (cx25 call) n25_0 ⟨[(0, b), (1, .junk), (2, .junk)], h⟩) (fun r => ∃ env tr, r = (.ret, ⟨env, h ++ tr⟩) ∧ env.get 2 = .slice (h.length + 1) (n + 1) [] (.int .u8) 0 n none ∧ tr[1]? = some ⟨arr (n + 1) (lentF n g), n + 1, .open⟩) := by
    obtain ⟨env, he⟩ : ∃ env : Env, env = [(0, b), (1, .junk), (2, .junk)] := ⟨_, rfl⟩
    rw [← he]
    have g0 : env.get 0 = b := by rw [he]; rfl
    clear he
    repeat (first | (with_reducible refine Evs.assoc ?_) | ((with_reducible refine Evs.some_bnd ?_); try dsimp only [sqK_nrm, sqK_exit, sqK_ret]) | ((with_reducible apply Evs.bcndT); (focus (simp (disch := omega) [g0, lb, eb] <;> omega))) | ((with_reducible apply Evs.bcndF); (focus (simp (disch := omega) [g0, lb, eb] <;> omega))) | ((with_reducible apply Evs.step); (focus ((conv => lhs; simp (disch := omega) [g0, lb, eb]); done)); try dsimp only) | (simp only [sn25, snB]))
    refine Evs.ret ⟨_, _, rfl, by simp, ?_⟩
    simp only [List.getElem?_cons_succ, List.getElem?_cons_zero]
    refine congrArg some (congrArg (fun v => Blk.mk v (n + 1) .open) (arr_congr fun i hi => ?_))
    unfold lentF
    by_cases hlt : i < n
    · simp [hlt]
    · simp [hlt, show i - n = 0 by omega]
  obtain ⟨r, hr, env, tr, rfl, e0, e1⟩ := main
  refine ⟨tr, ?_, e1⟩
  rw [hr]
  simp [e0, oneOrTuple]

noncomputable def c25 := conC (fun x : (AV) × (Nat) × (Nat → BitVec 8) => [x.1]) (fun (x : (AV) × (Nat) × (Nat → BitVec 8)) h => Byt h x.1 x.2.1 x.2.2 ∧ x.2.1 < 140737488355328) (fun (x : (AV) × (Nat) × (Nat → BitVec 8)) h => (.slice h.length (x.2.1 + 1) [] (.int .u8) 0 x.2.1 none, h ++ [(⟨arr (x.2.1 + 1) (lentF x.2.1 x.2.2), x.2.1 + 1, .open⟩ : Blk)]))
noncomputable def callS25 : Calling := addC callS24 25 c25
theorem c25_eq (b : AV) (n : Nat) (g : Nat → BitVec 8) (h : Heap) (hc : Byt h b n g ∧ n < 140737488355328) : c25 [b] h = some (.slice h.length (n + 1) [] (.int .u8) 0 n none, h ++ [(⟨arr (n + 1) (lentF n g), n + 1, .open⟩ : Blk)]) :=
  conC_eqP (enc := fun x : (AV) × (Nat) × (Nat → BitVec 8) => [x.1]) (P := fun (x : (AV) × (Nat) × (Nat → BitVec 8)) h => Byt h x.1 x.2.1 x.2.2 ∧ x.2.1 < 140737488355328) (a := (b, n, g)) (f := fun (x : (AV) × (Nat) × (Nat → BitVec 8)) h => (.slice h.length (x.2.1 + 1) [] (.int .u8) 0 x.2.1 none, h ++ [(⟨arr (x.2.1 + 1) (lentF x.2.1 x.2.2), x.2.1 + 1, .open⟩ : Blk)])) (fun x y h hp hq e => by
    have e3 := (List.cons.inj e).1
    rw [e3] at hp
    obtain ⟨e4, e5⟩ := hp.1.det hq.1
    rw [← e4, arr_congr fun i _ => lentF_congr e5 i]
    ) hc
theorem callS25_ok : CallOK Try.prog callS25 := addC_con callS24_ok k25 fun x h hx => by
  obtain ⟨t, ht, h1⟩ := walk25 callS24 h _ _ _ hx.1 hx.2
  exact (s25 callS24_ok ht).pull t 1 _ h1 ⟨_, _, rfl⟩
@[simp] theorem callS25_ne {f : Nat} (args : List AV) (h : Heap) (hf : f ≠ 25) : callS25 f args h = callS24 f args h := addC_ne _ _ _ args h hf
@[simp] theorem callS25_sne {f : Nat} (args : List AV) (h : Heap) (hf : f ≠ 25) : still callS25 f args h = still callS24 f args h := still_ne _ _ _ args h hf
theorem callS25_25 (b : AV) (n : Nat) (g : Nat → BitVec 8) (h : Heap) (hc : Byt h b n g ∧ n < 140737488355328) : callS25 25 [b] h = some (.slice h.length (n + 1) [] (.int .u8) 0 n none, h ++ [(⟨arr (n + 1) (lentF n g), n + 1, .open⟩ : Blk)]) := by
  unfold callS25; rw [addC_same]; exact c25_eq b n g h hc

/-- A copy that was kept. -/
def Kept (h : Heap) (i ver n : Nat) (y : AV) : Prop := ∃ m md g, blkAt h i ver = some ⟨arr m (lentF n g), ver, md⟩ ∧ n < m ∧ n < ver ∧ n < 140737488355328 ∧ Byt h y n g
theorem Kept.app {h : Heap} {i ver n : Nat} {y : AV} (hk : Kept h i ver n y) (t : Heap) : Kept (h ++ t) i ver n y := by
  obtain ⟨m, md, g, h1, h2, h3, h4, h5⟩ := hk
  exact ⟨m, md, g, blkAt_app h1 t, h2, h3, h4, h5.app t⟩

theorem walk28 (call : Calling) (h : Heap) (i ver n : Nat) (y : AV) (hk : Kept h i ver n y) : evBody (cx28 call) Try.f28 n28_0 [.slice i ver [] (.int .u8) 0 n none, y] h = some (.bool true, h) := by
  obtain ⟨m, md, g, h1, h2, h3, h4, h5⟩ := hk
  have ly := h5.len
  have sy := h5.str
  have sx : strOf n (lentF n g) = strOf n g := strOf_congr fun j hj => by unfold lentF; rw [if_pos hj]
  have e77 : lentF n g n = 77#8 := by unfold lentF; rw [if_neg (Nat.lt_irrefl _)]
  rw [b28]
  have main : Evs (evC (cx28 call) n28_0 ⟨[(0, .slice i ver [] (.int .u8) 0 n none), (1, y), (2, .junk), (3, .junk), (4, .junk)], h⟩) (fun r => ∃ env, r = (.ret, ⟨env, h⟩) ∧ env.get 4 = .bool true) := by
    obtain ⟨env, he⟩ : ∃ env : Env, env = [(0, .slice i ver [] (.int .u8) 0 n none), (1, y), (2, .junk), (3, .junk), (4, .junk)] := ⟨_, rfl⟩
    rw [← he]
    have g0 : env.get 0 = .slice i ver [] (.int .u8) 0 n none := by rw [he]; rfl
    have g1 : env.get 1 = y := by rw [he]; rfl
    clear he
    repeat (first | (with_reducible refine Evs.assoc ?_) | ((with_reducible refine Evs.some_bnd ?_); try dsimp only [sqK_nrm, sqK_exit, sqK_ret]) | ((with_reducible apply Evs.bcndT); (focus (simp (disch := omega) [g0, g1, ly, sy, sx, h1, e77] <;> omega))) | ((with_reducible apply Evs.bcndF); (focus (simp (disch := omega) [g0, g1, ly, sy, sx, h1, e77] <;> omega))) | ((with_reducible apply Evs.step); (focus ((conv => lhs; simp (disch := omega) [g0, g1, ly, sy, sx, h1, e77]); done)); try dsimp only) | (simp only [sn28, snB]))
    exact Evs.ret ⟨_, rfl, by simp⟩
  obtain ⟨r, hr, env, rfl, e0⟩ := main
  rw [hr]
  simp [e0, oneOrTuple]

noncomputable def c28 := conC (fun x : (Nat) × (Nat) × (Nat) × (AV) => [.slice x.1 x.2.1 [] (.int .u8) 0 x.2.2.1 none, x.2.2.2]) (fun (x : (Nat) × (Nat) × (Nat) × (AV)) h => Kept h x.1 x.2.1 x.2.2.1 x.2.2.2) (fun (x : (Nat) × (Nat) × (Nat) × (AV)) h => (.bool true, h))
noncomputable def callS26 : Calling := addC callS25 28 c28
theorem c28_eq (i : Nat) (ver : Nat) (n : Nat) (y : AV) (h : Heap) (hc : Kept h i ver n y) : c28 [.slice i ver [] (.int .u8) 0 n none, y] h = some (.bool true, h) :=
  conC_eqP (enc := fun x : (Nat) × (Nat) × (Nat) × (AV) => [.slice x.1 x.2.1 [] (.int .u8) 0 x.2.2.1 none, x.2.2.2]) (P := fun (x : (Nat) × (Nat) × (Nat) × (AV)) h => Kept h x.1 x.2.1 x.2.2.1 x.2.2.2) (a := (i, ver, n, y)) (f := fun (x : (Nat) × (Nat) × (Nat) × (AV)) h => (.bool true, h)) (fun x y h hp hq e => by
    rfl
    ) hc
theorem callS26_ok : CallOK Try.prog callS26 := addC_con callS25_ok k28 fun x h hx => by
  have := s28 callS25_ok (walk28 callS25 h _ _ _ _ hx)
  exact this
@[simp] theorem callS26_ne {f : Nat} (args : List AV) (h : Heap) (hf : f ≠ 28) : callS26 f args h = callS25 f args h := addC_ne _ _ _ args h hf
@[simp] theorem callS26_sne {f : Nat} (args : List AV) (h : Heap) (hf : f ≠ 28) : still callS26 f args h = still callS25 f args h := still_ne _ _ _ args h hf
theorem callS26_28 (i : Nat) (ver : Nat) (n : Nat) (y : AV) (h : Heap) (hc : Kept h i ver n y) : callS26 28 [.slice i ver [] (.int .u8) 0 n none, y] h = some (.bool true, h) := by
  unfold callS26; rw [addC_same]; exact c28_eq i ver n y h hc
theorem callS26_28s (i : Nat) (ver : Nat) (n : Nat) (y : AV) (h : Heap) (hc : Kept h i ver n y) : still callS26 28 [.slice i ver [] (.int .u8) 0 n none, y] h = some (.bool true, h) := still_of fun tt => callS26_28 i ver n y (h ++ tt) (hc.app tt)

end Go.Vab

/- How the evaluator reads the functions of a seat. Printed by wip/tools/gen.py (own work). -/
namespace Go.Vab
open Go Go.Proofs
noncomputable section
variable (call : Calling) (env : Env) (h : Heap) (s : St)
/-! vestry/vestrylaw09.few -/
def cx23 (call : Calling) : Ctx := ⟨call, TT, 11, [3, 4, 5, 6, 7, 8, 9, 10]⟩
def n23_0 : Code := bodyOf Try.f23
def n23_1 : Code := cR n23_0
def n23_2 : Code := cR n23_1
@[simp] theorem n23_2_eq : evC (cx23 call) n23_2 s = some (.ret, s) := xE
@[simp] theorem n23_1_eq : evC (cx23 call) n23_1 ⟨env, h⟩ = (bnd (pureV h (mLenS (env.get 0))) fun r1 => bnd (pureV r1.2 (mBin .leq r1.1 (nat 300))) fun r2 => bnd (gdo r2.1 false (some ((env.get 0), r2.2)) r2.2) fun r4 => bnd (gdo r2.1 false (pureV r4.2 (mLenS r4.1)) r4.2) fun r5 => bnd (gdo r2.1 false (pureV r5.2 (mBin .gtr r5.1 (nat 65552))) r5.2) fun r6 => bnd (pureV r6.2 (mPick r2.1 (.bool true) r6.1)) fun r7 => evC (cx23 call) n23_2 ⟨(Env.put env 2 r7.1), r7.2⟩) := (xSR 1 (cOps (cL n23_1)) (cR n23_1)).trans (by
  refine opsK_0 ?_
  refine oT 3 (env.get 0) ?_
  refine oP 4 fun r1 => ?_
  refine oP 5 fun r2 => ?_
  refine oT 6 r2.1 ?_
  refine oP 7 fun r4 => ?_
  refine oP 8 fun r5 => ?_
  refine oP 9 fun r6 => ?_
  refine oP 10 fun r7 => ?_
  refine oT 2 r7.1 ?_
  exact oE)
@[simp] theorem n23_0_eq : evC (cx23 call) n23_0 ⟨env, h⟩ = ( evC (cx23 call) n23_1 ⟨(Env.put env 2 (.bool false)), h⟩) := (xSR 0 (cOps (cL n23_0)) (cR n23_0)).trans (by
  refine opsK_0 ?_
  refine oT 2 (.bool false) ?_
  exact oE)
theorem b23 (call : Calling) (a0 : AV) (h : Heap) : evBody (cx23 call) Try.f23 n23_0 [a0] h = bnd (evC (cx23 call) n23_0 ⟨[(0, a0), (1, .junk), (2, .junk)], h⟩) (retK fun s => bnd (bnd (some (s.env.get 2)) fun v => bnd (some []) fun vs => some (v :: vs)) fun vs => some (oneOrTuple vs)) := by kernel_rfl
theorem fn23 : Try.prog.funcs[23]? = some Try.f23 := by kernel_rfl
theorem k23 : Callable Try.prog 23 := ⟨Try.f23, fn23, by kernel_rfl, by kernel_rfl⟩
theorem s23 {call : Calling} (hc : CallOK Try.prog call) {args : List AV} {h h' : Heap} {v : AV} (he : evBody (cx23 call) Try.f23 n23_0 args h = some (v, h')) : Spec Try.prog 23 args h v h' := body_sound (C := cx23 call) TT_ok hc mixed_ok fn23 (by kernel_rfl) (by kernel_rfl) he
def sn23 := Y n23_2_eq (Y n23_1_eq (n23_0_eq))
end
end Go.Vab

/-
  The laws' helpers over the whole table.
-/
namespace Go.Vab
open Go Go.Proofs

noncomputable def callS33 : Calling := addC callS32 25 c25
theorem callS33_ok : CallOK Try.prog callS33 := addC_con callS32_ok k25 fun x h hx => by
  obtain ⟨t, ht, h1⟩ := walk25 callS32 h _ _ _ hx.1 hx.2
  exact (s25 callS32_ok ht).pull t 1 _ h1 ⟨_, _, rfl⟩
@[simp] theorem callS33_ne {f : Nat} (args : List AV) (h : Heap) (hf : f ≠ 25) : callS33 f args h = callS32 f args h := addC_ne _ _ _ args h hf
@[simp] theorem callS33_sne {f : Nat} (args : List AV) (h : Heap) (hf : f ≠ 25) : still callS33 f args h = still callS32 f args h := still_ne _ _ _ args h hf
theorem callS33_25 (b : AV) (n : Nat) (g : Nat → BitVec 8) (h : Heap) (hc : Byt h b n g ∧ n < 140737488355328) : callS33 25 [b] h = some (.slice h.length (n + 1) [] (.int .u8) 0 n none, h ++ [⟨arr (n + 1) (lentF n g), n + 1, .open⟩]) := by
  unfold callS33; rw [addC_same]; exact c25_eq b n g h hc
noncomputable def callS34 : Calling := addC callS33 28 c28
theorem callS34_ok : CallOK Try.prog callS34 := addC_con callS33_ok k28 fun x h hx => s28 callS33_ok (walk28 callS33 h _ _ _ _ hx)
@[simp] theorem callS34_ne {f : Nat} (args : List AV) (h : Heap) (hf : f ≠ 28) : callS34 f args h = callS33 f args h := addC_ne _ _ _ args h hf
@[simp] theorem callS34_sne {f : Nat} (args : List AV) (h : Heap) (hf : f ≠ 28) : still callS34 f args h = still callS33 f args h := still_ne _ _ _ args h hf
theorem callS34_28 (i ver n : Nat) (y : AV) (h : Heap) (hc : Kept h i ver n y) : callS34 28 [.slice i ver [] (.int .u8) 0 n none, y] h = some (.bool true, h) := by
  unfold callS34; rw [addC_same]; exact c28_eq i ver n y h hc

def fewB (n : Nat) : Bool := decide (n ≤ 300) || decide (65552 < n)
theorem walk23 (call : Calling) (h : Heap) (b : AV) (n : Nat) (g : Nat → BitVec 8) (hb : Byt h b n g) : evBody (cx23 call) Try.f23 n23_0 [b] h = some (.bool (fewB n), h) := by
  have lb := hb.len
  rw [b23]
  have main : Evs (evC (cx23 call) n23_0 ⟨[(0, b), (1, .junk), (2, .junk)], h⟩) (fun r => ∃ env, r = (.ret, ⟨env, h⟩) ∧ env.get 2 = .bool (fewB n)) := by
    obtain ⟨env, he⟩ : ∃ env : Env, env = [(0, b), (1, .junk), (2, .junk)] := ⟨_, rfl⟩
    rw [← he]
    have g0 : env.get 0 = b := by rw [he]; rfl
    clear he
    by_cases h1 : n ≤ 300
    · repeat (first | (with_reducible refine Evs.assoc ?_) | ((with_reducible refine Evs.some_bnd ?_); try dsimp only [sqK_nrm, sqK_exit, sqK_ret]) | ((with_reducible apply Evs.bcndT); (focus (simp (disch := omega) [g0, lb, h1] <;> omega))) | ((with_reducible apply Evs.bcndF); (focus (simp (disch := omega) [g0, lb, h1] <;> omega))) | ((with_reducible apply Evs.step); (focus ((conv => lhs; simp (disch := omega) [g0, lb, h1]); done)); try dsimp only) | (simp only [sn23, snB]))
      exact Evs.ret ⟨_, rfl, by simp [fewB, h1]⟩
    · repeat (first | (with_reducible refine Evs.assoc ?_) | ((with_reducible refine Evs.some_bnd ?_); try dsimp only [sqK_nrm, sqK_exit, sqK_ret]) | ((with_reducible apply Evs.bcndT); (focus (simp (disch := omega) [g0, lb, h1] <;> omega))) | ((with_reducible apply Evs.bcndF); (focus (simp (disch := omega) [g0, lb, h1] <;> omega))) | ((with_reducible apply Evs.step); (focus ((conv => lhs; simp (disch := omega) [g0, lb, h1]); done)); try dsimp only) | (simp only [sn23, snB]))
      exact Evs.ret ⟨_, rfl, by simp [fewB, h1]⟩
  obtain ⟨r, hr, env, rfl, e0⟩ := main
  rw [hr]
  simp [e0, oneOrTuple]

noncomputable def c23 := conC (fun x : (AV) × (Nat) × (Nat → BitVec 8) => [x.1]) (fun (x : (AV) × (Nat) × (Nat → BitVec 8)) h => Byt h x.1 x.2.1 x.2.2) (fun (x : (AV) × (Nat) × (Nat → BitVec 8)) h => (.bool (fewB x.2.1), h))
noncomputable def callS35 : Calling := addC callS34 23 c23
theorem c23_eq (b : AV) (n : Nat) (g : Nat → BitVec 8) (h : Heap) (hc : Byt h b n g) : c23 [b] h = some (.bool (fewB n), h) :=
  conC_eqP (enc := fun x : (AV) × (Nat) × (Nat → BitVec 8) => [x.1]) (P := fun (x : (AV) × (Nat) × (Nat → BitVec 8)) h => Byt h x.1 x.2.1 x.2.2) (a := (b, n, g)) (f := fun (x : (AV) × (Nat) × (Nat → BitVec 8)) h => (.bool (fewB x.2.1), h)) (fun x y h hp hq e => by
    have e3 := (List.cons.inj e).1
    rw [e3] at hp
    rw [(hp.det hq).1]
    ) hc
theorem callS35_ok : CallOK Try.prog callS35 := addC_con callS34_ok k23 fun x h hx => by
  exact s23 callS34_ok (walk23 callS34 h _ _ _ hx)
@[simp] theorem callS35_ne {f : Nat} (args : List AV) (h : Heap) (hf : f ≠ 23) : callS35 f args h = callS34 f args h := addC_ne _ _ _ args h hf
@[simp] theorem callS35_sne {f : Nat} (args : List AV) (h : Heap) (hf : f ≠ 23) : still callS35 f args h = still callS34 f args h := still_ne _ _ _ args h hf
theorem callS35_23 (b : AV) (n : Nat) (g : Nat → BitVec 8) (h : Heap) (hc : Byt h b n g) : callS35 23 [b] h = some (.bool (fewB n), h) := by
  unfold callS35; rw [addC_same]; exact c23_eq b n g h hc
theorem callS35_23s (b : AV) (n : Nat) (g : Nat → BitVec 8) (h : Heap) (hc : Byt h b n g) : still callS35 23 [b] h = some (.bool (fewB n), h) := still_of fun tt => callS35_23 b n g (h ++ tt) (hc.app tt)

@[simp] theorem mStr_nil (h : Heap) : mStr .nilslice h = some (.str (strOf 0 zF)) := (Byt.nil h zF).str
theorem own_lent {h l : Heap} {i n : Nat} {g : Nat → BitVec 8} (hi : l[i]? = some ⟨arr (n + 1) (lentF n g), n + 1, .open⟩) : Byt (h ++ l) (.slice (h.length + i) (n + 1) [] (.int .u8) 0 n none) n g :=
  (Byt.grown (b := ⟨arr (n + 1) (lentF n g), n + 1, .open⟩) (m := n + 1) (by rw [blkAt_new]; exact at_blk hi) rfl (by omega) (by omega)).congr fun j hj => by unfold lentF; rw [if_pos hj]
theorem kept_lent {h l : Heap} {i n : Nat} {g : Nat → BitVec 8} {y : AV} (hi : l[i]? = some ⟨arr (n + 1) (lentF n g), n + 1, .open⟩) (hn : n < 140737488355328) (hy : Byt h y n g) : callS34 28 [.slice (h.length + i) (n + 1) [] (.int .u8) 0 n none, y] (h ++ l) = some (.bool true, h ++ l) :=
  callS34_28 _ _ n y (h ++ l) ⟨n + 1, .open, g, by rw [blkAt_new]; exact at_blk hi, by omega, by omega, hn, hy.app l⟩

end Go.Vab

/- How the evaluator reads the functions of a seat. Printed by wip/tools/gen.py (own work). -/
namespace Go.Vab
open Go Go.Proofs
noncomputable section
variable (call : Calling) (env : Env) (h : Heap) (s : St)
/-! vestry/vestrylaw09.SivOpens -/
def cx9 (call : Calling) : Ctx := ⟨call, TT, 67, [15, 16, 17, 18, 19, 20, 21, 23, 24, 25, 26, 27, 28, 29, 30, 31, 32, 33, 34, 35, 36, 37, 38, 39, 40, 41, 42, 43, 44, 45, 46, 47, 48, 49, 50, 51, 52, 53, 54, 55, 56, 57, 58, 59, 60, 61, 62, 63, 64, 65, 66]⟩
def n9_0 : Code := bodyOf Try.f9
def n9_1 : Code := cR n9_0
def n9_2 : Code := cL n9_1
def n9_3 : Code := cR n9_2
def n9_4 : Code := cL n9_3
def n9_5 : Code := cR n9_4
def n9_6 : Code := cR n9_3
def n9_7 : Code := cR n9_1
def n9_8 : Code := cR n9_7
def n9_9 : Code := cR n9_8
def n9_10 : Code := cR n9_9
def n9_11 : Code := cR n9_10
@[simp] theorem n9_5_eq : evC (cx9 call) n9_5 s = some (.ret, s) := xE
@[simp] theorem n9_4_eq : evC (cx9 call) n9_4 ⟨env, h⟩ = (bnd (call 24 [] h) fun r0 => evC (cx9 call) n9_5 ⟨(Env.put env 8 r0.1), r0.2⟩) := (xSR 2 (cOps (cL n9_4)) (cR n9_4)).trans (by
  refine opsK_0 ?_
  refine oP 23 fun r0 => ?_
  refine oT 8 r0.1 ?_
  exact oE)
@[simp] theorem n9_6_eq : evC (cx9 call) n9_6 s = some (.nrm, s) := xK
@[simp] theorem n9_3_eq : evC (cx9 call) n9_3 s = cnd (s.env.get 22) (evC (cx9 call) n9_4 s) (evC (cx9 call) n9_6 s) := xC 22 _ _
@[simp] theorem n9_2_eq : evC (cx9 call) n9_2 ⟨env, h⟩ = (bnd (call 23 [(env.get 2)] h) fun r1 => bnd (pureV r1.2 (mUn .not r1.1)) fun r2 => bnd (gdo r2.1 false (some ((env.get 3), r2.2)) r2.2) fun r4 => bnd (gdo r2.1 false (call 23 [r4.1] r4.2) r4.2) fun r5 => bnd (gdo r2.1 false (pureV r5.2 (mUn .not r5.1)) r5.2) fun r6 => bnd (pureV r6.2 (mPick r2.1 (.bool true) r6.1)) fun r7 => evC (cx9 call) n9_3 ⟨(Env.put env 22 r7.1), r7.2⟩) := (xSR 1 (cOps (cL n9_2)) (cR n9_2)).trans (by
  refine opsK_0 ?_
  refine oT 15 (env.get 2) ?_
  refine oP 16 fun r1 => ?_
  refine oP 17 fun r2 => ?_
  refine oT 18 r2.1 ?_
  refine oP 19 fun r4 => ?_
  refine oP 20 fun r5 => ?_
  refine oP 21 fun r6 => ?_
  refine oP 22 fun r7 => ?_
  exact oE)
@[simp] theorem n9_11_eq : evC (cx9 call) n9_11 s = some (.ret, s) := xE
@[simp] theorem n9_10_eq : evC (cx9 call) n9_10 ⟨env, h⟩ = (bnd (call 28 [(env.get 9), (env.get 2)] h) fun r2 => bnd (gdo r2.1 true (some ((env.get 10), r2.2)) r2.2) fun r4 => bnd (gdo r2.1 true (some ((env.get 3), r4.2)) r4.2) fun r5 => bnd (gdo r2.1 true (call 28 [r4.1, r5.1] r5.2) r5.2) fun r6 => bnd (pureV r6.2 (mPick r2.1 r6.1 (.bool false))) fun r7 => bnd (gdo r7.1 true (some ((env.get 11), r7.2)) r7.2) fun r9 => bnd (gdo r7.1 true (pureV r9.2 (mStr r9.1 r9.2)) r9.2) fun r10 => bnd (gdo r7.1 true (some ((env.get 13), r10.2)) r10.2) fun r11 => bnd (gdo r7.1 true (pureV r11.2 (mStr r11.1 r11.2)) r11.2) fun r12 => bnd (gdo r7.1 true (pureV r12.2 (mBinT .eql r10.1 r12.1)) r12.2) fun r13 => bnd (pureV r13.2 (mPick r7.1 r13.1 (.bool false))) fun r14 => bnd (gdo r14.1 true (some ((env.get 12), r14.2)) r14.2) fun r16 => bnd (gdo r14.1 true (some ((env.get 14), r16.2)) r16.2) fun r17 => bnd (gdo r14.1 true (pureV r17.2 (mBin .eql r16.1 r17.1)) r17.2) fun r18 => bnd (pureV r18.2 (mPick r14.1 r18.1 (.bool false))) fun r19 => bnd (gdo r19.1 true (call 24 [] r19.2) r19.2) fun r21 => bnd (pureV r21.2 (mPick r19.1 r21.1 (.bool false))) fun r22 => evC (cx9 call) n9_11 ⟨(Env.put env 8 r22.1), r22.2⟩) := (xSR 6 (cOps (cL n9_10)) (cR n9_10)).trans (by
  refine opsK_0 ?_
  refine oT 44 (env.get 9) ?_
  refine oT 45 (env.get 2) ?_
  refine oP 46 fun r2 => ?_
  refine oT 47 r2.1 ?_
  refine oP 48 fun r4 => ?_
  refine oP 49 fun r5 => ?_
  refine oP 50 fun r6 => ?_
  refine oP 51 fun r7 => ?_
  refine oT 52 r7.1 ?_
  refine oP 53 fun r9 => ?_
  refine oP 54 fun r10 => ?_
  refine oP 55 fun r11 => ?_
  refine oP 56 fun r12 => ?_
  refine oP 57 fun r13 => ?_
  refine oP 58 fun r14 => ?_
  refine oT 59 r14.1 ?_
  refine oP 60 fun r16 => ?_
  refine oP 61 fun r17 => ?_
  refine oP 62 fun r18 => ?_
  refine oP 63 fun r19 => ?_
  refine oT 64 r19.1 ?_
  refine oP 65 fun r21 => ?_
  refine oP 66 fun r22 => ?_
  refine oT 8 r22.1 ?_
  exact oE)
@[simp] theorem n9_9_eq : evC (cx9 call) n9_9 ⟨env, h⟩ = (bnd (pureV h (mLoad (.arr 32 (.int .u8)) (env.get 4) h)) fun r0 => bnd (pureV r0.2 (mLoad (.arr 12 (.int .u8)) (env.get 5) r0.2)) fun r1 => bnd (call 30 [r0.1, r1.1, (env.get 2), (env.get 3)] r1.2) fun r4 => bnd (pureV r4.2 (mExtract r4.1 0)) fun r6 => bnd (pureV r6.2 (mExtract r4.1 1)) fun r7 => evC (cx9 call) n9_10 ⟨(Env.put (Env.put env 13 r6.1) 14 r7.1), r7.2⟩) := (xSR 5 (cOps (cL n9_9)) (cR n9_9)).trans (by
  refine opsK_0 ?_
  refine oP 37 fun r0 => ?_
  refine oP 38 fun r1 => ?_
  refine oT 39 (env.get 2) ?_
  refine oT 40 (env.get 3) ?_
  refine oP 41 fun r4 => ?_
  refine oT 36 r4.1 ?_
  refine oP 42 fun r6 => ?_
  refine oP 43 fun r7 => ?_
  refine oT 13 r6.1 ?_
  refine oT 14 r7.1 ?_
  exact oE)
@[simp] theorem n9_8_eq : evC (cx9 call) n9_8 ⟨env, h⟩ = (bnd (pureV h (mLoad (.arr 32 (.int .u8)) (env.get 4) h)) fun r0 => bnd (pureV r0.2 (mLoad (.arr 12 (.int .u8)) (env.get 5) r0.2)) fun r1 => bnd (call 29 [r0.1, r1.1, (env.get 9), (env.get 10)] r1.2) fun r4 => bnd (pureV r4.2 (mExtract r4.1 0)) fun r6 => bnd (pureV r6.2 (mExtract r4.1 1)) fun r7 => evC (cx9 call) n9_9 ⟨(Env.put (Env.put env 11 r6.1) 12 r7.1), r7.2⟩) := (xSR 4 (cOps (cL n9_8)) (cR n9_8)).trans (by
  refine opsK_0 ?_
  refine oP 29 fun r0 => ?_
  refine oP 30 fun r1 => ?_
  refine oT 31 (env.get 9) ?_
  refine oT 32 (env.get 10) ?_
  refine oP 33 fun r4 => ?_
  refine oT 28 r4.1 ?_
  refine oP 34 fun r6 => ?_
  refine oP 35 fun r7 => ?_
  refine oT 11 r6.1 ?_
  refine oT 12 r7.1 ?_
  exact oE)
@[simp] theorem n9_7_eq : evC (cx9 call) n9_7 ⟨env, h⟩ = (bnd (call 25 [(env.get 2)] h) fun r1 => bnd (call 25 [(env.get 3)] r1.2) fun r3 => evC (cx9 call) n9_8 ⟨(Env.put (Env.put env 9 r1.1) 10 r3.1), r3.2⟩) := (xSR 3 (cOps (cL n9_7)) (cR n9_7)).trans (by
  refine opsK_0 ?_
  refine oT 24 (env.get 2) ?_
  refine oP 25 fun r1 => ?_
  refine oT 26 (env.get 3) ?_
  refine oP 27 fun r3 => ?_
  refine oT 9 r1.1 ?_
  refine oT 10 r3.1 ?_
  exact oE)
@[simp] theorem n9_1_eq : evC (cx9 call) n9_1 s = bnd (evC (cx9 call) n9_2 s) (sqK (evC (cx9 call) n9_7)) := xS _ _
@[simp] theorem n9_0_eq : evC (cx9 call) n9_0 ⟨env, h⟩ = (bnd (mNew (.arr 32 (.int .u8)) (env.get 0) h) fun r0 => bnd (mNew (.arr 12 (.int .u8)) (env.get 1) r0.2) fun r1 => evC (cx9 call) n9_1 ⟨(Env.put (Env.put (Env.put env 4 r0.1) 5 r1.1) 8 (.bool false)), r1.2⟩) := (xSR 0 (cOps (cL n9_0)) (cR n9_0)).trans (by
  refine opsK_0 ?_
  refine oP 4 fun r0 => ?_
  refine oP 5 fun r1 => ?_
  refine oT 8 (.bool false) ?_
  exact oE)
theorem b9 (call : Calling) (a0 a1 a2 a3 : AV) (h : Heap) : evBody (cx9 call) Try.f9 n9_0 [a0, a1, a2, a3] h = bnd (evC (cx9 call) n9_0 ⟨[(0, a0), (1, a1), (2, a2), (3, a3), (4, .junk), (5, .junk), (6, .junk), (7, .junk), (8, .junk), (9, .junk), (10, .junk), (11, .junk), (12, .junk), (13, .junk), (14, .junk), (22, .junk)], h⟩) (retK fun s => bnd (bnd (some (s.env.get 8)) fun v => bnd (some []) fun vs => some (v :: vs)) fun vs => some (oneOrTuple vs)) := by kernel_rfl
theorem fn9 : Try.prog.funcs[9]? = some Try.f9 := by kernel_rfl
theorem k9 : Callable Try.prog 9 := ⟨Try.f9, fn9, by kernel_rfl, by kernel_rfl⟩
theorem s9 {call : Calling} (hc : CallOK Try.prog call) {args : List AV} {h h' : Heap} {v : AV} (he : evBody (cx9 call) Try.f9 n9_0 args h = some (v, h')) : Spec Try.prog 9 args h v h' := body_sound (C := cx9 call) TT_ok hc mixed_ok fn9 (by kernel_rfl) (by kernel_rfl) he
def sn9 := Y n9_5_eq (Y n9_4_eq (Y n9_6_eq (Y n9_3_eq (Y n9_2_eq (Y n9_11_eq (Y n9_10_eq (Y n9_9_eq (Y n9_8_eq (Y n9_7_eq (Y n9_1_eq (n9_0_eq)))))))))))
end
end Go.Vab

/-
  The law SivOpens, walked.
-/
namespace Go.Vab
open Go Go.Proofs

theorem walk9 (h : Heap) (key nonce : Nat → BitVec 8) (xa xt : AV) (na nt : Nat) (a t : Nat → BitVec 8) (ha : Byt h xa na a) (ht : Byt h xt nt t) (hna : na < 140737488355328) (hnt : nt < 140737488355328) :
    ∃ tr, evBody (cx9 callS35) Try.f9 n9_0 [arr 32 key, arr 12 nonce, xa, xt] h = some (.bool true, h ++ tr) := by
  have k23a : ∀ l, callS35 23 [xa] (h ++ l) = some (.bool (fewB na), h ++ l) := fun l => callS35_23 xa na a (h ++ l) (ha.app l)
  have k23t : ∀ l, callS35 23 [xt] (h ++ l) = some (.bool (fewB nt), h ++ l) := fun l => callS35_23 xt nt t (h ++ l) (ht.app l)
  have un : ∀ b, mUn .not (.bool b) = some (.bool !b) := fun _ => rfl
  rw [b9]
  have main : Evs (evC (cx9 callS35) n9_0 ⟨[(0, arr 32 key), (1, arr 12 nonce), (2, xa), (3, xt), (4, .junk), (5, .junk), (6, .junk), (7, .junk), (8, .junk), (9, .junk), (10, .junk), (11, .junk), (12, .junk), (13, .junk), (14, .junk), (22, .junk)], h⟩) (fun r => ∃ env tr, r = (.ret, ⟨env, h ++ tr⟩) ∧ env.get 8 = .bool true) := by
    obtain ⟨env, he⟩ : ∃ env : Env, env = [(0, arr 32 key), (1, arr 12 nonce), (2, xa), (3, xt), (4, .junk), (5, .junk), (6, .junk), (7, .junk), (8, .junk), (9, .junk), (10, .junk), (11, .junk), (12, .junk), (13, .junk), (14, .junk), (22, .junk)] := ⟨_, rfl⟩
    rw [← he]
    have g0 : env.get 0 = arr 32 key := by rw [he]; rfl
    have g1 : env.get 1 = arr 12 nonce := by rw [he]; rfl
    have g2 : env.get 2 = xa := by rw [he]; rfl
    have g3 : env.get 3 = xt := by rw [he]; rfl
    clear he
    cases fa : fewB na
    · repeat (first | (with_reducible refine Evs.assoc ?_) | ((with_reducible refine Evs.some_bnd ?_); try dsimp only [sqK_nrm, sqK_exit, sqK_ret]) | ((with_reducible apply Evs.bcndT); (focus (simp (disch := omega) [g0, g1, g2, g3, k23a, k23t, un, fa] <;> omega))) | ((with_reducible apply Evs.bcndF); (focus (simp (disch := omega) [g0, g1, g2, g3, k23a, k23t, un, fa] <;> omega))) | ((with_reducible apply Evs.step); (focus ((conv => lhs; simp (disch := omega) [g0, g1, g2, g3, k23a, k23t, un, fa]); done)); try dsimp only) | (simp only [sn9, snB]))
      exact Evs.ret ⟨_, _, rfl, by simp⟩
    cases ft : fewB nt
    · repeat (first | (with_reducible refine Evs.assoc ?_) | ((with_reducible refine Evs.some_bnd ?_); try dsimp only [sqK_nrm, sqK_exit, sqK_ret]) | ((with_reducible apply Evs.bcndT); (focus (simp (disch := omega) [g0, g1, g2, g3, k23a, k23t, un, fa, ft] <;> omega))) | ((with_reducible apply Evs.bcndF); (focus (simp (disch := omega) [g0, g1, g2, g3, k23a, k23t, un, fa, ft] <;> omega))) | ((with_reducible apply Evs.step); (focus ((conv => lhs; simp (disch := omega) [g0, g1, g2, g3, k23a, k23t, un, fa, ft]); done)); try dsimp only) | (simp only [sn9, snB]))
      exact Evs.ret ⟨_, _, rfl, by simp⟩
    have k25a : ∀ l, callS33 25 [xa] (h ++ l) = some (.slice (h ++ l).length (na + 1) [] (.int .u8) 0 na none, h ++ l ++ [⟨arr (na + 1) (lentF na a), na + 1, .open⟩]) := fun l => callS33_25 xa na a (h ++ l) ⟨ha.app l, hna⟩
    have k25t : ∀ l, callS33 25 [xt] (h ++ l) = some (.slice (h ++ l).length (nt + 1) [] (.int .u8) 0 nt none, h ++ l ++ [⟨arr (nt + 1) (lentF nt t), nt + 1, .open⟩]) := fun l => callS33_25 xt nt t (h ++ l) ⟨ht.app l, hnt⟩
    have k29 : ∀ (l : Heap) (i j : Nat), l[i]? = some ⟨arr (na + 1) (lentF na a), na + 1, .open⟩ → l[j]? = some ⟨arr (nt + 1) (lentF nt t), nt + 1, .open⟩ → callS19 29 [arr 32 key, arr 12 nonce, .slice (h.length + i) (na + 1) [] (.int .u8) 0 na none, .slice (h.length + j) (nt + 1) [] (.int .u8) 0 nt none] (h ++ l) = some (ansV (openC na nt (openG key nonce na a nt t)) (h ++ l).length (nt - 16) nt, ansH (openC na nt (openG key nonce na a nt t)) (h ++ l) ⟨arr nt (openF key nonce nt t), 0, .own⟩) := fun l i j hi hj => callS19_29 key nonce _ _ na nt a t (h ++ l) ⟨own_lent hi, own_lent hj⟩
    have k30 : ∀ l, callS32 30 [arr 32 key, arr 12 nonce, xa, xt] (h ++ l) = some (ansVo (openC na nt (openG key nonce na a nt t)) (h ++ l).length (nt - 16), ansHo (openC na nt (openG key nonce na a nt t)) (nt - 16) (h ++ l) (openF key nonce nt t)) := fun l => callS32_30 key nonce xa xt na nt a t (h ++ l) ⟨ha.app l, ht.app l⟩
    have h16 : openC na nt (openG key nonce na a nt t) = 0 → 16 ≤ nt := fun q => by
      unfold openC at q
      by_cases q1 : bigO na nt
      · rw [if_pos q1] at q; omega
      · rw [if_neg q1] at q
        by_cases q2 : nt < 16
        · rw [if_pos q2] at q; omega
        · omega
    have k28a : ∀ (l : Heap) (i : Nat), l[i]? = some ⟨arr (na + 1) (lentF na a), na + 1, .open⟩ → callS34 28 [.slice (h.length + i) (na + 1) [] (.int .u8) 0 na none, xa] (h ++ l) = some (.bool true, h ++ l) := fun l i hi => kept_lent hi hna ha
    have k28t : ∀ (l : Heap) (i : Nat), l[i]? = some ⟨arr (nt + 1) (lentF nt t), nt + 1, .open⟩ → callS34 28 [.slice (h.length + i) (nt + 1) [] (.int .u8) 0 nt none, xt] (h ++ l) = some (.bool true, h ++ l) := fun l i hi => kept_lent hi hnt ht
    generalize hc : openC na nt (openG key nonce na a nt t) = c at *
    by_cases h0 : c = 0
    · have hm := h16 h0
      rw [h0] at k29 k30
      by_cases hz : nt - 16 = 0
      · have s0 : ∀ f : Nat → BitVec 8, strOf 0 f = strOf 0 zF := fun f => strOf_congr fun i hi => absurd hi (by omega)
        rw [hz] at k29 k30
        simp only [ansV, ansH, ansVo, ansHo, outV, outH, if_true] at k29 k30
        repeat (first | (with_reducible refine Evs.assoc ?_) | ((with_reducible refine Evs.some_bnd ?_); try dsimp only [sqK_nrm, sqK_exit, sqK_ret]) | ((with_reducible apply Evs.bcndT); (focus (simp (disch := omega) [g0, g1, g2, g3, k23a, k23t, un, fa, ft, k25a, k25t] <;> omega))) | ((with_reducible apply Evs.bcndF); (focus (simp (disch := omega) [g0, g1, g2, g3, k23a, k23t, un, fa, ft, k25a, k25t] <;> omega))) | ((with_reducible apply Evs.step); (focus ((conv => lhs; simp (disch := omega) [g0, g1, g2, g3, k23a, k23t, un, fa, ft, k25a, k25t]); done)); try dsimp only) | (simp only [sn9, snB]))
        with_reducible apply Evs.step
        · conv => lhs; simp (disch := omega)
          exact k29 _ 2 3 rfl rfl
        repeat (first | (with_reducible refine Evs.assoc ?_) | ((with_reducible refine Evs.some_bnd ?_); try dsimp only [sqK_nrm, sqK_exit, sqK_ret]) | ((with_reducible apply Evs.bcndT); (focus (simp (disch := omega) [g0, g1, g2, g3, k30] <;> omega))) | ((with_reducible apply Evs.bcndF); (focus (simp (disch := omega) [g0, g1, g2, g3, k30] <;> omega))) | ((with_reducible apply Evs.step); (focus ((conv => lhs; simp (disch := omega) [g0, g1, g2, g3, k30]); done)); try dsimp only) | (simp only [sn9, snB]))
        with_reducible apply Evs.step
        · conv => lhs; simp (disch := omega) [g2]
          exact k28a _ 2 rfl
        repeat (first | (with_reducible refine Evs.assoc ?_) | ((with_reducible refine Evs.some_bnd ?_); try dsimp only [sqK_nrm, sqK_exit, sqK_ret]) | ((with_reducible apply Evs.bcndT); (focus (simp (disch := omega) [g0, g1, g2, g3] <;> omega))) | ((with_reducible apply Evs.bcndF); (focus (simp (disch := omega) [g0, g1, g2, g3] <;> omega))) | ((with_reducible apply Evs.step); (focus ((conv => lhs; simp (disch := omega) [g0, g1, g2, g3]); done)); try dsimp only) | (simp only [sn9, snB]))
        with_reducible apply Evs.step
        · conv => lhs; simp (disch := omega) [g3]
          exact k28t _ 3 rfl
        repeat (first | (with_reducible refine Evs.assoc ?_) | ((with_reducible refine Evs.some_bnd ?_); try dsimp only [sqK_nrm, sqK_exit, sqK_ret]) | ((with_reducible apply Evs.bcndT); (focus (simp (disch := omega) [g0, g1, g2, g3, s0] <;> omega))) | ((with_reducible apply Evs.bcndF); (focus (simp (disch := omega) [g0, g1, g2, g3, s0] <;> omega))) | ((with_reducible apply Evs.step); (focus ((conv => lhs; simp (disch := omega) [g0, g1, g2, g3, s0]); done)); try dsimp only) | (simp only [sn9, snB]))
        exact Evs.ret ⟨_, _, rfl, by simp⟩
      · simp only [ansV, ansH, ansVo, ansHo, outV, outH, if_true, hz, if_false] at k29 k30
        repeat (first | (with_reducible refine Evs.assoc ?_) | ((with_reducible refine Evs.some_bnd ?_); try dsimp only [sqK_nrm, sqK_exit, sqK_ret]) | ((with_reducible apply Evs.bcndT); (focus (simp (disch := omega) [g0, g1, g2, g3, k23a, k23t, un, fa, ft, k25a, k25t] <;> omega))) | ((with_reducible apply Evs.bcndF); (focus (simp (disch := omega) [g0, g1, g2, g3, k23a, k23t, un, fa, ft, k25a, k25t] <;> omega))) | ((with_reducible apply Evs.step); (focus ((conv => lhs; simp (disch := omega) [g0, g1, g2, g3, k23a, k23t, un, fa, ft, k25a, k25t]); done)); try dsimp only) | (simp only [sn9, snB]))
        with_reducible apply Evs.step
        · conv => lhs; simp (disch := omega)
          exact k29 _ 2 3 rfl rfl
        repeat (first | (with_reducible refine Evs.assoc ?_) | ((with_reducible refine Evs.some_bnd ?_); try dsimp only [sqK_nrm, sqK_exit, sqK_ret]) | ((with_reducible apply Evs.bcndT); (focus (simp (disch := omega) [g0, g1, g2, g3, k30] <;> omega))) | ((with_reducible apply Evs.bcndF); (focus (simp (disch := omega) [g0, g1, g2, g3, k30] <;> omega))) | ((with_reducible apply Evs.step); (focus ((conv => lhs; simp (disch := omega) [g0, g1, g2, g3, k30]); done)); try dsimp only) | (simp only [sn9, snB]))
        with_reducible apply Evs.step
        · conv => lhs; simp (disch := omega) [g2]
          exact k28a _ 2 rfl
        repeat (first | (with_reducible refine Evs.assoc ?_) | ((with_reducible refine Evs.some_bnd ?_); try dsimp only [sqK_nrm, sqK_exit, sqK_ret]) | ((with_reducible apply Evs.bcndT); (focus (simp (disch := omega) [g0, g1, g2, g3] <;> omega))) | ((with_reducible apply Evs.bcndF); (focus (simp (disch := omega) [g0, g1, g2, g3] <;> omega))) | ((with_reducible apply Evs.step); (focus ((conv => lhs; simp (disch := omega) [g0, g1, g2, g3]); done)); try dsimp only) | (simp only [sn9, snB]))
        with_reducible apply Evs.step
        · conv => lhs; simp (disch := omega) [g3]
          exact k28t _ 3 rfl
        repeat (first | (with_reducible refine Evs.assoc ?_) | ((with_reducible refine Evs.some_bnd ?_); try dsimp only [sqK_nrm, sqK_exit, sqK_ret]) | ((with_reducible apply Evs.bcndT); (focus (simp (disch := omega) [g0, g1, g2, g3] <;> omega))) | ((with_reducible apply Evs.bcndF); (focus (simp (disch := omega) [g0, g1, g2, g3] <;> omega))) | ((with_reducible apply Evs.step); (focus ((conv => lhs; simp (disch := omega) [g0, g1, g2, g3]); done)); try dsimp only) | (simp only [sn9, snB]))
        exact Evs.ret ⟨_, _, rfl, by simp⟩
    · simp only [ansV, ansH, ansVo, ansHo, h0, if_false] at k29 k30
      repeat (first | (with_reducible refine Evs.assoc ?_) | ((with_reducible refine Evs.some_bnd ?_); try dsimp only [sqK_nrm, sqK_exit, sqK_ret]) | ((with_reducible apply Evs.bcndT); (focus (simp (disch := omega) [g0, g1, g2, g3, k23a, k23t, un, fa, ft, k25a, k25t] <;> omega))) | ((with_reducible apply Evs.bcndF); (focus (simp (disch := omega) [g0, g1, g2, g3, k23a, k23t, un, fa, ft, k25a, k25t] <;> omega))) | ((with_reducible apply Evs.step); (focus ((conv => lhs; simp (disch := omega) [g0, g1, g2, g3, k23a, k23t, un, fa, ft, k25a, k25t]); done)); try dsimp only) | (simp only [sn9, snB]))
      with_reducible apply Evs.step
      · conv => lhs; simp (disch := omega)
        exact k29 _ 2 3 rfl rfl
      repeat (first | (with_reducible refine Evs.assoc ?_) | ((with_reducible refine Evs.some_bnd ?_); try dsimp only [sqK_nrm, sqK_exit, sqK_ret]) | ((with_reducible apply Evs.bcndT); (focus (simp (disch := omega) [g0, g1, g2, g3, k30] <;> omega))) | ((with_reducible apply Evs.bcndF); (focus (simp (disch := omega) [g0, g1, g2, g3, k30] <;> omega))) | ((with_reducible apply Evs.step); (focus ((conv => lhs; simp (disch := omega) [g0, g1, g2, g3, k30]); done)); try dsimp only) | (simp only [sn9, snB]))
      with_reducible apply Evs.step
      · conv => lhs; simp (disch := omega) [g2]
        exact k28a _ 2 rfl
      repeat (first | (with_reducible refine Evs.assoc ?_) | ((with_reducible refine Evs.some_bnd ?_); try dsimp only [sqK_nrm, sqK_exit, sqK_ret]) | ((with_reducible apply Evs.bcndT); (focus (simp (disch := omega) [g0, g1, g2, g3] <;> omega))) | ((with_reducible apply Evs.bcndF); (focus (simp (disch := omega) [g0, g1, g2, g3] <;> omega))) | ((with_reducible apply Evs.step); (focus ((conv => lhs; simp (disch := omega) [g0, g1, g2, g3]); done)); try dsimp only) | (simp only [sn9, snB]))
      with_reducible apply Evs.step
      · conv => lhs; simp (disch := omega) [g3]
        exact k28t _ 3 rfl
      repeat (first | (with_reducible refine Evs.assoc ?_) | ((with_reducible refine Evs.some_bnd ?_); try dsimp only [sqK_nrm, sqK_exit, sqK_ret]) | ((with_reducible apply Evs.bcndT); (focus (simp (disch := omega) [g0, g1, g2, g3] <;> omega))) | ((with_reducible apply Evs.bcndF); (focus (simp (disch := omega) [g0, g1, g2, g3] <;> omega))) | ((with_reducible apply Evs.step); (focus ((conv => lhs; simp (disch := omega) [g0, g1, g2, g3]); done)); try dsimp only) | (simp only [sn9, snB]))
      exact Evs.ret ⟨_, _, rfl, by simp⟩
  obtain ⟨r, hr, env, tr, rfl, e0⟩ := main
  refine ⟨tr, ?_⟩
  rw [hr]
  simp [e0, oneOrTuple]

end Go.Vab
