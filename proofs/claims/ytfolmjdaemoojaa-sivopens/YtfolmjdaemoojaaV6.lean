/- How the evaluator reads the functions of a seat. Printed by wip/tools/gen.py (own work). -/
import Derived.Test.YtfolmjdaemoojaaV3
import Derived.Test.YtfolmjdaemoojaaV5
import Derived.KernelRfl
set_option linter.all false
set_option linter.unusedSectionVars false
namespace Go.Vab
open Go Go.Proofs
noncomputable section
variable (call : Calling) (env : Env) (h : Heap) (s : St)
/-! (vestry/siv.element).on -/
def cx56 (call : Calling) : Ctx := ⟨call, TT, 25, [9, 10, 12, 13, 14, 15, 16, 17, 18, 19, 20, 21, 22, 23, 24]⟩
def n56_0 : Code := bodyOf Try.f56
def n56_1 : Code := cR n56_0
def n56_2 : Code := cL n56_1
def n56_3 : Code := cB n56_2
def n56_4 : Code := cB n56_3
def n56_5 : Code := cL n56_4
def n56_6 : Code := cR n56_5
def n56_7 : Code := cL n56_6
def n56_8 : Code := cR n56_6
def n56_9 : Code := cR n56_4
def n56_10 : Code := cB n56_9
def n56_11 : Code := cR n56_10
def n56_12 : Code := cR n56_11
def n56_13 : Code := cR n56_12
def n56_14 : Code := cR n56_1
def n56_15 : Code := cR n56_14
@[simp] theorem n56_7_eq : evC (cx56 call) n56_7 s = some (.nrm, s) := xK
@[simp] theorem n56_8_eq : evC (cx56 call) n56_8 s = some (.exit 0, s) := xX 0
@[simp] theorem n56_6_eq : evC (cx56 call) n56_6 s = cnd (s.env.get 11) (evC (cx56 call) n56_7 s) (evC (cx56 call) n56_8 s) := xC 11 _ _
@[simp] theorem n56_5_eq : evC (cx56 call) n56_5 ⟨env, h⟩ = (bnd (pureV h (mLenS (env.get 2))) fun r1 => bnd (pureV r1.2 (mBin .gtr r1.1 (nat 0))) fun r2 => evC (cx56 call) n56_6 ⟨(Env.put env 11 r2.1), r2.2⟩) := (xSR 1 (cOps (cL n56_5)) (cR n56_5)).trans (by
  refine opsK_0 ?_
  refine oT 9 (env.get 2) ?_
  refine oP 10 fun r1 => ?_
  refine oP 11 fun r2 => ?_
  exact oE)
theorem n56_13_ok : drawOk (cOps n56_13).toList = true := by kernel_rfl
@[simp] theorem n56_13_eq : evC (cx56 call) n56_13 ⟨env, h⟩ = (bnd (pureV h (mLoad ty66 (env.get 3) h)) fun r0 => bnd (pureV r0.2 (mLoad (.arr 16 (.int .u8)) (env.get 7) r0.2)) fun r1 => bnd (still call 50 [r1.1] r1.2) fun r2 => bnd (still call 59 [r0.1, r2.1] r2.2) fun r3 => bnd (pureV r3.2 (mLoad ty66 (env.get 4) r3.2)) fun r4 => bnd (still call 51 [r3.1, r4.1] r4.2) fun r5 => bnd (stU ty66 (env.get 3) r5.1 r5.2) fun r6 => some (.nrm, ⟨env, r6.2⟩)) := (xD 5 (cOps n56_13) n56_13_ok).trans (by
  refine opsK_0 ?_
  refine oP 18 fun r0 => ?_
  refine oP 19 fun r1 => ?_
  refine oP 20 fun r2 => ?_
  refine oP 21 fun r3 => ?_
  refine oP 22 fun r4 => ?_
  refine oP 23 fun r5 => ?_
  refine oN fun r6 => ?_
  exact oE)
@[simp] theorem n56_12_eq : evC (cx56 call) n56_12 ⟨env, h⟩ = (bnd (pureV h (mSliceS (.int .u8) (env.get 2) (some (env.get 8)) none none)) fun r2 => evC (cx56 call) n56_13 ⟨(Env.put env 2 r2.1), r2.2⟩) := (xSR 4 (cOps (cL n56_12)) (cR n56_12)).trans (by
  refine opsK_0 ?_
  refine oT 15 (env.get 2) ?_
  refine oT 16 (env.get 8) ?_
  refine oP 17 fun r2 => ?_
  refine oT 2 r2.1 ?_
  exact oE)
@[simp] theorem n56_11_eq : evC (cx56 call) n56_11 ⟨env, h⟩ = (bnd (pureV h (mSliceA (.arr 16 (.int .u8)) (env.get 7) none none none)) fun r0 => bnd (mCopy (.int .u8) r0.1 (env.get 2) r0.2) fun r2 => evC (cx56 call) n56_12 ⟨(Env.put env 8 r2.1), r2.2⟩) := (xSR 3 (cOps (cL n56_11)) (cR n56_11)).trans (by
  refine opsK_0 ?_
  refine oP 12 fun r0 => ?_
  refine oT 13 (env.get 2) ?_
  refine oP 14 fun r2 => ?_
  refine oT 8 r2.1 ?_
  exact oE)
@[simp] theorem n56_10_eq : evC (cx56 call) n56_10 ⟨env, h⟩ = (bnd (mNew (.arr 16 (.int .u8)) (arr 16 fun _ => 0#8) h) fun r0 => evC (cx56 call) n56_11 ⟨(Env.put env 7 r0.1), r0.2⟩) := (xSR 2 (cOps (cL n56_10)) (cR n56_10)).trans (by
  refine opsK_0 ?_
  refine oP 7 fun r0 => ?_
  exact oE)
@[simp] theorem n56_9_eq : evC (cx56 call) n56_9 s = bnd (evC (cx56 call) n56_10 s) fun r => some (inBlk 1 r) := xB 1 _
@[simp] theorem n56_4_eq : evC (cx56 call) n56_4 s = bnd (evC (cx56 call) n56_5 s) (sqK (evC (cx56 call) n56_9)) := xS _ _
@[simp] theorem n56_3_eq : evC (cx56 call) n56_3 s = evLoop (evC (cx56 call) n56_4) s := xL _
@[simp] theorem n56_2_eq : evC (cx56 call) n56_2 s = bnd (evC (cx56 call) n56_3 s) fun r => some (inBlk 0 r) := xB 0 _
@[simp] theorem n56_15_eq : evC (cx56 call) n56_15 s = some (.ret, s) := xE
@[simp] theorem n56_14_eq : evC (cx56 call) n56_14 ⟨env, h⟩ = (bnd (pureV h (mLoad ty66 (env.get 3) h)) fun r0 => bnd (stU ty66 (env.get 6) r0.1 r0.2) fun r1 => evC (cx56 call) n56_15 ⟨env, r1.2⟩) := (xSR 6 (cOps (cL n56_14)) (cR n56_14)).trans (by
  refine opsK_0 ?_
  refine oP 24 fun r0 => ?_
  refine oN fun r1 => ?_
  exact oE)
@[simp] theorem n56_1_eq : evC (cx56 call) n56_1 s = bnd (evC (cx56 call) n56_2 s) (sqK (evC (cx56 call) n56_14)) := xS _ _
@[simp] theorem n56_0_eq : evC (cx56 call) n56_0 ⟨env, h⟩ = (bnd (mNew ty66 (env.get 0) h) fun r0 => bnd (mNew ty66 (env.get 1) r0.2) fun r1 => bnd (mNew ty66 (.node [(u64 0#64), (u64 0#64)]) r1.2) fun r2 => evC (cx56 call) n56_1 ⟨(Env.put (Env.put (Env.put env 3 r0.1) 4 r1.1) 6 r2.1), r2.2⟩) := (xSR 0 (cOps (cL n56_0)) (cR n56_0)).trans (by
  refine opsK_0 ?_
  refine oP 3 fun r0 => ?_
  refine oP 4 fun r1 => ?_
  refine oP 6 fun r2 => ?_
  exact oE)
theorem b56 (call : Calling) (a0 a1 a2 : AV) (h : Heap) : evBody (cx56 call) Try.f56 n56_0 [a0, a1, a2] h = bnd (evC (cx56 call) n56_0 ⟨[(0, a0), (1, a1), (2, a2), (3, .junk), (4, .junk), (5, .junk), (6, .junk), (7, .junk), (8, .junk), (11, .junk)], h⟩) (retK fun s => bnd (bnd (mLoad ty66 (s.env.get 6) s.heap) fun v => bnd (some []) fun vs => some (v :: vs)) fun vs => some (oneOrTuple vs)) := by kernel_rfl
theorem fn56 : Try.prog.funcs[56]? = some Try.f56 := by kernel_rfl
theorem k56 : Callable Try.prog 56 := ⟨Try.f56, fn56, by kernel_rfl, by kernel_rfl⟩
theorem s56 {call : Calling} (hc : CallOK Try.prog call) {args : List AV} {h h' : Heap} {v : AV} (he : evBody (cx56 call) Try.f56 n56_0 args h = some (v, h')) : Spec Try.prog 56 args h v h' := body_sound (C := cx56 call) TT_ok hc mixed_ok fn56 (by kernel_rfl) (by kernel_rfl) he
def sn56 := Y n56_7_eq (Y n56_8_eq (Y n56_6_eq (Y n56_5_eq (Y n56_13_eq (Y n56_12_eq (Y n56_11_eq (Y n56_10_eq (Y n56_9_eq (Y n56_4_eq (Y n56_3_eq (Y n56_2_eq (Y n56_15_eq (Y n56_14_eq (Y n56_1_eq (n56_0_eq)))))))))))))))
end
end Go.Vab

/- How the evaluator reads the functions of a seat. Printed by wip/tools/gen.py (own work). -/
namespace Go.Vab
open Go Go.Proofs
noncomputable section
variable (call : Calling) (env : Env) (h : Heap) (s : St)
/-! vestry/siv.Polyval -/
def cx33 (call : Calling) : Ctx := ⟨call, TT, 11, [5, 6, 7, 8, 9, 10]⟩
def n33_0 : Code := bodyOf Try.f33
def n33_1 : Code := cR n33_0
def n33_2 : Code := cR n33_1
@[simp] theorem n33_2_eq : evC (cx33 call) n33_2 s = some (.ret, s) := xE
@[simp] theorem n33_1_eq : evC (cx33 call) n33_1 ⟨env, h⟩ = (bnd (pureV h (fillRow ty66 (.node [(u64 0#64), (u64 0#64)]) [])) fun r0 => bnd (pureV r0.2 (mLoad (.arr 16 (.int .u8)) (env.get 2) r0.2)) fun r1 => bnd (call 50 [r1.1] r1.2) fun r2 => bnd (call 56 [r0.1, r2.1, (env.get 1)] r2.2) fun r4 => bnd (call 52 [r4.1] r4.2) fun r5 => bnd (stU (.arr 16 (.int .u8)) (env.get 4) r5.1 r5.2) fun r6 => evC (cx33 call) n33_2 ⟨env, r6.2⟩) := (xSR 1 (cOps (cL n33_1)) (cR n33_1)).trans (by
  refine opsK_0 ?_
  refine oP 5 fun r0 => ?_
  refine oP 6 fun r1 => ?_
  refine oP 7 fun r2 => ?_
  refine oT 8 (env.get 1) ?_
  refine oP 9 fun r4 => ?_
  refine oP 10 fun r5 => ?_
  refine oN fun r6 => ?_
  exact oE)
@[simp] theorem n33_0_eq : evC (cx33 call) n33_0 ⟨env, h⟩ = (bnd (mNew (.arr 16 (.int .u8)) (env.get 0) h) fun r0 => bnd (mNew (.arr 16 (.int .u8)) (arr 16 fun _ => 0#8) r0.2) fun r1 => evC (cx33 call) n33_1 ⟨(Env.put (Env.put env 2 r0.1) 4 r1.1), r1.2⟩) := (xSR 0 (cOps (cL n33_0)) (cR n33_0)).trans (by
  refine opsK_0 ?_
  refine oP 2 fun r0 => ?_
  refine oP 4 fun r1 => ?_
  exact oE)
theorem b33 (call : Calling) (a0 a1 : AV) (h : Heap) : evBody (cx33 call) Try.f33 n33_0 [a0, a1] h = bnd (evC (cx33 call) n33_0 ⟨[(0, a0), (1, a1), (2, .junk), (3, .junk), (4, .junk)], h⟩) (retK fun s => bnd (bnd (mLoad (.arr 16 (.int .u8)) (s.env.get 4) s.heap) fun v => bnd (some []) fun vs => some (v :: vs)) fun vs => some (oneOrTuple vs)) := by kernel_rfl
theorem fn33 : Try.prog.funcs[33]? = some Try.f33 := by kernel_rfl
theorem k33 : Callable Try.prog 33 := ⟨Try.f33, fn33, by kernel_rfl, by kernel_rfl⟩
theorem s33 {call : Calling} (hc : CallOK Try.prog call) {args : List AV} {h h' : Heap} {v : AV} (he : evBody (cx33 call) Try.f33 n33_0 args h = some (v, h')) : Spec Try.prog 33 args h v h' := body_sound (C := cx33 call) TT_ok hc mixed_ok fn33 (by kernel_rfl) (by kernel_rfl) he
def sn33 := Y n33_2_eq (Y n33_1_eq (n33_0_eq))
end
end Go.Vab

/-
  POLYVAL over bytes, walked.
-/
namespace Go.Vab
open Go Go.Proofs

/-- A block of the bytes, filled up. -/
def blkF (n : Nat) (g : Nat → BitVec 8) (i : Nat) : Nat → BitVec 8 := fun k => if 16 * i + k < n then g (16 * i + k) else 0#8
def onX (x y : BitVec 128) (n : Nat) (g : Nat → BitVec 8) : Nat → BitVec 128
  | 0 => x
  | i + 1 => dotX (onX x y n g i ^^^ val16 (blkF n g i)) y
def polyX (x y : BitVec 128) (n : Nat) (g : Nat → BitVec 8) : BitVec 128 := onX x y n g ((n + 15) / 16)
theorem onX_congr {n : Nat} {g f : Nat → BitVec 8} (h : ∀ i, i < n → g i = f i) (x y : BitVec 128) : ∀ i, onX x y n g i = onX x y n f i
  | 0 => rfl
  | i + 1 => by
    simp only [onX]
    rw [onX_congr h x y i]
    congr 2
    exact val16_congr fun k _ => by
      unfold blkF
      split
      · exact h _ (by assumption)
      · rfl
theorem polyX_congr {n : Nat} {g f : Nat → BitVec 8} (h : ∀ i, i < n → g i = f i) (x y : BitVec 128) : polyX x y n g = polyX x y n f := onX_congr h x y _

def H56 (h : Heap) (x y : BitVec 128) (tr : Heap) (z : BitVec 128) : Heap := h ++ (⟨elX x, 0, .own⟩ :: ⟨elX y, 0, .own⟩ :: ⟨elX z, 0, .own⟩ :: tr)
theorem fill0 : fillRow ty66 (.node [u64 0#64, u64 0#64]) [] = some (elX 0#128) := rfl
theorem zero_el : el 0#64 0#64 = elX 0#128 := rfl

theorem walk56 (h : Heap) (x y : BitVec 128) (b : AV) (n : Nat) (g : Nat → BitVec 8) (hb : Byt h b n g) (hn : n < 9223372036854775000) : ∃ t, evBody (cx56 callS11) Try.f56 n56_0 [elX x, elX y, b] h = some (elX (polyX x y n g), h ++ t) := by
  rw [b56]
  have main : Evs (evC (cx56 callS11) n56_0 ⟨[(0, elX x), (1, elX y), (2, b), (3, .junk), (4, .junk), (5, .junk), (6, .junk), (7, .junk), (8, .junk), (11, .junk)], h⟩) (fun r => ∃ env t, r = (.ret, ⟨env, h ++ t⟩) ∧ mLoad ty66 (env.get 6) (h ++ t) = some (elX (polyX x y n g))) := by
    obtain ⟨env, he⟩ : ∃ env : Env, env = [(0, elX x), (1, elX y), (2, b), (3, .junk), (4, .junk), (5, .junk), (6, .junk), (7, .junk), (8, .junk), (11, .junk)] := ⟨_, rfl⟩
    rw [← he]
    have g0 : env.get 0 = elX x := by rw [he]; rfl
    have g1 : env.get 1 = elX y := by rw [he]; rfl
    have g2 : env.get 2 = b := by rw [he]; rfl
    clear he
    repeat (first | (with_reducible refine Evs.assoc ?_) | ((with_reducible refine Evs.some_bnd ?_); try dsimp only [sqK_nrm, sqK_exit, sqK_ret]) | ((with_reducible apply Evs.bcndT); (focus (simp (disch := omega) [g0, g1, g2, zero_el] <;> omega))) | ((with_reducible apply Evs.bcndF); (focus (simp (disch := omega) [g0, g1, g2, zero_el] <;> omega))) | ((with_reducible apply Evs.step); (focus ((conv => lhs; simp (disch := omega) [g0, g1, g2, zero_el]); done)); try dsimp only) | (simp only [sn56, snB]))
    refine Evs.bnd (Q := fun r => ∃ env' tr, r = (.exit 0, ⟨env', H56 h (polyX x y n g) y tr 0#128⟩) ∧ env'.get 3 = .ptr h.length 0 [] ty66 ∧ env'.get 6 = .ptr (h.length + 2) 0 [] ty66) ?_ ?_
    · refine Evs.up ((n + 15) / 16) (fun i s => ∃ env' tr b', s = ⟨env', H56 h (onX x y n g i) y tr 0#128⟩ ∧ env'.get 3 = .ptr h.length 0 [] ty66 ∧ env'.get 4 = .ptr (h.length + 1) 0 [] ty66 ∧ env'.get 6 = .ptr (h.length + 2) 0 [] ty66 ∧ env'.get 2 = b' ∧ Byt h b' (n - 16 * i) fun k => g (16 * i + k)) ?_ ?_
        ⟨_, [], b, rfl, by simp, by simp, by simp, by simp [g2], by simpa using hb⟩
      · rintro i s hi ⟨env', tr, b', rfl, e3, e4, e6, e2, hb'⟩
        have hl := hb'.len
        have he := hb'.elems
        have hpos : 0 < n - 16 * i := by omega
        obtain ⟨b2, f1, f2⟩ := hb'.from (l := min (n - 16 * i) 16) (by omega)
        unfold H56
        have hbl : elX (val16 fun k => if k < min (n - 16 * i) 16 then g (16 * i + k) else 0#8) = elX (val16 (blkF n g i)) := by
          congr 1
          refine val16_congr fun k hk => ?_
          unfold blkF
          by_cases hc : 16 * i + k < n
          · rw [if_pos (by omega), if_pos hc]
          · rw [if_neg (by omega), if_neg hc]
        repeat (first | (with_reducible refine Evs.assoc ?_) | ((with_reducible refine Evs.some_bnd ?_); try dsimp only [sqK_nrm, sqK_exit, sqK_ret]) | ((with_reducible apply Evs.bcndT); (focus (simp (disch := omega) [e2, e3, e4, e6, hl, he, f1, hbl] <;> omega))) | ((with_reducible apply Evs.bcndF); (focus (simp (disch := omega) [e2, e3, e4, e6, hl, he, f1, hbl] <;> omega))) | ((with_reducible apply Evs.step); (focus ((conv => lhs; simp (disch := omega) [e2, e3, e4, e6, hl, he, f1, hbl]); done)); try dsimp only) | (simp only [sn56, snB]))
        refine Evs.ret ⟨rfl, _, _, b2, rfl, by simp [e3], by simp [e4], by simp [e6], by simp, ?_⟩
        have q1 : n - 16 * i - min (n - 16 * i) 16 = n - 16 * (i + 1) := by omega
        rw [q1] at f2
        exact f2.congr fun k hk => by
          rw [show min (n - 16 * i) 16 = 16 by omega, show 16 * i + (16 + k) = 16 * (i + 1) + k by omega]
      · rintro s ⟨env', tr, b', rfl, e3, e4, e6, e2, hb'⟩
        have hl := hb'.len
        rw [show n - 16 * ((n + 15) / 16) = 0 by omega] at hl
        repeat (first | (with_reducible refine Evs.assoc ?_) | ((with_reducible refine Evs.some_bnd ?_); try dsimp only [sqK_nrm, sqK_exit, sqK_ret]) | ((with_reducible apply Evs.bcndT); (focus (simp (disch := omega) [e2, hl] <;> omega))) | ((with_reducible apply Evs.bcndF); (focus (simp (disch := omega) [e2, hl] <;> omega))) | ((with_reducible apply Evs.step); (focus ((conv => lhs; simp (disch := omega) [e2, hl]); done)); try dsimp only) | (simp only [sn56, snB]))
        exact Evs.ret ⟨by simp, _, _, rfl, by simp [e3], by simp [e6]⟩
    · rintro r ⟨env', tr, rfl, e3, e6⟩
      unfold H56
      repeat (first | (with_reducible refine Evs.assoc ?_) | ((with_reducible refine Evs.some_bnd ?_); try dsimp only [sqK_nrm, sqK_exit, sqK_ret]) | ((with_reducible apply Evs.bcndT); (focus (simp (disch := omega) [e3, e6] <;> omega))) | ((with_reducible apply Evs.bcndF); (focus (simp (disch := omega) [e3, e6] <;> omega))) | ((with_reducible apply Evs.step); (focus ((conv => lhs; simp (disch := omega) [e3, e6]); done)); try dsimp only) | (simp only [sn56, snB]))
      exact Evs.ret ⟨_, _, rfl, by simp [e6]⟩
  obtain ⟨r, hr, env, t, rfl, e0⟩ := main
  refine ⟨t, ?_⟩
  rw [hr]
  simp [e0, oneOrTuple]

noncomputable def c56 := conC (fun x : (BitVec 128) × (BitVec 128) × (AV) × (Nat) × (Nat → BitVec 8) => [elX x.1, elX x.2.1, x.2.2.1]) (fun (x : (BitVec 128) × (BitVec 128) × (AV) × (Nat) × (Nat → BitVec 8)) h => Byt h x.2.2.1 x.2.2.2.1 x.2.2.2.2 ∧ x.2.2.2.1 < 9223372036854775000) (fun (x : (BitVec 128) × (BitVec 128) × (AV) × (Nat) × (Nat → BitVec 8)) h => (elX (polyX x.1 x.2.1 x.2.2.2.1 x.2.2.2.2), h))
noncomputable def callS12 : Calling := addC callS11 56 c56
theorem c56_eq (a : BitVec 128) (y : BitVec 128) (b : AV) (n : Nat) (g : Nat → BitVec 8) (h : Heap) (hc : Byt h b n g ∧ n < 9223372036854775000) : c56 [elX a, elX y, b] h = some (elX (polyX a y n g), h) :=
  conC_eqP (enc := fun x : (BitVec 128) × (BitVec 128) × (AV) × (Nat) × (Nat → BitVec 8) => [elX x.1, elX x.2.1, x.2.2.1]) (P := fun (x : (BitVec 128) × (BitVec 128) × (AV) × (Nat) × (Nat → BitVec 8)) h => Byt h x.2.2.1 x.2.2.2.1 x.2.2.2.2 ∧ x.2.2.2.1 < 9223372036854775000) (a := (a, y, b, n, g)) (f := fun (x : (BitVec 128) × (BitVec 128) × (AV) × (Nat) × (Nat → BitVec 8)) h => (elX (polyX x.1 x.2.1 x.2.2.2.1 x.2.2.2.2), h)) (fun x y h hp hq e => by
    have e1 := elX_inj.1 (List.cons.inj e).1
    have e2 := elX_inj.1 (List.cons.inj (List.cons.inj e).2).1
    have e3 := (List.cons.inj (List.cons.inj (List.cons.inj e).2).2).1
    rw [e3] at hp
    obtain ⟨e4, e5⟩ := hp.1.det hq.1
    rw [e1, e2, e4] 
    rw [polyX_congr (by rw [← e4]; exact e5)]
    ) hc
theorem callS12_ok : CallOK Try.prog callS12 := addC_con callS11_ok k56 fun x h hx => by
  obtain ⟨t, ht⟩ := walk56 h _ _ _ _ _ hx.1 hx.2
  exact (s56 callS11_ok ht).drop0 t rfl
@[simp] theorem callS12_ne {f : Nat} (args : List AV) (h : Heap) (hf : f ≠ 56) : callS12 f args h = callS11 f args h := addC_ne _ _ _ args h hf
@[simp] theorem callS12_sne {f : Nat} (args : List AV) (h : Heap) (hf : f ≠ 56) : still callS12 f args h = still callS11 f args h := still_ne _ _ _ args h hf
theorem callS12_56 (a : BitVec 128) (y : BitVec 128) (b : AV) (n : Nat) (g : Nat → BitVec 8) (h : Heap) (hc : Byt h b n g ∧ n < 9223372036854775000) : callS12 56 [elX a, elX y, b] h = some (elX (polyX a y n g), h) := by
  unfold callS12; rw [addC_same]; exact c56_eq a y b n g h hc
theorem callS12_56s (a : BitVec 128) (y : BitVec 128) (b : AV) (n : Nat) (g : Nat → BitVec 8) (h : Heap) (hc : Byt h b n g ∧ n < 9223372036854775000) : still callS12 56 [elX a, elX y, b] h = some (elX (polyX a y n g), h) := still_of fun tt => callS12_56 a y b n g (h ++ tt) (⟨hc.1.app tt, hc.2⟩)

theorem walk33 (h : Heap) (y : Nat → BitVec 8) (b : AV) (n : Nat) (g : Nat → BitVec 8) (hb : Byt h b n g) (hn : n < 9223372036854775000) : ∃ t, evBody (cx33 callS12) Try.f33 n33_0 [arr 16 y, b] h = some (arr 16 (bytesX (polyX 0#128 (val16 y) n g)), h ++ t) := by
  rw [b33]
  have main : Evs (evC (cx33 callS12) n33_0 ⟨[(0, arr 16 y), (1, b), (2, .junk), (3, .junk), (4, .junk)], h⟩) (fun r => ∃ env t, r = (.ret, ⟨env, h ++ t⟩) ∧ mLoad (.arr 16 (.int .u8)) (env.get 4) (h ++ t) = some (arr 16 (bytesX (polyX 0#128 (val16 y) n g)))) := by
    obtain ⟨env, he⟩ : ∃ env : Env, env = [(0, arr 16 y), (1, b), (2, .junk), (3, .junk), (4, .junk)] := ⟨_, rfl⟩
    rw [← he]
    have g0 : env.get 0 = arr 16 y := by rw [he]; rfl
    have g1 : env.get 1 = b := by rw [he]; rfl
    clear he
    have k56 : ∀ (x y : BitVec 128) (t : Heap), callS12 56 [elX x, elX y, b] (h ++ t) = some (elX (polyX x y n g), h ++ t) := fun x y t => callS12_56 x y b n g (h ++ t) ⟨hb.app t, hn⟩
    repeat (first | (with_reducible refine Evs.assoc ?_) | ((with_reducible refine Evs.some_bnd ?_); try dsimp only [sqK_nrm, sqK_exit, sqK_ret]) | ((with_reducible apply Evs.bcndT); (focus (simp (disch := omega) [g0, g1, k56, fill0] <;> omega))) | ((with_reducible apply Evs.bcndF); (focus (simp (disch := omega) [g0, g1, k56, fill0] <;> omega))) | ((with_reducible apply Evs.step); (focus ((conv => lhs; simp (disch := omega) [g0, g1, k56, fill0]); done)); try dsimp only) | (simp only [sn33, snB]))
    exact Evs.ret ⟨_, _, rfl, by simp⟩
  obtain ⟨r, hr, env, t, rfl, e0⟩ := main
  refine ⟨t, ?_⟩
  rw [hr]
  simp [e0, oneOrTuple]

noncomputable def c33 := conC (fun x : (Nat → BitVec 8) × (AV) × (Nat) × (Nat → BitVec 8) => [arr 16 x.1, x.2.1]) (fun (x : (Nat → BitVec 8) × (AV) × (Nat) × (Nat → BitVec 8)) h => Byt h x.2.1 x.2.2.1 x.2.2.2 ∧ x.2.2.1 < 9223372036854775000) (fun (x : (Nat → BitVec 8) × (AV) × (Nat) × (Nat → BitVec 8)) h => (arr 16 (bytesX (polyX 0#128 (val16 x.1) x.2.2.1 x.2.2.2)), h))
noncomputable def callS13 : Calling := addC callS12 33 c33
theorem c33_eq (y : Nat → BitVec 8) (b : AV) (n : Nat) (g : Nat → BitVec 8) (h : Heap) (hc : Byt h b n g ∧ n < 9223372036854775000) : c33 [arr 16 y, b] h = some (arr 16 (bytesX (polyX 0#128 (val16 y) n g)), h) :=
  conC_eqP (enc := fun x : (Nat → BitVec 8) × (AV) × (Nat) × (Nat → BitVec 8) => [arr 16 x.1, x.2.1]) (P := fun (x : (Nat → BitVec 8) × (AV) × (Nat) × (Nat → BitVec 8)) h => Byt h x.2.1 x.2.2.1 x.2.2.2 ∧ x.2.2.1 < 9223372036854775000) (a := (y, b, n, g)) (f := fun (x : (Nat → BitVec 8) × (AV) × (Nat) × (Nat → BitVec 8)) h => (arr 16 (bytesX (polyX 0#128 (val16 x.1) x.2.2.1 x.2.2.2)), h)) (fun x y h hp hq e => by
    have e1 := arr_inj.1 (List.cons.inj e).1
    have e3 := (List.cons.inj (List.cons.inj e).2).1
    rw [e3] at hp
    obtain ⟨e4, e5⟩ := hp.1.det hq.1
    rw [val16_congr e1, e4]
    rw [polyX_congr (by rw [← e4]; exact e5)]
    ) hc
theorem callS13_ok : CallOK Try.prog callS13 := addC_con callS12_ok k33 fun x h hx => by
  obtain ⟨t, ht⟩ := walk33 h _ _ _ _ hx.1 hx.2
  exact (s33 callS12_ok ht).drop0 t rfl
@[simp] theorem callS13_ne {f : Nat} (args : List AV) (h : Heap) (hf : f ≠ 33) : callS13 f args h = callS12 f args h := addC_ne _ _ _ args h hf
@[simp] theorem callS13_sne {f : Nat} (args : List AV) (h : Heap) (hf : f ≠ 33) : still callS13 f args h = still callS12 f args h := still_ne _ _ _ args h hf
theorem callS13_33 (y : Nat → BitVec 8) (b : AV) (n : Nat) (g : Nat → BitVec 8) (h : Heap) (hc : Byt h b n g ∧ n < 9223372036854775000) : callS13 33 [arr 16 y, b] h = some (arr 16 (bytesX (polyX 0#128 (val16 y) n g)), h) := by
  unfold callS13; rw [addC_same]; exact c33_eq y b n g h hc
theorem callS13_33s (y : Nat → BitVec 8) (b : AV) (n : Nat) (g : Nat → BitVec 8) (h : Heap) (hc : Byt h b n g ∧ n < 9223372036854775000) : still callS13 33 [arr 16 y, b] h = some (arr 16 (bytesX (polyX 0#128 (val16 y) n g)), h) := still_of fun tt => callS13_33 y b n g (h ++ tt) (⟨hc.1.app tt, hc.2⟩)

end Go.Vab

/- How the evaluator reads the functions of a seat. Printed by wip/tools/gen.py (own work). -/
namespace Go.Vab
open Go Go.Proofs
noncomputable section
variable (call : Calling) (env : Env) (h : Heap) (s : St)
/-! vestry/siv.tag -/
def cx45 (call : Calling) : Ctx := ⟨call, TT, 58, [16, 17, 18, 19, 20, 21, 22, 23, 24, 25, 26, 27, 28, 29, 30, 31, 32, 33, 34, 35, 36, 37, 38, 42, 43, 44, 45, 46, 47, 48, 49, 50, 51, 52, 53, 54, 55, 56, 57]⟩
def n45_0 : Code := bodyOf Try.f45
def n45_1 : Code := cR n45_0
def n45_2 : Code := cR n45_1
def n45_3 : Code := cR n45_2
def n45_4 : Code := cR n45_3
def n45_5 : Code := cL n45_4
def n45_6 : Code := cR n45_5
def n45_7 : Code := cB n45_6
def n45_8 : Code := cB n45_7
def n45_9 : Code := cR n45_8
def n45_10 : Code := cL n45_9
def n45_11 : Code := cL n45_10
def n45_12 : Code := cR n45_10
def n45_13 : Code := cR n45_9
def n45_14 : Code := cL n45_13
def n45_15 : Code := cB n45_14
def n45_16 : Code := cR n45_15
def n45_17 : Code := cR n45_13
def n45_18 : Code := cR n45_4
def n45_19 : Code := cR n45_18
def n45_20 : Code := cR n45_19
@[simp] theorem n45_11_eq : evC (cx45 call) n45_11 s = some (.nrm, s) := xK
@[simp] theorem n45_12_eq : evC (cx45 call) n45_12 s = some (.exit 0, s) := xX 0
@[simp] theorem n45_10_eq : evC (cx45 call) n45_10 s = cnd (s.env.get 41) (evC (cx45 call) n45_11 s) (evC (cx45 call) n45_12 s) := xC 41 _ _
@[simp] theorem n45_16_eq : evC (cx45 call) n45_16 ⟨env, h⟩ = (bnd (pureV h (mIdxA (.arr 16 (.int .u8)) (env.get 13) (env.get 14))) fun r1 => bnd (pureV r1.2 (mLoad (.int .u8) r1.1 r1.2)) fun r2 => bnd (pureV r2.2 (mBin .xor r2.1 (env.get 15))) fun r4 => bnd (pureV r4.2 (mIdxA (.arr 16 (.int .u8)) (env.get 13) (env.get 14))) fun r5 => bnd (stU (.int .u8) r5.1 r4.1 r5.2) fun r6 => some (.nrm, ⟨env, r6.2⟩)) := (xR 7 (cOps n45_16)).trans (by
  refine opsK_0 ?_
  refine oT 44 (env.get 14) ?_
  refine oP 45 fun r1 => ?_
  refine oP 46 fun r2 => ?_
  refine oT 47 (env.get 15) ?_
  refine oP 48 fun r4 => ?_
  refine oP 49 fun r5 => ?_
  refine oN fun r6 => ?_
  exact oE)
@[simp] theorem n45_15_eq : evC (cx45 call) n45_15 ⟨env, h⟩ = (bnd (pureV h (mIndexA (.arr 12 (.int .u8)) (env.get 39) (env.get 40))) fun r1 => evC (cx45 call) n45_16 ⟨(Env.put (Env.put env 14 (env.get 40)) 15 r1.1), r1.2⟩) := (xSR 6 (cOps (cL n45_15)) (cR n45_15)).trans (by
  refine opsK_0 ?_
  refine oT 42 (env.get 40) ?_
  refine oP 43 fun r1 => ?_
  refine oT 14 (env.get 40) ?_
  refine oT 15 r1.1 ?_
  exact oE)
@[simp] theorem n45_14_eq : evC (cx45 call) n45_14 s = bnd (evC (cx45 call) n45_15 s) fun r => some (inBlk 1 r) := xB 1 _
@[simp] theorem n45_17_eq : evC (cx45 call) n45_17 ⟨env, h⟩ = (bnd (pureV h (mBin .add (env.get 40) (nat 1))) fun r0 => some (.nrm, ⟨(Env.put env 40 r0.1), r0.2⟩)) := (xR 8 (cOps n45_17)).trans (by
  refine opsK_0 ?_
  refine oP 50 fun r0 => ?_
  refine oT 40 r0.1 ?_
  exact oE)
@[simp] theorem n45_13_eq : evC (cx45 call) n45_13 s = bnd (evC (cx45 call) n45_14 s) (sqK (evC (cx45 call) n45_17)) := xS _ _
@[simp] theorem n45_9_eq : evC (cx45 call) n45_9 s = bnd (evC (cx45 call) n45_10 s) (sqK (evC (cx45 call) n45_13)) := xS _ _
@[simp] theorem n45_8_eq : evC (cx45 call) n45_8 ⟨env, h⟩ = (bnd (pureV h (mBin .lss (env.get 40) (nat 12))) fun r0 => evC (cx45 call) n45_9 ⟨(Env.put env 41 r0.1), r0.2⟩) := (xSR 5 (cOps (cL n45_8)) (cR n45_8)).trans (by
  refine opsK_0 ?_
  refine oP 41 fun r0 => ?_
  exact oE)
@[simp] theorem n45_7_eq : evC (cx45 call) n45_7 s = evLoop (evC (cx45 call) n45_8) s := xL _
@[simp] theorem n45_6_eq : evC (cx45 call) n45_6 s = bnd (evC (cx45 call) n45_7 s) fun r => some (inBlk 0 r) := xB 0 _
@[simp] theorem n45_5_eq : evC (cx45 call) n45_5 ⟨env, h⟩ = (bnd (pureV h (mLoad (.arr 12 (.int .u8)) (env.get 7) h)) fun r0 => evC (cx45 call) n45_6 ⟨(Env.put (Env.put env 39 r0.1) 40 (nat 0)), r0.2⟩) := (xSR 4 (cOps (cL n45_5)) (cR n45_5)).trans (by
  refine opsK_0 ?_
  refine oP 39 fun r0 => ?_
  refine oT 40 (nat 0) ?_
  exact oE)
@[simp] theorem n45_20_eq : evC (cx45 call) n45_20 s = some (.ret, s) := xE
@[simp] theorem n45_19_eq : evC (cx45 call) n45_19 ⟨env, h⟩ = (bnd (pureV h (mLoad (.arr 32 (.int .u8)) (env.get 6) h)) fun r0 => bnd (pureV r0.2 (mLoad (.arr 16 (.int .u8)) (env.get 13) r0.2)) fun r1 => bnd (call 19 [r0.1, r1.1] r1.2) fun r2 => bnd (stU (.arr 16 (.int .u8)) (env.get 10) r2.1 r2.2) fun r3 => evC (cx45 call) n45_20 ⟨env, r3.2⟩) := (xSR 10 (cOps (cL n45_19)) (cR n45_19)).trans (by
  refine opsK_0 ?_
  refine oP 55 fun r0 => ?_
  refine oP 56 fun r1 => ?_
  refine oP 57 fun r2 => ?_
  refine oN fun r3 => ?_
  exact oE)
@[simp] theorem n45_18_eq : evC (cx45 call) n45_18 ⟨env, h⟩ = (bnd (pureV h (mIdxA (.arr 16 (.int .u8)) (env.get 13) (nat 15))) fun r0 => bnd (pureV r0.2 (mLoad (.int .u8) r0.1 r0.2)) fun r1 => bnd (pureV r1.2 (mBin .and r1.1 (u8 127#8))) fun r2 => bnd (pureV r2.2 (mIdxA (.arr 16 (.int .u8)) (env.get 13) (nat 15))) fun r3 => bnd (stU (.int .u8) r3.1 r2.1 r3.2) fun r4 => evC (cx45 call) n45_19 ⟨env, r4.2⟩) := (xSR 9 (cOps (cL n45_18)) (cR n45_18)).trans (by
  refine opsK_0 ?_
  refine oP 51 fun r0 => ?_
  refine oP 52 fun r1 => ?_
  refine oP 53 fun r2 => ?_
  refine oP 54 fun r3 => ?_
  refine oN fun r4 => ?_
  exact oE)
@[simp] theorem n45_4_eq : evC (cx45 call) n45_4 s = bnd (evC (cx45 call) n45_5 s) (sqK (evC (cx45 call) n45_18)) := xS _ _
theorem n45_3_ok : drawOk (cOps (cL n45_3)).toList = true := by kernel_rfl
@[simp] theorem n45_3_eq : evC (cx45 call) n45_3 ⟨env, h⟩ = (bnd (pureV h (mLoad ty66 (env.get 12) h)) fun r0 => bnd (pureV r0.2 (mLenS (env.get 3))) fun r2 => bnd (pureV r2.2 (mConv .u64 r2.1)) fun r3 => bnd (pureV r3.2 (mBin .mul (u64 8#64) r3.1)) fun r4 => bnd (pureV r4.2 (mLenS (env.get 4))) fun r6 => bnd (pureV r6.2 (mConv .u64 r6.1)) fun r7 => bnd (pureV r7.2 (mBin .mul (u64 8#64) r7.1)) fun r8 => bnd (pureV r8.2 (fillRow ty66 (.node [(u64 0#64), (u64 0#64)]) [(0, r4.1), (1, r8.1)])) fun r9 => bnd (still call 59 [r0.1, r9.1] r9.2) fun r10 => bnd (pureV r10.2 (mLoad ty66 (env.get 11) r10.2)) fun r11 => bnd (still call 51 [r10.1, r11.1] r11.2) fun r12 => bnd (still call 52 [r12.1] r12.2) fun r13 => bnd (mNew (.arr 16 (.int .u8)) (arr 16 fun _ => 0#8) r13.2) fun r14 => bnd (stU (.arr 16 (.int .u8)) r14.1 r13.1 r14.2) fun r15 => evC (cx45 call) n45_4 ⟨(Env.put env 13 r14.1), r15.2⟩) := (xSD 3 (cOps (cL n45_3)) (cR n45_3) n45_3_ok).trans (by
  refine opsK_0 ?_
  refine oP 25 fun r0 => ?_
  refine oT 26 (env.get 3) ?_
  refine oP 27 fun r2 => ?_
  refine oP 28 fun r3 => ?_
  refine oP 29 fun r4 => ?_
  refine oT 30 (env.get 4) ?_
  refine oP 31 fun r6 => ?_
  refine oP 32 fun r7 => ?_
  refine oP 33 fun r8 => ?_
  refine oP 34 fun r9 => ?_
  refine oP 35 fun r10 => ?_
  refine oP 36 fun r11 => ?_
  refine oP 37 fun r12 => ?_
  refine oP 38 fun r13 => ?_
  refine oP 13 fun r14 => ?_
  refine oN fun r15 => ?_
  exact oE)
theorem n45_2_ok : drawOk (cOps (cL n45_2)).toList = true := by kernel_rfl
@[simp] theorem n45_2_eq : evC (cx45 call) n45_2 ⟨env, h⟩ = (bnd (pureV h (fillRow ty66 (.node [(u64 0#64), (u64 0#64)]) [])) fun r0 => bnd (pureV r0.2 (mLoad ty66 (env.get 11) r0.2)) fun r1 => bnd (still call 56 [r0.1, r1.1, (env.get 3)] r1.2) fun r3 => bnd (pureV r3.2 (mLoad ty66 (env.get 11) r3.2)) fun r4 => bnd (still call 56 [r3.1, r4.1, (env.get 4)] r4.2) fun r6 => bnd (mNew ty66 (.node [(u64 0#64), (u64 0#64)]) r6.2) fun r7 => bnd (stU ty66 r7.1 r6.1 r7.2) fun r8 => evC (cx45 call) n45_3 ⟨(Env.put env 12 r7.1), r8.2⟩) := (xSD 2 (cOps (cL n45_2)) (cR n45_2) n45_2_ok).trans (by
  refine opsK_0 ?_
  refine oP 18 fun r0 => ?_
  refine oP 19 fun r1 => ?_
  refine oT 20 (env.get 3) ?_
  refine oP 21 fun r3 => ?_
  refine oP 22 fun r4 => ?_
  refine oT 23 (env.get 4) ?_
  refine oP 24 fun r6 => ?_
  refine oP 12 fun r7 => ?_
  refine oN fun r8 => ?_
  exact oE)
@[simp] theorem n45_1_eq : evC (cx45 call) n45_1 ⟨env, h⟩ = (bnd (pureV h (mLoad (.arr 16 (.int .u8)) (env.get 5) h)) fun r0 => bnd (call 50 [r0.1] r0.2) fun r1 => bnd (mNew ty66 (.node [(u64 0#64), (u64 0#64)]) r1.2) fun r2 => bnd (stU ty66 r2.1 r1.1 r2.2) fun r3 => evC (cx45 call) n45_2 ⟨(Env.put env 11 r2.1), r3.2⟩) := (xSR 1 (cOps (cL n45_1)) (cR n45_1)).trans (by
  refine opsK_0 ?_
  refine oP 16 fun r0 => ?_
  refine oP 17 fun r1 => ?_
  refine oP 11 fun r2 => ?_
  refine oN fun r3 => ?_
  exact oE)
@[simp] theorem n45_0_eq : evC (cx45 call) n45_0 ⟨env, h⟩ = (bnd (mNew (.arr 16 (.int .u8)) (env.get 0) h) fun r0 => bnd (mNew (.arr 32 (.int .u8)) (env.get 1) r0.2) fun r1 => bnd (mNew (.arr 12 (.int .u8)) (env.get 2) r1.2) fun r2 => bnd (mNew (.arr 16 (.int .u8)) (arr 16 fun _ => 0#8) r2.2) fun r3 => evC (cx45 call) n45_1 ⟨(Env.put (Env.put (Env.put (Env.put env 5 r0.1) 6 r1.1) 7 r2.1) 10 r3.1), r3.2⟩) := (xSR 0 (cOps (cL n45_0)) (cR n45_0)).trans (by
  refine opsK_0 ?_
  refine oP 5 fun r0 => ?_
  refine oP 6 fun r1 => ?_
  refine oP 7 fun r2 => ?_
  refine oP 10 fun r3 => ?_
  exact oE)
theorem b45 (call : Calling) (a0 a1 a2 a3 a4 : AV) (h : Heap) : evBody (cx45 call) Try.f45 n45_0 [a0, a1, a2, a3, a4] h = bnd (evC (cx45 call) n45_0 ⟨[(0, a0), (1, a1), (2, a2), (3, a3), (4, a4), (5, .junk), (6, .junk), (7, .junk), (8, .junk), (9, .junk), (10, .junk), (11, .junk), (12, .junk), (13, .junk), (14, .junk), (15, .junk), (39, .junk), (40, .junk), (41, .junk)], h⟩) (retK fun s => bnd (bnd (mLoad (.arr 16 (.int .u8)) (s.env.get 10) s.heap) fun v => bnd (some []) fun vs => some (v :: vs)) fun vs => some (oneOrTuple vs)) := by kernel_rfl
theorem fn45 : Try.prog.funcs[45]? = some Try.f45 := by kernel_rfl
theorem k45 : Callable Try.prog 45 := ⟨Try.f45, fn45, by kernel_rfl, by kernel_rfl⟩
theorem s45 {call : Calling} (hc : CallOK Try.prog call) {args : List AV} {h h' : Heap} {v : AV} (he : evBody (cx45 call) Try.f45 n45_0 args h = some (v, h')) : Spec Try.prog 45 args h v h' := body_sound (C := cx45 call) TT_ok hc mixed_ok fn45 (by kernel_rfl) (by kernel_rfl) he
def sn45 := Y n45_11_eq (Y n45_12_eq (Y n45_10_eq (Y n45_16_eq (Y n45_15_eq (Y n45_14_eq (Y n45_17_eq (Y n45_13_eq (Y n45_9_eq (Y n45_8_eq (Y n45_7_eq (Y n45_6_eq (Y n45_5_eq (Y n45_20_eq (Y n45_19_eq (Y n45_18_eq (Y n45_4_eq (Y n45_3_eq (Y n45_2_eq (Y n45_1_eq (n45_0_eq))))))))))))))))))))
end
end Go.Vab

/-
  The tag, walked.
-/
namespace Go.Vab
open Go Go.Proofs

@[simp] theorem mIndexA_arr (n : Nat) (g : Nat → BitVec 8) (j : Nat) : mIndexA (.arr n (.int .u8)) (arr n g) (nat j) = if j < n then some (u8 (g j)) else none := by
  simp [mIndexA]

/-- The lengths, in bits. -/
def lenX (na nt : Nat) : BitVec 128 := (8#64 * BitVec.ofNat 64 nt) ++ (8#64 * BitVec.ofNat 64 na)
theorem elX_app (lo hi : BitVec 64) : elX (hi ++ lo) = el lo hi := by
  unfold elX
  congr 1
  · apply BitVec.eq_of_getLsbD_eq
    intro i hi
    rw [BitVec.getLsbD_setWidth, BitVec.getLsbD_append]
    simp [hi]
  · apply BitVec.eq_of_getLsbD_eq
    intro i hi
    rw [BitVec.getLsbD_setWidth, BitVec.getLsbD_ushiftRight, BitVec.getLsbD_append]
    simp [hi]
def sumX (H : BitVec 128) (na : Nat) (a : Nat → BitVec 8) (nt : Nat) (t : Nat → BitVec 8) : BitVec 128 :=
  dotX (polyX (polyX 0#128 H na a) H nt t ^^^ lenX na nt) H
def mixF (S nonce : Nat → BitVec 8) : Nat → BitVec 8 := fun j => if j < 12 then S j ^^^ nonce j else if j = 15 then S j &&& 127#8 else S j
def tagF (block key nonce : Nat → BitVec 8) (na : Nat) (a : Nat → BitVec 8) (nt : Nat) (t : Nat → BitVec 8) : Nat → BitVec 8 :=
  encF (wd key) (mixF (bytesX (sumX (val16 block) na a nt t)) nonce)
theorem tagF_congr {b b' k k' n n' : Nat → BitVec 8} {na : Nat} {a a' : Nat → BitVec 8} {nt : Nat} {t t' : Nat → BitVec 8} (hb : ∀ i, i < 16 → b i = b' i) (hk : ∀ i, i < 32 → k i = k' i) (hn : ∀ i, i < 12 → n i = n' i)
    (ha : ∀ i, i < na → a i = a' i) (ht : ∀ i, i < nt → t i = t' i) : ∀ j, j < 16 → tagF b k n na a nt t j = tagF b' k' n' na a' nt t' j :=
  encF_congr (fun i _ p hp => wd_congr hk i p hp) fun j hj => by
    unfold mixF sumX
    rw [val16_congr hb, polyX_congr ha, polyX_congr ht]
    split
    · rw [hn j (by assumption)]
    · rfl

def H45 (h : Heap) (block key nonce : Nat → BitVec 8) (p : BitVec 128) (f : Nat → BitVec 8) : Heap := h ++ [⟨arr 16 block, 0, .own⟩, ⟨arr 32 key, 0, .own⟩, ⟨arr 12 nonce, 0, .own⟩, ⟨arr 16 fun _ => 0#8, 0, .own⟩, ⟨elX (val16 block), 0, .own⟩, ⟨elX p, 0, .own⟩, ⟨arr 16 f, 0, .own⟩]
def B45 (L : Nat) (env : Env) : Prop := env.get 6 = .ptr (L + 1) 0 [] (.arr 32 (.int .u8)) ∧ env.get 10 = .ptr (L + 3) 0 [] (.arr 16 (.int .u8)) ∧ env.get 13 = .ptr (L + 6) 0 [] (.arr 16 (.int .u8))
theorem walk45 (h : Heap) (block key nonce : Nat → BitVec 8) (xa xt : AV) (na nt : Nat) (a t : Nat → BitVec 8) (ha : Byt h xa na a) (ht : Byt h xt nt t) (hna : na < 9223372036854775000) (hnt : nt < 9223372036854775000) :
    ∃ tr, evBody (cx45 callS13) Try.f45 n45_0 [arr 16 block, arr 32 key, arr 12 nonce, xa, xt] h = some (arr 16 (tagF block key nonce na a nt t), h ++ tr) := by
  rw [b45]
  have main : Evs (evC (cx45 callS13) n45_0 ⟨[(0, arr 16 block), (1, arr 32 key), (2, arr 12 nonce), (3, xa), (4, xt), (5, .junk), (6, .junk), (7, .junk), (8, .junk), (9, .junk), (10, .junk), (11, .junk), (12, .junk), (13, .junk), (14, .junk), (15, .junk), (39, .junk), (40, .junk), (41, .junk)], h⟩) (fun r => ∃ env tr, r = (.ret, ⟨env, h ++ tr⟩) ∧ mLoad (.arr 16 (.int .u8)) (env.get 10) (h ++ tr) = some (arr 16 (tagF block key nonce na a nt t))) := by
    obtain ⟨env, he⟩ : ∃ env : Env, env = [(0, arr 16 block), (1, arr 32 key), (2, arr 12 nonce), (3, xa), (4, xt), (5, .junk), (6, .junk), (7, .junk), (8, .junk), (9, .junk), (10, .junk), (11, .junk), (12, .junk), (13, .junk), (14, .junk), (15, .junk), (39, .junk), (40, .junk), (41, .junk)] := ⟨_, rfl⟩
    rw [← he]
    have g0 : env.get 0 = arr 16 block := by rw [he]; rfl
    have g1 : env.get 1 = arr 32 key := by rw [he]; rfl
    have g2 : env.get 2 = arr 12 nonce := by rw [he]; rfl
    have g3 : env.get 3 = xa := by rw [he]; rfl
    have g4 : env.get 4 = xt := by rw [he]; rfl
    clear he
    have k56a : ∀ (x y : BitVec 128) (t : Heap), still callS12 56 [elX x, elX y, xa] (h ++ t) = some (elX (polyX x y na a), h ++ t) := fun x y t => callS12_56s x y xa na a (h ++ t) ⟨ha.app t, hna⟩
    have k56t : ∀ (x y : BitVec 128) (tt : Heap), still callS12 56 [elX x, elX y, xt] (h ++ tt) = some (elX (polyX x y nt t), h ++ tt) := fun x y tt => callS12_56s x y xt nt t (h ++ tt) ⟨ht.app tt, hnt⟩
    have la := ha.len
    have lt := ht.len
    have fl : fillRow ty66 (.node [u64 0#64, u64 0#64]) [(0, u64 (8#64 * BitVec.ofNat 64 na)), (1, u64 (8#64 * BitVec.ofNat 64 nt))] = some (elX (lenX na nt)) := by
      rw [fill_el']; unfold lenX; rw [elX_app]
    repeat (first | (with_reducible refine Evs.assoc ?_) | ((with_reducible refine Evs.some_bnd ?_); try dsimp only [sqK_nrm, sqK_exit, sqK_ret]) | ((with_reducible apply Evs.bcndT); (focus (simp (disch := omega) [g0, g1, g2, g3, g4, k56a, k56t, la, lt, fl, fill0, zero_el] <;> omega))) | ((with_reducible apply Evs.bcndF); (focus (simp (disch := omega) [g0, g1, g2, g3, g4, k56a, k56t, la, lt, fl, fill0, zero_el] <;> omega))) | ((with_reducible apply Evs.step); (focus ((conv => lhs; simp (disch := omega) [g0, g1, g2, g3, g4, k56a, k56t, la, lt, fl, fill0, zero_el]); done)); try dsimp only) | (simp only [sn45, snB]))
    refine Evs.bnd (Q := fun r => ∃ env' f, r = (.exit 0, ⟨env', H45 h block key nonce (polyX (polyX 0#128 (val16 block) na a) (val16 block) nt t) f⟩) ∧ B45 h.length env' ∧ ∀ j, j < 16 → f j = if j < 12 then bytesX (sumX (val16 block) na a nt t) j ^^^ nonce j else bytesX (sumX (val16 block) na a nt t) j) ?_ ?_
    · refine Evs.up 12 (fun i s => ∃ env' f, s = ⟨env', H45 h block key nonce (polyX (polyX 0#128 (val16 block) na a) (val16 block) nt t) f⟩ ∧ B45 h.length env' ∧ env'.get 39 = arr 12 nonce ∧ env'.get 40 = nat i ∧ ∀ j, j < 16 → f j = if j < i then bytesX (sumX (val16 block) na a nt t) j ^^^ nonce j else bytesX (sumX (val16 block) na a nt t) j) ?_ ?_
        ⟨_, _, rfl, ⟨by simp, by simp, by simp⟩, by simp, by simp, fun j _ => by simp [sumX]⟩
      · rintro i s hi ⟨env', f, rfl, ⟨e6, e10, e13⟩, e39, e40, hf⟩
        unfold H45
        repeat (first | (with_reducible refine Evs.assoc ?_) | ((with_reducible refine Evs.some_bnd ?_); try dsimp only [sqK_nrm, sqK_exit, sqK_ret]) | ((with_reducible apply Evs.bcndT); (focus (simp (disch := omega) [e13, e39, e40] <;> omega))) | ((with_reducible apply Evs.bcndF); (focus (simp (disch := omega) [e13, e39, e40] <;> omega))) | ((with_reducible apply Evs.step); (focus ((conv => lhs; simp (disch := omega) [e13, e39, e40]); done)); try dsimp only) | (simp only [sn45, snB]))
        refine Evs.ret ⟨rfl, _, _, rfl, ⟨by simp [e6], by simp [e10], by simp [e13]⟩, by simp [e39], by simp, fun j hj => ?_⟩
        by_cases hji : j = i
        · subst hji
          rw [upd_same, hf j hj, if_neg (Nat.lt_irrefl _), if_pos (Nat.lt_succ_self _)]
        · rw [upd_ne _ _ hji, hf j hj]
          by_cases hlt : j < i
          · rw [if_pos hlt, if_pos (by omega)]
          · rw [if_neg hlt, if_neg (by omega)]
      · rintro s ⟨env', f, rfl, hB, e39, e40, hf⟩
        repeat (first | (with_reducible refine Evs.assoc ?_) | ((with_reducible refine Evs.some_bnd ?_); try dsimp only [sqK_nrm, sqK_exit, sqK_ret]) | ((with_reducible apply Evs.bcndT); (focus (simp (disch := omega) [e40] <;> omega))) | ((with_reducible apply Evs.bcndF); (focus (simp (disch := omega) [e40] <;> omega))) | ((with_reducible apply Evs.step); (focus ((conv => lhs; simp (disch := omega) [e40]); done)); try dsimp only) | (simp only [sn45, snB]))
        exact Evs.ret ⟨by simp, _, _, rfl, ⟨by simp [hB.1], by simp [hB.2.1], by simp [hB.2.2]⟩, hf⟩
    · rintro r ⟨env', f, rfl, ⟨e6, e10, e13⟩, hf⟩
      unfold H45
      repeat (first | (with_reducible refine Evs.assoc ?_) | ((with_reducible refine Evs.some_bnd ?_); try dsimp only [sqK_nrm, sqK_exit, sqK_ret]) | ((with_reducible apply Evs.bcndT); (focus (simp (disch := omega) [e6, e10, e13] <;> omega))) | ((with_reducible apply Evs.bcndF); (focus (simp (disch := omega) [e6, e10, e13] <;> omega))) | ((with_reducible apply Evs.step); (focus ((conv => lhs; simp (disch := omega) [e6, e10, e13]); done)); try dsimp only) | (simp only [sn45, snB]))
      refine Evs.ret ⟨_, _, rfl, ?_⟩
      simp only [e10]
      simp
      refine arr_congr fun j hj => ?_
      unfold tagF
      refine encF_congr (fun i _ p hp => rfl) (fun j hj => ?_) j hj
      unfold mixF
      by_cases h15 : j = 15
      · subst h15
        rw [upd_same, hf 15 (by omega)]; rfl
      · rw [upd_ne _ _ h15, hf j hj, if_neg h15]
  obtain ⟨r, hr, env, t, rfl, e0⟩ := main
  refine ⟨t, ?_⟩
  rw [hr]
  simp [e0, oneOrTuple]

noncomputable def c45 := conC (fun x : (Nat → BitVec 8) × (Nat → BitVec 8) × (Nat → BitVec 8) × (AV) × (AV) × (Nat) × (Nat) × (Nat → BitVec 8) × (Nat → BitVec 8) => [arr 16 x.1, arr 32 x.2.1, arr 12 x.2.2.1, x.2.2.2.1, x.2.2.2.2.1]) (fun (x : (Nat → BitVec 8) × (Nat → BitVec 8) × (Nat → BitVec 8) × (AV) × (AV) × (Nat) × (Nat) × (Nat → BitVec 8) × (Nat → BitVec 8)) h => Byt h x.2.2.2.1 x.2.2.2.2.2.1 x.2.2.2.2.2.2.2.1 ∧ Byt h x.2.2.2.2.1 x.2.2.2.2.2.2.1 x.2.2.2.2.2.2.2.2 ∧ x.2.2.2.2.2.1 < 9223372036854775000 ∧ x.2.2.2.2.2.2.1 < 9223372036854775000) (fun (x : (Nat → BitVec 8) × (Nat → BitVec 8) × (Nat → BitVec 8) × (AV) × (AV) × (Nat) × (Nat) × (Nat → BitVec 8) × (Nat → BitVec 8)) h => (arr 16 (tagF x.1 x.2.1 x.2.2.1 x.2.2.2.2.2.1 x.2.2.2.2.2.2.2.1 x.2.2.2.2.2.2.1 x.2.2.2.2.2.2.2.2), h))
noncomputable def callS14 : Calling := addC callS13 45 c45
theorem c45_eq (bl : Nat → BitVec 8) (k : Nat → BitVec 8) (n : Nat → BitVec 8) (xa : AV) (xt : AV) (na : Nat) (nt : Nat) (a : Nat → BitVec 8) (t : Nat → BitVec 8) (h : Heap) (hc : Byt h xa na a ∧ Byt h xt nt t ∧ na < 9223372036854775000 ∧ nt < 9223372036854775000) : c45 [arr 16 bl, arr 32 k, arr 12 n, xa, xt] h = some (arr 16 (tagF bl k n na a nt t), h) :=
  conC_eqP (enc := fun x : (Nat → BitVec 8) × (Nat → BitVec 8) × (Nat → BitVec 8) × (AV) × (AV) × (Nat) × (Nat) × (Nat → BitVec 8) × (Nat → BitVec 8) => [arr 16 x.1, arr 32 x.2.1, arr 12 x.2.2.1, x.2.2.2.1, x.2.2.2.2.1]) (P := fun (x : (Nat → BitVec 8) × (Nat → BitVec 8) × (Nat → BitVec 8) × (AV) × (AV) × (Nat) × (Nat) × (Nat → BitVec 8) × (Nat → BitVec 8)) h => Byt h x.2.2.2.1 x.2.2.2.2.2.1 x.2.2.2.2.2.2.2.1 ∧ Byt h x.2.2.2.2.1 x.2.2.2.2.2.2.1 x.2.2.2.2.2.2.2.2 ∧ x.2.2.2.2.2.1 < 9223372036854775000 ∧ x.2.2.2.2.2.2.1 < 9223372036854775000) (a := (bl, k, n, xa, xt, na, nt, a, t)) (f := fun (x : (Nat → BitVec 8) × (Nat → BitVec 8) × (Nat → BitVec 8) × (AV) × (AV) × (Nat) × (Nat) × (Nat → BitVec 8) × (Nat → BitVec 8)) h => (arr 16 (tagF x.1 x.2.1 x.2.2.1 x.2.2.2.2.2.1 x.2.2.2.2.2.2.2.1 x.2.2.2.2.2.2.1 x.2.2.2.2.2.2.2.2), h)) (fun x y h hp hq e => by
    have e1 := arr_inj.1 (List.cons.inj e).1
    have e2 := arr_inj.1 (List.cons.inj (List.cons.inj e).2).1
    have e3 := arr_inj.1 (List.cons.inj (List.cons.inj (List.cons.inj e).2).2).1
    have e4 := (List.cons.inj (List.cons.inj (List.cons.inj (List.cons.inj e).2).2).2).1
    have e5 := (List.cons.inj (List.cons.inj (List.cons.inj (List.cons.inj (List.cons.inj e).2).2).2).2).1
    rw [e4, e5] at hp
    obtain ⟨d1, d2⟩ := hp.1.det hq.1
    obtain ⟨d3, d4⟩ := hp.2.1.det hq.2.1
    rw [← d1, ← d3]
    simp only [Prod.mk.injEq, and_true]
    exact arr_congr (tagF_congr e1 e2 e3 d2 d4)
    ) hc
theorem callS14_ok : CallOK Try.prog callS14 := addC_con callS13_ok k45 fun x h hx => by
  obtain ⟨t, ht⟩ := walk45 h _ _ _ _ _ _ _ _ _ hx.1 hx.2.1 hx.2.2.1 hx.2.2.2
  exact (s45 callS13_ok ht).drop0 t rfl
@[simp] theorem callS14_ne {f : Nat} (args : List AV) (h : Heap) (hf : f ≠ 45) : callS14 f args h = callS13 f args h := addC_ne _ _ _ args h hf
@[simp] theorem callS14_sne {f : Nat} (args : List AV) (h : Heap) (hf : f ≠ 45) : still callS14 f args h = still callS13 f args h := still_ne _ _ _ args h hf
theorem callS14_45 (bl : Nat → BitVec 8) (k : Nat → BitVec 8) (n : Nat → BitVec 8) (xa : AV) (xt : AV) (na : Nat) (nt : Nat) (a : Nat → BitVec 8) (t : Nat → BitVec 8) (h : Heap) (hc : Byt h xa na a ∧ Byt h xt nt t ∧ na < 9223372036854775000 ∧ nt < 9223372036854775000) : callS14 45 [arr 16 bl, arr 32 k, arr 12 n, xa, xt] h = some (arr 16 (tagF bl k n na a nt t), h) := by
  unfold callS14; rw [addC_same]; exact c45_eq bl k n xa xt na nt a t h hc
theorem callS14_45s (bl : Nat → BitVec 8) (k : Nat → BitVec 8) (n : Nat → BitVec 8) (xa : AV) (xt : AV) (na : Nat) (nt : Nat) (a : Nat → BitVec 8) (t : Nat → BitVec 8) (h : Heap) (hc : Byt h xa na a ∧ Byt h xt nt t ∧ na < 9223372036854775000 ∧ nt < 9223372036854775000) : still callS14 45 [arr 16 bl, arr 32 k, arr 12 n, xa, xt] h = some (arr 16 (tagF bl k n na a nt t), h) := still_of fun tt => callS14_45 bl k n xa xt na nt a t (h ++ tt) (⟨hc.1.app tt, hc.2.1.app tt, hc.2.2⟩)

end Go.Vab

/- How the evaluator reads the functions of a seat. Printed by wip/tools/gen.py (own work). -/
namespace Go.Vab
open Go Go.Proofs
noncomputable section
variable (call : Calling) (env : Env) (h : Heap) (s : St)
/-! vestry/siv.stream -/
def cx60 (call : Calling) : Ctx := ⟨call, TT, 12, [7, 8, 9, 10, 11]⟩
def n60_0 : Code := bodyOf Try.f60
def n60_1 : Code := cR n60_0
def n60_2 : Code := cR n60_1
def n60_3 : Code := cR n60_2
def n60_4 : Code := cR n60_3
def n60_5 : Code := cR n60_4
@[simp] theorem n60_5_eq : evC (cx60 call) n60_5 s = some (.ret, s) := xE
@[simp] theorem n60_4_eq : evC (cx60 call) n60_4 ⟨env, h⟩ = ( evC (cx60 call) n60_5 ⟨(Env.put env 4 (.fn 62 [(env.get 6), (env.get 2), (env.get 3), (env.get 5)])), h⟩) := (xSR 4 (cOps (cL n60_4)) (cR n60_4)).trans (by
  refine opsK_0 ?_
  refine oT 11 (.fn 62 [(env.get 6), (env.get 2), (env.get 3), (env.get 5)]) ?_
  refine oT 4 (.fn 62 [(env.get 6), (env.get 2), (env.get 3), (env.get 5)]) ?_
  exact oE)
@[simp] theorem n60_3_eq : evC (cx60 call) n60_3 ⟨env, h⟩ = (bnd (mNew (.int .i64) (nat 0) h) fun r0 => bnd (stU (.int .i64) r0.1 (nat 16) r0.2) fun r1 => evC (cx60 call) n60_4 ⟨(Env.put env 6 r0.1), r1.2⟩) := (xSR 3 (cOps (cL n60_3)) (cR n60_3)).trans (by
  refine opsK_0 ?_
  refine oP 6 fun r0 => ?_
  refine oN fun r1 => ?_
  exact oE)
@[simp] theorem n60_2_eq : evC (cx60 call) n60_2 ⟨env, h⟩ = (bnd (mNew (.arr 16 (.int .u8)) (arr 16 fun _ => 0#8) h) fun r0 => evC (cx60 call) n60_3 ⟨(Env.put env 5 r0.1), r0.2⟩) := (xSR 2 (cOps (cL n60_2)) (cR n60_2)).trans (by
  refine opsK_0 ?_
  refine oP 5 fun r0 => ?_
  exact oE)
@[simp] theorem n60_1_eq : evC (cx60 call) n60_1 ⟨env, h⟩ = (bnd (pureV h (mIdxA (.arr 16 (.int .u8)) (env.get 3) (nat 15))) fun r0 => bnd (pureV r0.2 (mLoad (.int .u8) r0.1 r0.2)) fun r1 => bnd (pureV r1.2 (mBin .or r1.1 (u8 128#8))) fun r2 => bnd (pureV r2.2 (mIdxA (.arr 16 (.int .u8)) (env.get 3) (nat 15))) fun r3 => bnd (stU (.int .u8) r3.1 r2.1 r3.2) fun r4 => evC (cx60 call) n60_2 ⟨env, r4.2⟩) := (xSR 1 (cOps (cL n60_1)) (cR n60_1)).trans (by
  refine opsK_0 ?_
  refine oP 7 fun r0 => ?_
  refine oP 8 fun r1 => ?_
  refine oP 9 fun r2 => ?_
  refine oP 10 fun r3 => ?_
  refine oN fun r4 => ?_
  exact oE)
@[simp] theorem n60_0_eq : evC (cx60 call) n60_0 ⟨env, h⟩ = (bnd (mNew (.arr 32 (.int .u8)) (env.get 0) h) fun r0 => bnd (mNew (.arr 16 (.int .u8)) (env.get 1) r0.2) fun r1 => evC (cx60 call) n60_1 ⟨(Env.put (Env.put (Env.put env 2 r0.1) 3 r1.1) 4 .nilfn), r1.2⟩) := (xSR 0 (cOps (cL n60_0)) (cR n60_0)).trans (by
  refine opsK_0 ?_
  refine oP 2 fun r0 => ?_
  refine oP 3 fun r1 => ?_
  refine oT 4 .nilfn ?_
  exact oE)
theorem b60 (call : Calling) (a0 a1 : AV) (h : Heap) : evBody (cx60 call) Try.f60 n60_0 [a0, a1] h = bnd (evC (cx60 call) n60_0 ⟨[(0, a0), (1, a1), (2, .junk), (3, .junk), (4, .junk), (5, .junk), (6, .junk)], h⟩) (retK fun s => bnd (bnd (some (s.env.get 4)) fun v => bnd (some []) fun vs => some (v :: vs)) fun vs => some (oneOrTuple vs)) := by kernel_rfl
theorem fn60 : Try.prog.funcs[60]? = some Try.f60 := by kernel_rfl
theorem k60 : Callable Try.prog 60 := ⟨Try.f60, fn60, by kernel_rfl, by kernel_rfl⟩
theorem s60 {call : Calling} (hc : CallOK Try.prog call) {args : List AV} {h h' : Heap} {v : AV} (he : evBody (cx60 call) Try.f60 n60_0 args h = some (v, h')) : Spec Try.prog 60 args h v h' := body_sound (C := cx60 call) TT_ok hc mixed_ok fn60 (by kernel_rfl) (by kernel_rfl) he
def sn60 := Y n60_5_eq (Y n60_4_eq (Y n60_3_eq (Y n60_2_eq (Y n60_1_eq (n60_0_eq)))))
end
end Go.Vab

/- How the evaluator reads the functions of a seat. Printed by wip/tools/gen.py (own work). -/
namespace Go.Vab
open Go Go.Proofs
noncomputable section
variable (call : Calling) (env : Env) (h : Heap) (s : St)
/-! vestry/siv.stream$1 -/
def cx62 (call : Calling) : Ctx := ⟨call, TT, 30, [6, 8, 9, 10, 11, 13, 14, 15, 16, 17, 18, 19, 20, 21, 22, 24, 25, 26, 27, 28, 29]⟩
def n62_0 : Code := bodyOf Try.f62
def n62_1 : Code := cR n62_0
def n62_2 : Code := cL n62_1
def n62_3 : Code := cR n62_2
def n62_4 : Code := cL n62_3
def n62_5 : Code := cR n62_4
def n62_6 : Code := cR n62_5
def n62_7 : Code := cR n62_6
def n62_8 : Code := cB n62_7
def n62_9 : Code := cB n62_8
def n62_10 : Code := cL n62_9
def n62_11 : Code := cR n62_10
def n62_12 : Code := cL n62_11
def n62_13 : Code := cR n62_11
def n62_14 : Code := cR n62_9
def n62_15 : Code := cL n62_14
def n62_16 : Code := cB n62_15
def n62_17 : Code := cR n62_16
def n62_18 : Code := cR n62_17
def n62_19 : Code := cL n62_18
def n62_20 : Code := cR n62_18
def n62_21 : Code := cR n62_14
def n62_22 : Code := cR n62_3
def n62_23 : Code := cR n62_1
def n62_24 : Code := cR n62_23
def n62_25 : Code := cR n62_24
@[simp] theorem n62_12_eq : evC (cx62 call) n62_12 s = some (.nrm, s) := xK
@[simp] theorem n62_13_eq : evC (cx62 call) n62_13 s = some (.exit 0, s) := xX 0
@[simp] theorem n62_11_eq : evC (cx62 call) n62_11 s = cnd (s.env.get 12) (evC (cx62 call) n62_12 s) (evC (cx62 call) n62_13 s) := xC 12 _ _
@[simp] theorem n62_10_eq : evC (cx62 call) n62_10 ⟨env, h⟩ = (bnd (pureV h (mBin .lss (env.get 5) (nat 4))) fun r1 => evC (cx62 call) n62_11 ⟨(Env.put env 12 r1.1), r1.2⟩) := (xSR 5 (cOps (cL n62_10)) (cR n62_10)).trans (by
  refine opsK_0 ?_
  refine oT 11 (env.get 5) ?_
  refine oP 12 fun r1 => ?_
  exact oE)
@[simp] theorem n62_19_eq : evC (cx62 call) n62_19 s = some (.exit 0, s) := xX 0
@[simp] theorem n62_20_eq : evC (cx62 call) n62_20 s = some (.nrm, s) := xK
@[simp] theorem n62_18_eq : evC (cx62 call) n62_18 s = cnd (s.env.get 23) (evC (cx62 call) n62_19 s) (evC (cx62 call) n62_20 s) := xC 23 _ _
@[simp] theorem n62_17_eq : evC (cx62 call) n62_17 ⟨env, h⟩ = (bnd (pureV h (mIdxA (.arr 16 (.int .u8)) (env.get 2) (env.get 5))) fun r1 => bnd (pureV r1.2 (mLoad (.int .u8) r1.1 r1.2)) fun r2 => bnd (pureV r2.2 (mBin .neq r2.1 (u8 0#8))) fun r3 => evC (cx62 call) n62_18 ⟨(Env.put env 23 r3.1), r3.2⟩) := (xSR 8 (cOps (cL n62_17)) (cR n62_17)).trans (by
  refine opsK_0 ?_
  refine oT 20 (env.get 5) ?_
  refine oP 21 fun r1 => ?_
  refine oP 22 fun r2 => ?_
  refine oP 23 fun r3 => ?_
  exact oE)
@[simp] theorem n62_16_eq : evC (cx62 call) n62_16 ⟨env, h⟩ = (bnd (pureV h (mIdxA (.arr 16 (.int .u8)) (env.get 2) (env.get 5))) fun r1 => bnd (pureV r1.2 (mLoad (.int .u8) r1.1 r1.2)) fun r2 => bnd (pureV r2.2 (mBin .add r2.1 (u8 1#8))) fun r3 => bnd (pureV r3.2 (mIdxA (.arr 16 (.int .u8)) (env.get 2) (env.get 5))) fun r4 => bnd (stU (.int .u8) r4.1 r3.1 r4.2) fun r5 => evC (cx62 call) n62_17 ⟨env, r5.2⟩) := (xSR 7 (cOps (cL n62_16)) (cR n62_16)).trans (by
  refine opsK_0 ?_
  refine oT 15 (env.get 5) ?_
  refine oP 16 fun r1 => ?_
  refine oP 17 fun r2 => ?_
  refine oP 18 fun r3 => ?_
  refine oP 19 fun r4 => ?_
  refine oN fun r5 => ?_
  exact oE)
@[simp] theorem n62_15_eq : evC (cx62 call) n62_15 s = bnd (evC (cx62 call) n62_16 s) fun r => some (inBlk 1 r) := xB 1 _
@[simp] theorem n62_21_eq : evC (cx62 call) n62_21 ⟨env, h⟩ = (bnd (pureV h (mBin .add (env.get 5) (nat 1))) fun r1 => some (.nrm, ⟨(Env.put env 5 r1.1), r1.2⟩)) := (xR 6 (cOps n62_21)).trans (by
  refine opsK_0 ?_
  refine oT 13 (env.get 5) ?_
  refine oP 14 fun r1 => ?_
  refine oT 5 r1.1 ?_
  exact oE)
@[simp] theorem n62_14_eq : evC (cx62 call) n62_14 s = bnd (evC (cx62 call) n62_15 s) (sqK (evC (cx62 call) n62_21)) := xS _ _
@[simp] theorem n62_9_eq : evC (cx62 call) n62_9 s = bnd (evC (cx62 call) n62_10 s) (sqK (evC (cx62 call) n62_14)) := xS _ _
@[simp] theorem n62_8_eq : evC (cx62 call) n62_8 s = evLoop (evC (cx62 call) n62_9) s := xL _
@[simp] theorem n62_7_eq : evC (cx62 call) n62_7 s = bnd (evC (cx62 call) n62_8 s) fun r => some (inBlk 0 r) := xB 0 _
@[simp] theorem n62_6_eq : evC (cx62 call) n62_6 ⟨env, h⟩ = ( evC (cx62 call) n62_7 ⟨(Env.put env 5 (nat 0)), h⟩) := (xSR 4 (cOps (cL n62_6)) (cR n62_6)).trans (by
  refine opsK_0 ?_
  refine oT 5 (nat 0) ?_
  exact oE)
@[simp] theorem n62_5_eq : evC (cx62 call) n62_5 ⟨env, h⟩ = (bnd (stU (.int .i64) (env.get 0) (nat 0) h) fun r0 => evC (cx62 call) n62_6 ⟨env, r0.2⟩) := (xSR 3 (cOps (cL n62_5)) (cR n62_5)).trans (by
  refine opsK_0 ?_
  refine oN fun r0 => ?_
  exact oE)
@[simp] theorem n62_4_eq : evC (cx62 call) n62_4 ⟨env, h⟩ = (bnd (pureV h (mLoad (.arr 32 (.int .u8)) (env.get 1) h)) fun r0 => bnd (pureV r0.2 (mLoad (.arr 16 (.int .u8)) (env.get 2) r0.2)) fun r1 => bnd (call 19 [r0.1, r1.1] r1.2) fun r2 => bnd (stU (.arr 16 (.int .u8)) (env.get 3) r2.1 r2.2) fun r3 => evC (cx62 call) n62_5 ⟨env, r3.2⟩) := (xSR 2 (cOps (cL n62_4)) (cR n62_4)).trans (by
  refine opsK_0 ?_
  refine oP 8 fun r0 => ?_
  refine oP 9 fun r1 => ?_
  refine oP 10 fun r2 => ?_
  refine oN fun r3 => ?_
  exact oE)
@[simp] theorem n62_22_eq : evC (cx62 call) n62_22 s = some (.nrm, s) := xK
@[simp] theorem n62_3_eq : evC (cx62 call) n62_3 s = cnd (s.env.get 7) (evC (cx62 call) n62_4 s) (evC (cx62 call) n62_22 s) := xC 7 _ _
@[simp] theorem n62_2_eq : evC (cx62 call) n62_2 ⟨env, h⟩ = (bnd (pureV h (mLoad (.int .i64) (env.get 0) h)) fun r0 => bnd (pureV r0.2 (mBin .eql r0.1 (nat 16))) fun r1 => evC (cx62 call) n62_3 ⟨(Env.put env 7 r1.1), r1.2⟩) := (xSR 1 (cOps (cL n62_2)) (cR n62_2)).trans (by
  refine opsK_0 ?_
  refine oP 6 fun r0 => ?_
  refine oP 7 fun r1 => ?_
  exact oE)
@[simp] theorem n62_25_eq : evC (cx62 call) n62_25 s = some (.ret, s) := xE
@[simp] theorem n62_24_eq : evC (cx62 call) n62_24 ⟨env, h⟩ = (bnd (pureV h (mLoad (.int .i64) (env.get 0) h)) fun r0 => bnd (pureV r0.2 (mBin .sub r0.1 (nat 1))) fun r1 => bnd (pureV r1.2 (mIdxA (.arr 16 (.int .u8)) (env.get 3) r1.1)) fun r2 => bnd (pureV r2.2 (mLoad (.int .u8) r2.1 r2.2)) fun r3 => evC (cx62 call) n62_25 ⟨(Env.put env 4 r3.1), r3.2⟩) := (xSR 10 (cOps (cL n62_24)) (cR n62_24)).trans (by
  refine opsK_0 ?_
  refine oP 26 fun r0 => ?_
  refine oP 27 fun r1 => ?_
  refine oP 28 fun r2 => ?_
  refine oP 29 fun r3 => ?_
  refine oT 4 r3.1 ?_
  exact oE)
@[simp] theorem n62_23_eq : evC (cx62 call) n62_23 ⟨env, h⟩ = (bnd (pureV h (mLoad (.int .i64) (env.get 0) h)) fun r0 => bnd (pureV r0.2 (mBin .add r0.1 (nat 1))) fun r1 => bnd (stU (.int .i64) (env.get 0) r1.1 r1.2) fun r2 => evC (cx62 call) n62_24 ⟨env, r2.2⟩) := (xSR 9 (cOps (cL n62_23)) (cR n62_23)).trans (by
  refine opsK_0 ?_
  refine oP 24 fun r0 => ?_
  refine oP 25 fun r1 => ?_
  refine oN fun r2 => ?_
  exact oE)
@[simp] theorem n62_1_eq : evC (cx62 call) n62_1 s = bnd (evC (cx62 call) n62_2 s) (sqK (evC (cx62 call) n62_23)) := xS _ _
@[simp] theorem n62_0_eq : evC (cx62 call) n62_0 ⟨env, h⟩ = ( evC (cx62 call) n62_1 ⟨(Env.put env 4 (u8 0#8)), h⟩) := (xSR 0 (cOps (cL n62_0)) (cR n62_0)).trans (by
  refine opsK_0 ?_
  refine oT 4 (u8 0#8) ?_
  exact oE)
theorem b62 (call : Calling) (a0 a1 a2 a3 : AV) (h : Heap) : evBody (cx62 call) Try.f62 n62_0 [a0, a1, a2, a3] h = bnd (evC (cx62 call) n62_0 ⟨[(0, a0), (1, a1), (2, a2), (3, a3), (4, .junk), (5, .junk), (7, .junk), (12, .junk), (23, .junk)], h⟩) (retK fun s => bnd (bnd (some (s.env.get 4)) fun v => bnd (some []) fun vs => some (v :: vs)) fun vs => some (oneOrTuple vs)) := by kernel_rfl
theorem fn62 : Try.prog.funcs[62]? = some Try.f62 := by kernel_rfl
theorem k62 : Callable Try.prog 62 := ⟨Try.f62, fn62, by kernel_rfl, by kernel_rfl⟩
theorem s62 {call : Calling} (hc : CallOK Try.prog call) {args : List AV} {h h' : Heap} {v : AV} (he : evBody (cx62 call) Try.f62 n62_0 args h = some (v, h')) : Spec Try.prog 62 args h v h' := body_sound (C := cx62 call) TT_ok hc mixed_ok fn62 (by kernel_rfl) (by kernel_rfl) he
def sn62 := Y n62_12_eq (Y n62_13_eq (Y n62_11_eq (Y n62_10_eq (Y n62_19_eq (Y n62_20_eq (Y n62_18_eq (Y n62_17_eq (Y n62_16_eq (Y n62_15_eq (Y n62_21_eq (Y n62_14_eq (Y n62_9_eq (Y n62_8_eq (Y n62_7_eq (Y n62_6_eq (Y n62_5_eq (Y n62_4_eq (Y n62_22_eq (Y n62_3_eq (Y n62_2_eq (Y n62_25_eq (Y n62_24_eq (Y n62_23_eq (Y n62_1_eq (n62_0_eq)))))))))))))))))))))))))
end
end Go.Vab

/- How the evaluator reads the functions of a seat. Printed by wip/tools/gen.py (own work). -/
namespace Go.Vab
open Go Go.Proofs
noncomputable section
variable (call : Calling) (env : Env) (h : Heap) (s : St)
/-! vestry/siv.turned -/
def cx46 (call : Calling) : Ctx := ⟨call, TT, 36, [11, 12, 13, 14, 15, 16, 17, 18, 19, 24, 25, 26, 27, 28, 29, 30, 31, 32, 33, 34, 35]⟩
def n46_0 : Code := bodyOf Try.f46
def n46_1 : Code := cR n46_0
def n46_2 : Code := cR n46_1
def n46_3 : Code := cR n46_2
def n46_4 : Code := cL n46_3
def n46_5 : Code := cR n46_4
def n46_6 : Code := cB n46_5
def n46_7 : Code := cB n46_6
def n46_8 : Code := cR n46_7
def n46_9 : Code := cL n46_8
def n46_10 : Code := cL n46_9
def n46_11 : Code := cR n46_9
def n46_12 : Code := cR n46_8
def n46_13 : Code := cL n46_12
def n46_14 : Code := cB n46_13
def n46_15 : Code := cR n46_14
def n46_16 : Code := cR n46_12
def n46_17 : Code := cR n46_3
def n46_18 : Code := cR n46_17
@[simp] theorem n46_10_eq : evC (cx46 call) n46_10 s = some (.nrm, s) := xK
@[simp] theorem n46_11_eq : evC (cx46 call) n46_11 s = some (.exit 0, s) := xX 0
@[simp] theorem n46_9_eq : evC (cx46 call) n46_9 s = cnd (s.env.get 23) (evC (cx46 call) n46_10 s) (evC (cx46 call) n46_11 s) := xC 23 _ _
@[simp] theorem n46_15_eq : evC (cx46 call) n46_15 ⟨env, h⟩ = (bnd (callOf (cx46 call) false (env.get 7) [] h) fun r4 => bnd (pureV r4.2 (mBin .xor (env.get 10) r4.1)) fun r5 => bnd (pureV r5.2 (mIdxS (.int .u8) (env.get 8) (env.get 9))) fun r6 => bnd (stU (.int .u8) r6.1 r5.1 r6.2) fun r7 => some (.nrm, ⟨env, r7.2⟩)) := (xR 6 (cOps n46_15)).trans (by
  refine opsK_0 ?_
  refine oT 27 (env.get 8) ?_
  refine oT 28 (env.get 9) ?_
  refine oT 29 (env.get 10) ?_
  refine oT 30 (env.get 7) ?_
  refine oP 31 fun r4 => ?_
  refine oP 32 fun r5 => ?_
  refine oP 33 fun r6 => ?_
  refine oN fun r7 => ?_
  exact oE)
@[simp] theorem n46_14_eq : evC (cx46 call) n46_14 ⟨env, h⟩ = (bnd (pureV h (mIdxS (.int .u8) (env.get 20) (env.get 22))) fun r1 => bnd (pureV r1.2 (mLoad (.int .u8) r1.1 r1.2)) fun r2 => evC (cx46 call) n46_15 ⟨(Env.put (Env.put env 9 (env.get 22)) 10 r2.1), r2.2⟩) := (xSR 5 (cOps (cL n46_14)) (cR n46_14)).trans (by
  refine opsK_0 ?_
  refine oT 24 (env.get 22) ?_
  refine oP 25 fun r1 => ?_
  refine oP 26 fun r2 => ?_
  refine oT 9 (env.get 22) ?_
  refine oT 10 r2.1 ?_
  exact oE)
@[simp] theorem n46_13_eq : evC (cx46 call) n46_13 s = bnd (evC (cx46 call) n46_14 s) fun r => some (inBlk 1 r) := xB 1 _
@[simp] theorem n46_16_eq : evC (cx46 call) n46_16 ⟨env, h⟩ = (bnd (pureV h (mBin .add (env.get 22) (nat 1))) fun r0 => some (.nrm, ⟨(Env.put env 22 r0.1), r0.2⟩)) := (xR 7 (cOps n46_16)).trans (by
  refine opsK_0 ?_
  refine oP 34 fun r0 => ?_
  refine oT 22 r0.1 ?_
  exact oE)
@[simp] theorem n46_12_eq : evC (cx46 call) n46_12 s = bnd (evC (cx46 call) n46_13 s) (sqK (evC (cx46 call) n46_16)) := xS _ _
@[simp] theorem n46_8_eq : evC (cx46 call) n46_8 s = bnd (evC (cx46 call) n46_9 s) (sqK (evC (cx46 call) n46_12)) := xS _ _
@[simp] theorem n46_7_eq : evC (cx46 call) n46_7 ⟨env, h⟩ = (bnd (pureV h (mBin .lss (env.get 22) (env.get 21))) fun r0 => evC (cx46 call) n46_8 ⟨(Env.put env 23 r0.1), r0.2⟩) := (xSR 4 (cOps (cL n46_7)) (cR n46_7)).trans (by
  refine opsK_0 ?_
  refine oP 23 fun r0 => ?_
  exact oE)
@[simp] theorem n46_6_eq : evC (cx46 call) n46_6 s = evLoop (evC (cx46 call) n46_7) s := xL _
@[simp] theorem n46_5_eq : evC (cx46 call) n46_5 s = bnd (evC (cx46 call) n46_6 s) fun r => some (inBlk 0 r) := xB 0 _
@[simp] theorem n46_4_eq : evC (cx46 call) n46_4 ⟨env, h⟩ = (bnd (pureV h (mLenS (env.get 2))) fun r1 => evC (cx46 call) n46_5 ⟨(Env.put (Env.put (Env.put env 20 (env.get 2)) 21 r1.1) 22 (nat 0)), r1.2⟩) := (xSR 3 (cOps (cL n46_4)) (cR n46_4)).trans (by
  refine opsK_0 ?_
  refine oT 20 (env.get 2) ?_
  refine oP 21 fun r1 => ?_
  refine oT 22 (nat 0) ?_
  exact oE)
@[simp] theorem n46_18_eq : evC (cx46 call) n46_18 s = some (.ret, s) := xE
@[simp] theorem n46_17_eq : evC (cx46 call) n46_17 ⟨env, h⟩ = ( evC (cx46 call) n46_18 ⟨(Env.put env 6 (env.get 8)), h⟩) := (xSR 8 (cOps (cL n46_17)) (cR n46_17)).trans (by
  refine opsK_0 ?_
  refine oT 35 (env.get 8) ?_
  refine oT 6 (env.get 8) ?_
  exact oE)
@[simp] theorem n46_3_eq : evC (cx46 call) n46_3 s = bnd (evC (cx46 call) n46_4 s) (sqK (evC (cx46 call) n46_17)) := xS _ _
@[simp] theorem n46_2_eq : evC (cx46 call) n46_2 ⟨env, h⟩ = (bnd (pureV h (mLenS (env.get 2))) fun r1 => bnd (pureV r1.2 (mLenS (env.get 2))) fun r3 => bnd (pureV r3.2 (mBin .add r3.1 (nat 16))) fun r4 => bnd (mMake (.int .u8) 1 (u8 0#8) r1.1 r4.1 r4.2) fun r5 => evC (cx46 call) n46_3 ⟨(Env.put env 8 r5.1), r5.2⟩) := (xSR 2 (cOps (cL n46_2)) (cR n46_2)).trans (by
  refine opsK_0 ?_
  refine oT 14 (env.get 2) ?_
  refine oP 15 fun r1 => ?_
  refine oT 16 (env.get 2) ?_
  refine oP 17 fun r3 => ?_
  refine oP 18 fun r4 => ?_
  refine oP 19 fun r5 => ?_
  refine oT 8 r5.1 ?_
  exact oE)
@[simp] theorem n46_1_eq : evC (cx46 call) n46_1 ⟨env, h⟩ = (bnd (pureV h (mLoad (.arr 32 (.int .u8)) (env.get 3) h)) fun r0 => bnd (pureV r0.2 (mLoad (.arr 16 (.int .u8)) (env.get 4) r0.2)) fun r1 => bnd (call 60 [r0.1, r1.1] r1.2) fun r2 => evC (cx46 call) n46_2 ⟨(Env.put env 7 r2.1), r2.2⟩) := (xSR 1 (cOps (cL n46_1)) (cR n46_1)).trans (by
  refine opsK_0 ?_
  refine oP 11 fun r0 => ?_
  refine oP 12 fun r1 => ?_
  refine oP 13 fun r2 => ?_
  refine oT 7 r2.1 ?_
  exact oE)
@[simp] theorem n46_0_eq : evC (cx46 call) n46_0 ⟨env, h⟩ = (bnd (mNew (.arr 32 (.int .u8)) (env.get 0) h) fun r0 => bnd (mNew (.arr 16 (.int .u8)) (env.get 1) r0.2) fun r1 => evC (cx46 call) n46_1 ⟨(Env.put (Env.put (Env.put env 3 r0.1) 4 r1.1) 6 .nilslice), r1.2⟩) := (xSR 0 (cOps (cL n46_0)) (cR n46_0)).trans (by
  refine opsK_0 ?_
  refine oP 3 fun r0 => ?_
  refine oP 4 fun r1 => ?_
  refine oT 6 .nilslice ?_
  exact oE)
theorem b46 (call : Calling) (a0 a1 a2 : AV) (h : Heap) : evBody (cx46 call) Try.f46 n46_0 [a0, a1, a2] h = bnd (evC (cx46 call) n46_0 ⟨[(0, a0), (1, a1), (2, a2), (3, .junk), (4, .junk), (5, .junk), (6, .junk), (7, .junk), (8, .junk), (9, .junk), (10, .junk), (20, .junk), (21, .junk), (22, .junk), (23, .junk)], h⟩) (retK fun s => bnd (bnd (some (s.env.get 6)) fun v => bnd (some []) fun vs => some (v :: vs)) fun vs => some (oneOrTuple vs)) := by kernel_rfl
theorem fn46 : Try.prog.funcs[46]? = some Try.f46 := by kernel_rfl
theorem k46 : Callable Try.prog 46 := ⟨Try.f46, fn46, by kernel_rfl, by kernel_rfl⟩
theorem s46 {call : Calling} (hc : CallOK Try.prog call) {args : List AV} {h h' : Heap} {v : AV} (he : evBody (cx46 call) Try.f46 n46_0 args h = some (v, h')) : Spec Try.prog 46 args h v h' := body_sound (C := cx46 call) TT_ok hc mixed_ok fn46 (by kernel_rfl) (by kernel_rfl) he
def sn46 := Y n46_10_eq (Y n46_11_eq (Y n46_9_eq (Y n46_15_eq (Y n46_14_eq (Y n46_13_eq (Y n46_16_eq (Y n46_12_eq (Y n46_8_eq (Y n46_7_eq (Y n46_6_eq (Y n46_5_eq (Y n46_4_eq (Y n46_18_eq (Y n46_17_eq (Y n46_3_eq (Y n46_2_eq (Y n46_1_eq (n46_0_eq))))))))))))))))))
end
end Go.Vab

/-
  The stream and what it turns, walked.
-/
namespace Go.Vab
open Go Go.Proofs

@[simp] theorem mIdxS_slc (b ver : Nat) (path : List Nat) (off len : Nat) (cap : Option Nat) (j : Nat) : mIdxS (.int .u8) (.slice b ver path (.int .u8) off len cap) (nat j) = if j < len then some (.ptr b ver (path ++ [off + j]) (.int .u8)) else none := by
  by_cases h : j < len <;> simp [mIdxS, h]
theorem repl_arr (m : Nat) : AV.ints .u8 (List.replicate m ((0#8 : BitVec 8).toNat : Int)) = arr m fun _ => 0#8 := by
  unfold arr bytes
  congr 1
  apply List.ext_getElem?
  intro i
  rw [List.getElem?_replicate, List.getElem?_map, range_map_getD]
  split <;> simp_all
theorem mMake_u8 (l c : Nat) (h : Heap) (h1 : l ≤ c) (h2 : c ≤ roomBound) : mMake (.int .u8) 1 (u8 0#8) (nat l) (nat c) h = some (.slice h.length 0 [] (.int .u8) 0 l (some c), h ++ [⟨arr c fun _ => 0#8, 0, .own⟩]) := by
  rw [← repl_arr]
  simp only [mMake, nat, u8, hasTy, decide_true, Int.toNat_natCast, Int.natCast_nonneg, true_and, Nat.mul_one, and_true]
  rw [if_pos ⟨by omega, by unfold roomBound at h2 ⊢; omega, by unfold roomBound at h2 ⊢; omega⟩]
@[simp] theorem callOf46 (call : Calling) (g : Nat) (caps : List AV) (h : Heap) : callOf (cx46 call) false (.fn g caps) [] h = call g caps h := rfl

def topF (t : Nat → BitVec 8) : Nat → BitVec 8 := upd t 15 (t 15 ||| 128#8)

def strm (key c : Nat → BitVec 8) : Heap := [⟨arr 32 key, 0, .own⟩, ⟨arr 16 (topF c), 0, .own⟩, ⟨arr 16 fun _ => 0#8, 0, .own⟩, ⟨nat 16, 0, .own⟩]
theorem walk60 (call : Calling) (h : Heap) (key c : Nat → BitVec 8) : evBody (cx60 call) Try.f60 n60_0 [arr 32 key, arr 16 c] h =
    some (.fn 62 [.ptr (h.length + 3) 0 [] (.int .i64), .ptr h.length 0 [] (.arr 32 (.int .u8)), .ptr (h.length + 1) 0 [] (.arr 16 (.int .u8)), .ptr (h.length + 2) 0 [] (.arr 16 (.int .u8))], h ++ [⟨arr 32 key, 0, .own⟩, ⟨arr 16 (topF c), 0, .own⟩, ⟨arr 16 fun _ => 0#8, 0, .own⟩, ⟨nat 16, 0, .own⟩]) := by
  rw [b60]
  have main : Evs (evC (cx60 call) n60_0 ⟨[(0, arr 32 key), (1, arr 16 c), (2, .junk), (3, .junk), (4, .junk), (5, .junk), (6, .junk)], h⟩) (fun r => ∃ env, r = (.ret, ⟨env, h ++ [⟨arr 32 key, 0, .own⟩, ⟨arr 16 (topF c), 0, .own⟩, ⟨arr 16 fun _ => 0#8, 0, .own⟩, ⟨nat 16, 0, .own⟩]⟩) ∧ env.get 4 = .fn 62 [.ptr (h.length + 3) 0 [] (.int .i64), .ptr h.length 0 [] (.arr 32 (.int .u8)), .ptr (h.length + 1) 0 [] (.arr 16 (.int .u8)), .ptr (h.length + 2) 0 [] (.arr 16 (.int .u8))]) := by
    obtain ⟨env, he⟩ : ∃ env : Env, env = [(0, arr 32 key), (1, arr 16 c), (2, .junk), (3, .junk), (4, .junk), (5, .junk), (6, .junk)] := ⟨_, rfl⟩
    rw [← he]
    have g0 : env.get 0 = arr 32 key := by rw [he]; rfl
    have g1 : env.get 1 = arr 16 c := by rw [he]; rfl
    clear he
    repeat (first | (with_reducible refine Evs.assoc ?_) | ((with_reducible refine Evs.some_bnd ?_); try dsimp only [sqK_nrm, sqK_exit, sqK_ret]) | ((with_reducible apply Evs.bcndT); (focus (simp (disch := omega) [g0, g1] <;> omega))) | ((with_reducible apply Evs.bcndF); (focus (simp (disch := omega) [g0, g1] <;> omega))) | ((with_reducible apply Evs.step); (focus ((conv => lhs; simp (disch := omega) [g0, g1]); done)); try dsimp only) | (simp only [sn60, snB]))
    exact Evs.ret ⟨_, rfl, by simp⟩
  obtain ⟨r, hr, env, rfl, e0⟩ := main
  rw [hr]
  simp [e0, oneOrTuple]

noncomputable def c60 := conC (fun x : (Nat → BitVec 8) × (Nat → BitVec 8) => [arr 32 x.1, arr 16 x.2]) (fun (x : (Nat → BitVec 8) × (Nat → BitVec 8)) h => True) (fun (x : (Nat → BitVec 8) × (Nat → BitVec 8)) h => (.fn 62 [.ptr (h.length + 3) 0 [] (.int .i64), .ptr h.length 0 [] (.arr 32 (.int .u8)), .ptr (h.length + 1) 0 [] (.arr 16 (.int .u8)), .ptr (h.length + 2) 0 [] (.arr 16 (.int .u8))], h ++ strm x.1 x.2))
noncomputable def callS15 : Calling := addC callS14 60 c60
theorem c60_eq (k : Nat → BitVec 8) (c : Nat → BitVec 8) (h : Heap) : c60 [arr 32 k, arr 16 c] h = some (.fn 62 [.ptr (h.length + 3) 0 [] (.int .i64), .ptr h.length 0 [] (.arr 32 (.int .u8)), .ptr (h.length + 1) 0 [] (.arr 16 (.int .u8)), .ptr (h.length + 2) 0 [] (.arr 16 (.int .u8))], h ++ strm k c) :=
  conC_eq (enc := fun x : (Nat → BitVec 8) × (Nat → BitVec 8) => [arr 32 x.1, arr 16 x.2]) (P := fun (x : (Nat → BitVec 8) × (Nat → BitVec 8)) h => True) (a := (k, c)) (f := fun (x : (Nat → BitVec 8) × (Nat → BitVec 8)) h => (.fn 62 [.ptr (h.length + 3) 0 [] (.int .i64), .ptr h.length 0 [] (.arr 32 (.int .u8)), .ptr (h.length + 1) 0 [] (.arr 16 (.int .u8)), .ptr (h.length + 2) 0 [] (.arr 16 (.int .u8))], h ++ strm x.1 x.2)) (fun x y h e => by
    have e1 := arr_inj.1 (List.cons.inj e).1
    have e2 := arr_inj.1 (List.cons.inj (List.cons.inj e).2).1
    unfold strm
    rw [arr_congr e1, arr_congr (g := topF x.2) (g' := topF y.2) (fun i hi => by unfold topF upd; split; rw [e2 15 (by omega)]; exact e2 i hi)]
    ) trivial
theorem callS15_ok : CallOK Try.prog callS15 := addC_con callS14_ok k60 fun x h hx => by
  exact s60 callS14_ok (walk60 callS14 h x.1 x.2)
@[simp] theorem callS15_ne {f : Nat} (args : List AV) (h : Heap) (hf : f ≠ 60) : callS15 f args h = callS14 f args h := addC_ne _ _ _ args h hf
@[simp] theorem callS15_sne {f : Nat} (args : List AV) (h : Heap) (hf : f ≠ 60) : still callS15 f args h = still callS14 f args h := still_ne _ _ _ args h hf
@[simp] theorem callS15_60 (k : Nat → BitVec 8) (c : Nat → BitVec 8) (h : Heap) : callS15 60 [arr 32 k, arr 16 c] h = some (.fn 62 [.ptr (h.length + 3) 0 [] (.int .i64), .ptr h.length 0 [] (.arr 32 (.int .u8)), .ptr (h.length + 1) 0 [] (.arr 16 (.int .u8)), .ptr (h.length + 2) 0 [] (.arr 16 (.int .u8))], h ++ strm k c) := by
  unfold callS15; rw [addC_same]; exact c60_eq k c h

def w4 (c : Nat → BitVec 8) : BitVec 32 := c 3 ++ c 2 ++ c 1 ++ c 0
def S62 (h : Heap) (x1 x2 : Blk) (key c b : Nat → BitVec 8) (k : Nat) (tr : Heap) : Heap := h ++ (x1 :: x2 :: ⟨arr 32 key, 0, .own⟩ :: ⟨arr 16 c, 0, .own⟩ :: ⟨arr 16 b, 0, .own⟩ :: ⟨nat k, 0, .own⟩ :: tr)
def caps62 (L : Nat) : List AV := [.ptr (L + 5) 0 [] (.int .i64), .ptr (L + 2) 0 [] (.arr 32 (.int .u8)), .ptr (L + 3) 0 [] (.arr 16 (.int .u8)), .ptr (L + 4) 0 [] (.arr 16 (.int .u8))]

theorem w4_toNat (c : Nat → BitVec 8) : (w4 c).toNat = (c 0).toNat + 256 * (c 1).toNat + 65536 * (c 2).toNat + 16777216 * (c 3).toNat := by
  have h0 := (c 0).isLt
  have h1 := (c 1).isLt
  have h2 := (c 2).isLt
  have h3 := (c 3).isLt
  have cat : ∀ {n : Nat} (x : BitVec n) (y : BitVec 8), (x ++ y).toNat = x.toNat * 256 + y.toNat := fun x y => by
    rw [BitVec.toNat_append, ← Nat.shiftLeft_add_eq_or_of_lt y.isLt, Nat.shiftLeft_eq]
  unfold w4
  rw [cat, cat, cat]
  omega
theorem inc8_ne {x : BitVec 8} (h : x + 1#8 ≠ 0#8) : (x + 1#8).toNat = x.toNat + 1 := by
  have h1 := x.isLt
  have h2 : (x + 1#8).toNat ≠ 0 := fun q => h (BitVec.eq_of_toNat_eq q)
  rw [BitVec.toNat_add] at h2 ⊢
  simp at h2 ⊢
  omega
theorem inc8_eq {x : BitVec 8} (h : x + 1#8 = 0#8) : x = 255#8 := by
  have h1 := x.isLt
  have h2 := congrArg BitVec.toNat h
  apply BitVec.eq_of_toNat_eq
  rw [BitVec.toNat_add] at h2
  simp at h2 ⊢
  omega
theorem w4_next {c c' : Nat → BitVec 8} {i : Nat} (hi : i < 4) (h0 : ∀ j, j < i → c j = 255#8) (h1 : ∀ j, c' j = if j < i then 0#8 else if j = i then c j + 1#8 else c j) (h2 : c i + 1#8 ≠ 0#8) : w4 c' = w4 c + 1#32 := by
  apply BitVec.eq_of_toNat_eq
  rw [BitVec.toNat_add, w4_toNat, w4_toNat, h1 0, h1 1, h1 2, h1 3]
  have a0 := (c 0).isLt
  have a1 := (c 1).isLt
  have a2 := (c 2).isLt
  have a3 := (c 3).isLt
  have n1 := inc8_ne h2
  have l1 := (c i + 1#8).isLt
  rcases (by omega : i = 0 ∨ i = 1 ∨ i = 2 ∨ i = 3) with rfl | rfl | rfl | rfl
  · simp only [Nat.lt_irrefl, if_false, if_true, n1, Nat.not_lt_zero, Nat.succ_ne_zero, Nat.reduceEqDiff, BitVec.toNat_ofNat]
    omega
  · have q0 := congrArg BitVec.toNat (h0 0 (by omega))
    simp only [Nat.reduceLT, Nat.lt_irrefl, if_false, if_true, n1, Nat.not_lt_zero, Nat.reduceEqDiff, BitVec.toNat_ofNat] at q0 ⊢
    omega
  · have q0 := congrArg BitVec.toNat (h0 0 (by omega))
    have q1 := congrArg BitVec.toNat (h0 1 (by omega))
    simp only [Nat.reduceLT, Nat.lt_irrefl, if_false, if_true, n1, Nat.not_lt_zero, Nat.reduceEqDiff, BitVec.toNat_ofNat] at q0 q1 ⊢
    omega
  · have q0 := congrArg BitVec.toNat (h0 0 (by omega))
    have q1 := congrArg BitVec.toNat (h0 1 (by omega))
    have q2 := congrArg BitVec.toNat (h0 2 (by omega))
    simp only [Nat.reduceLT, Nat.lt_irrefl, if_false, if_true, n1, Nat.not_lt_zero, Nat.reduceEqDiff, BitVec.toNat_ofNat] at q0 q1 q2 ⊢
    omega
theorem w4_last {c c' : Nat → BitVec 8} (h0 : ∀ j, j < 4 → c j = 255#8) (h1 : ∀ j, j < 4 → c' j = 0#8) : w4 c' = w4 c + 1#32 := by
  unfold w4
  rw [h1 0 (by omega), h1 1 (by omega), h1 2 (by omega), h1 3 (by omega), h0 0 (by omega), h0 1 (by omega), h0 2 (by omega), h0 3 (by omega)]
  rfl

theorem inc62 (h : Heap) (x1 x2 : Blk) (key c b : Nat → BitVec 8) (k : Nat) (tr : Heap) (env : Env) (e2 : env.get 2 = .ptr (h.length + 3) 0 [] (.arr 16 (.int .u8))) (e5 : env.get 5 = nat 0) :
    Evs (evLoop (evC (cx62 callS15) n62_9) ⟨env, S62 h x1 x2 key c b k tr⟩) (fun r => ∃ env' c', r = (.exit 0, ⟨env', S62 h x1 x2 key c' b k tr⟩) ∧ Same [0, 1, 2, 3] env env' ∧ w4 c' = w4 c + 1#32 ∧ ∀ j, 4 ≤ j → c' j = c j) := by
  refine Evs.upto 4 (fun i s => ∃ env' c', s = ⟨env', S62 h x1 x2 key c' b k tr⟩ ∧ Same [0, 1, 2, 3] env env' ∧ env'.get 5 = nat i ∧ (∀ j, c' j = if j < i then 0#8 else c j) ∧ ∀ j, j < i → c j = 255#8) ?_ ?_
    ⟨_, _, rfl, Same.refl _ _, e5, fun j => by simp, fun j hj => absurd hj (by omega)⟩
  · rintro i s hi ⟨env', c', rfl, hs, f5, hc, h255⟩
    have f2 := (hs.get 2 rfl).trans e2
    have hci : c' i = c i := by rw [hc i, if_neg (Nat.lt_irrefl _)]
    unfold S62
    by_cases hz : c i + 1#8 = 0#8
    · have hz2 : c' i + 1#8 = 0#8 := by rw [hci]; exact hz
      repeat (first | (with_reducible refine Evs.assoc ?_) | ((with_reducible refine Evs.some_bnd ?_); try dsimp only [sqK_nrm, sqK_exit, sqK_ret]) | ((with_reducible apply Evs.bcndT); (focus (simp (disch := omega) [f2, f5, hz2] <;> omega))) | ((with_reducible apply Evs.bcndF); (focus (simp (disch := omega) [f2, f5, hz2] <;> omega))) | ((with_reducible apply Evs.step); (focus ((conv => lhs; simp (disch := omega) [f2, f5, hz2]); done)); try dsimp only) | (simp only [sn62, snB]))
      refine Evs.ret (.inl ⟨rfl, _, _, rfl, by repeat (first | exact hs | refine Same.put rfl ?_), by simp, fun j => ?_, fun j hj => ?_⟩)
      · by_cases hji : j = i
        · subst hji; rw [upd_same, if_pos (Nat.lt_succ_self _)]
        · rw [upd_ne _ _ hji, hc j]
          by_cases hlt : j < i
          · rw [if_pos hlt, if_pos (by omega)]
          · rw [if_neg hlt, if_neg (by omega)]
      · by_cases hji : j = i
        · subst hji; exact inc8_eq hz
        · exact h255 j (by omega)
    · have hz2 : ¬ c' i + 1#8 = 0#8 := by rw [hci]; exact hz
      repeat (first | (with_reducible refine Evs.assoc ?_) | ((with_reducible refine Evs.some_bnd ?_); try dsimp only [sqK_nrm, sqK_exit, sqK_ret]) | ((with_reducible apply Evs.bcndT); (focus (simp (disch := omega) [f2, f5, hz2, inBlk_other] <;> omega))) | ((with_reducible apply Evs.bcndF); (focus (simp (disch := omega) [f2, f5, hz2, inBlk_other] <;> omega))) | ((with_reducible apply Evs.step); (focus ((conv => lhs; simp (disch := omega) [f2, f5, hz2, inBlk_other]); done)); try dsimp only) | (simp only [sn62, snB]))
      refine Evs.ret (.inr ⟨by simp, _, _, rfl, by repeat (first | exact hs | refine Same.put rfl ?_), w4_next hi h255 (fun j => ?_) hz, fun j hj => ?_⟩)
      · by_cases hji : j = i
        · subst hji; rw [upd_same, if_neg (Nat.lt_irrefl _), if_pos rfl, hci]
        · rw [upd_ne _ _ hji, hc j, if_neg hji]
      · rw [upd_ne _ _ (by omega), hc j, if_neg (by omega)]
  · rintro s ⟨env', c', rfl, hs, f5, hc, h255⟩
    repeat (first | (with_reducible refine Evs.assoc ?_) | ((with_reducible refine Evs.some_bnd ?_); try dsimp only [sqK_nrm, sqK_exit, sqK_ret]) | ((with_reducible apply Evs.bcndT); (focus (simp (disch := omega) [f5] <;> omega))) | ((with_reducible apply Evs.bcndF); (focus (simp (disch := omega) [f5] <;> omega))) | ((with_reducible apply Evs.step); (focus ((conv => lhs; simp (disch := omega) [f5]); done)); try dsimp only) | (simp only [sn62, snB]))
    refine Evs.ret ⟨by simp, _, _, rfl, by repeat (first | exact hs | refine Same.put rfl ?_), w4_last h255 (fun j hj => by rw [hc j, if_pos hj]), fun j hj => by rw [hc j, if_neg (by omega)]⟩

/-- A byte of the stream, of a new block. -/
theorem walk62a (h0 : Heap) (x1 x2 : Blk) (key c b : Nat → BitVec 8) (tr : Heap) :
    ∃ c', evBody (cx62 callS15) Try.f62 n62_0 (caps62 h0.length) (S62 h0 x1 x2 key c b 16 tr) = some (u8 (encF (wd key) c 0), S62 h0 x1 x2 key c' (encF (wd key) c) 1 tr) ∧ w4 c' = w4 c + 1#32 ∧ ∀ j, 4 ≤ j → c' j = c j := by
  obtain ⟨h, hH⟩ : ∃ H, H = S62 h0 x1 x2 key c b 16 tr := ⟨_, rfl⟩
  rw [← hH]
  unfold caps62
  rw [b62]
  have main : Evs (evC (cx62 callS15) n62_0 ⟨[(0, .ptr (h0.length + 5) 0 [] (.int .i64)), (1, .ptr (h0.length + 2) 0 [] (.arr 32 (.int .u8))), (2, .ptr (h0.length + 3) 0 [] (.arr 16 (.int .u8))), (3, .ptr (h0.length + 4) 0 [] (.arr 16 (.int .u8))), (4, .junk), (5, .junk), (7, .junk), (12, .junk), (23, .junk)], h⟩) (fun r => ∃ env c', r = (.ret, ⟨env, S62 h0 x1 x2 key c' (encF (wd key) c) 1 tr⟩) ∧ env.get 4 = u8 (encF (wd key) c 0) ∧ w4 c' = w4 c + 1#32 ∧ ∀ j, 4 ≤ j → c' j = c j) := by
    obtain ⟨env, he⟩ : ∃ env : Env, env = [(0, .ptr (h0.length + 5) 0 [] (.int .i64)), (1, .ptr (h0.length + 2) 0 [] (.arr 32 (.int .u8))), (2, .ptr (h0.length + 3) 0 [] (.arr 16 (.int .u8))), (3, .ptr (h0.length + 4) 0 [] (.arr 16 (.int .u8))), (4, .junk), (5, .junk), (7, .junk), (12, .junk), (23, .junk)] := ⟨_, rfl⟩
    rw [← he]
    have g0 : env.get 0 = .ptr (h0.length + 5) 0 [] (.int .i64) := by rw [he]; rfl
    have g1 : env.get 1 = .ptr (h0.length + 2) 0 [] (.arr 32 (.int .u8)) := by rw [he]; rfl
    have g2 : env.get 2 = .ptr (h0.length + 3) 0 [] (.arr 16 (.int .u8)) := by rw [he]; rfl
    have g3 : env.get 3 = .ptr (h0.length + 4) 0 [] (.arr 16 (.int .u8)) := by rw [he]; rfl
    clear he
    subst hH
    unfold S62
    repeat (first | (with_reducible refine Evs.assoc ?_) | ((with_reducible refine Evs.some_bnd ?_); try dsimp only [sqK_nrm, sqK_exit, sqK_ret]) | ((with_reducible apply Evs.bcndT); (focus (simp (disch := omega) [g0, g1, g2, g3] <;> omega))) | ((with_reducible apply Evs.bcndF); (focus (simp (disch := omega) [g0, g1, g2, g3] <;> omega))) | ((with_reducible apply Evs.step); (focus ((conv => lhs; simp (disch := omega) [g0, g1, g2, g3]); done)); try dsimp only) | (simp only [sn62, snB]))
    refine Evs.bnd (inc62 h0 x1 x2 key c (encF (wd key) c) 0 tr _ ?_ ?_) ?_
    · simp [g2]
    · simp
    rintro r ⟨env', c', rfl, hs, hw, hc⟩
    have f0 := hs.get 0 rfl
    have f3 := hs.get 3 rfl
    simp only [env_get_put, g0, g3] at f0 f3
    simp at f0 f3
    unfold S62
    repeat (first | (with_reducible refine Evs.assoc ?_) | ((with_reducible refine Evs.some_bnd ?_); try dsimp only [sqK_nrm, sqK_exit, sqK_ret]) | ((with_reducible apply Evs.bcndT); (focus (simp (disch := omega) [f0, f3] <;> omega))) | ((with_reducible apply Evs.bcndF); (focus (simp (disch := omega) [f0, f3] <;> omega))) | ((with_reducible apply Evs.step); (focus ((conv => lhs; simp (disch := omega) [f0, f3]); done)); try dsimp only) | (simp only [sn62, snB]))
    exact Evs.ret ⟨_, c', rfl, by simp, hw, hc⟩
  obtain ⟨r, hr, env, c', rfl, e0, e1, e2⟩ := main
  refine ⟨c', ?_, e1, e2⟩
  rw [hr]
  simp [e0, oneOrTuple]

/-- A byte of the stream, of the same block. -/
theorem walk62b (h0 : Heap) (x1 x2 : Blk) (key c b : Nat → BitVec 8) (k : Nat) (tr : Heap) (hk : k < 16) :
    evBody (cx62 callS15) Try.f62 n62_0 (caps62 h0.length) (S62 h0 x1 x2 key c b k tr) = some (u8 (b k), S62 h0 x1 x2 key c b (k + 1) tr) := by
  obtain ⟨h, hH⟩ : ∃ H, H = S62 h0 x1 x2 key c b k tr := ⟨_, rfl⟩
  rw [← hH]
  unfold caps62
  rw [b62]
  have main : Evs (evC (cx62 callS15) n62_0 ⟨[(0, .ptr (h0.length + 5) 0 [] (.int .i64)), (1, .ptr (h0.length + 2) 0 [] (.arr 32 (.int .u8))), (2, .ptr (h0.length + 3) 0 [] (.arr 16 (.int .u8))), (3, .ptr (h0.length + 4) 0 [] (.arr 16 (.int .u8))), (4, .junk), (5, .junk), (7, .junk), (12, .junk), (23, .junk)], h⟩) (fun r => ∃ env, r = (.ret, ⟨env, S62 h0 x1 x2 key c b (k + 1) tr⟩) ∧ env.get 4 = u8 (b k)) := by
    obtain ⟨env, he⟩ : ∃ env : Env, env = [(0, .ptr (h0.length + 5) 0 [] (.int .i64)), (1, .ptr (h0.length + 2) 0 [] (.arr 32 (.int .u8))), (2, .ptr (h0.length + 3) 0 [] (.arr 16 (.int .u8))), (3, .ptr (h0.length + 4) 0 [] (.arr 16 (.int .u8))), (4, .junk), (5, .junk), (7, .junk), (12, .junk), (23, .junk)] := ⟨_, rfl⟩
    rw [← he]
    have g0 : env.get 0 = .ptr (h0.length + 5) 0 [] (.int .i64) := by rw [he]; rfl
    have g1 : env.get 1 = .ptr (h0.length + 2) 0 [] (.arr 32 (.int .u8)) := by rw [he]; rfl
    have g2 : env.get 2 = .ptr (h0.length + 3) 0 [] (.arr 16 (.int .u8)) := by rw [he]; rfl
    have g3 : env.get 3 = .ptr (h0.length + 4) 0 [] (.arr 16 (.int .u8)) := by rw [he]; rfl
    clear he
    subst hH
    unfold S62
    repeat (first | (with_reducible refine Evs.assoc ?_) | ((with_reducible refine Evs.some_bnd ?_); try dsimp only [sqK_nrm, sqK_exit, sqK_ret]) | ((with_reducible apply Evs.bcndT); (focus (simp (disch := omega) [g0, g1, g2, g3] <;> omega))) | ((with_reducible apply Evs.bcndF); (focus (simp (disch := omega) [g0, g1, g2, g3] <;> omega))) | ((with_reducible apply Evs.step); (focus ((conv => lhs; simp (disch := omega) [g0, g1, g2, g3]); done)); try dsimp only) | (simp only [sn62, snB]))
    exact Evs.ret ⟨_, rfl, by simp⟩
  obtain ⟨r, hr, env, rfl, e0⟩ := main
  rw [hr]
  simp [e0, oneOrTuple]

/-- The stream's function, as it is. -/
noncomputable def callS16 : Calling := addC callS15 62 fun args h => evBody (cx62 callS15) Try.f62 n62_0 args h
theorem callS16_ok : CallOK Try.prog callS16 := addC_ok callS15_ok k62 fun args h v h' he => s62 callS15_ok he
@[simp] theorem callS16_ne {f : Nat} (args : List AV) (h : Heap) (hf : f ≠ 62) : callS16 f args h = callS15 f args h := addC_ne _ _ _ args h hf
@[simp] theorem callS16_sne {f : Nat} (args : List AV) (h : Heap) (hf : f ≠ 62) : still callS16 f args h = still callS15 f args h := still_ne _ _ _ args h hf
theorem callS16_62 (args : List AV) (h : Heap) : callS16 62 args h = evBody (cx62 callS15) Try.f62 n62_0 args h := addC_same _ _ _ _ _

/-- The counter block, q blocks on. -/
def ctr (c : Nat → BitVec 8) (q : Nat) : Nat → BitVec 8 := fun j => if j < 4 then ((w4 c + BitVec.ofNat 32 q) >>> (8 * j)).setWidth 8 else c j
theorem ctr_of {c c' : Nat → BitVec 8} {q : Nat} (h : w4 c' = w4 c + BitVec.ofNat 32 q) (hc : ∀ j, 4 ≤ j → c' j = c j) (j : Nat) : c' j = ctr c q j := by
  unfold ctr
  by_cases hj : j < 4
  · rw [if_pos hj, ← h]
    apply BitVec.eq_of_toNat_eq
    rw [BitVec.toNat_setWidth, BitVec.toNat_ushiftRight, w4_toNat, Nat.shiftRight_eq_div_pow]
    have a0 := (c' 0).isLt
    have a1 := (c' 1).isLt
    have a2 := (c' 2).isLt
    have a3 := (c' 3).isLt
    rcases (by omega : j = 0 ∨ j = 1 ∨ j = 2 ∨ j = 3) with rfl | rfl | rfl | rfl
    all_goals
      simp only [Nat.mul_zero, Nat.mul_one, Nat.reduceMul, Nat.reducePow]
      omega
  · rw [if_neg hj]; exact hc j (by omega)
/-- What is turned. -/
def turnF (key t : Nat → BitVec 8) (n : Nat) (g : Nat → BitVec 8) : Nat → BitVec 8 := fun j => if j < n then g j ^^^ encF (wd key) (ctr (topF t) (j / 16)) (j % 16) else 0#8

def I46 (h : Heap) (key t : Nat → BitVec 8) (x : AV) (n : Nat) (g : Nat → BitVec 8) (i : Nat) (s : St) : Prop :=
  ∃ env' c' b' k' q o, s = ⟨env', S62 h ⟨arr 32 key, 0, .own⟩ ⟨arr 16 t, 0, .own⟩ key c' b' k' [⟨arr (n + 16) o, 0, .own⟩]⟩ ∧ env'.get 7 = .fn 62 (caps62 h.length) ∧ env'.get 8 = .slice (h.length + 6) 0 [] (.int .u8) 0 n (some (n + 16)) ∧ env'.get 20 = x ∧ env'.get 21 = nat n ∧ env'.get 22 = nat i ∧
    k' + 16 * q = i + 16 ∧ k' ≤ 16 ∧ (0 < q → 1 ≤ k') ∧ w4 c' = w4 (topF t) + BitVec.ofNat 32 q ∧ (∀ j, 4 ≤ j → c' j = topF t j) ∧ (0 < q → ∀ j, j < 16 → b' j = encF (wd key) (ctr (topF t) (q - 1)) j) ∧ ∀ j, j < n + 16 → o j = if j < i then turnF key t n g j else 0#8

set_option maxHeartbeats 4000000 in
theorem walk46 (h : Heap) (key t : Nat → BitVec 8) (x : AV) (n : Nat) (g : Nat → BitVec 8) (hb : Byt h x n g) (hn : n < 100000000) :
    ∃ tr, evBody (cx46 callS16) Try.f46 n46_0 [arr 32 key, arr 16 t, x] h = some (.slice (h.length + 6) 0 [] (.int .u8) 0 n (some (n + 16)), h ++ tr) ∧ tr[6]? = some ⟨arr (n + 16) (turnF key t n g), 0, .own⟩ := by
  rw [b46]
  have main : Evs (evC (cx46 callS16) n46_0 ⟨[(0, arr 32 key), (1, arr 16 t), (2, x), (3, .junk), (4, .junk), (5, .junk), (6, .junk), (7, .junk), (8, .junk), (9, .junk), (10, .junk), (20, .junk), (21, .junk), (22, .junk), (23, .junk)], h⟩) (fun r => ∃ env tr, r = (.ret, ⟨env, h ++ tr⟩) ∧ env.get 6 = .slice (h.length + 6) 0 [] (.int .u8) 0 n (some (n + 16)) ∧ tr[6]? = some ⟨arr (n + 16) (turnF key t n g), 0, .own⟩) := by
    obtain ⟨env, he⟩ : ∃ env : Env, env = [(0, arr 32 key), (1, arr 16 t), (2, x), (3, .junk), (4, .junk), (5, .junk), (6, .junk), (7, .junk), (8, .junk), (9, .junk), (10, .junk), (20, .junk), (21, .junk), (22, .junk), (23, .junk)] := ⟨_, rfl⟩
    rw [← he]
    have g0 : env.get 0 = arr 32 key := by rw [he]; rfl
    have g1 : env.get 1 = arr 16 t := by rw [he]; rfl
    have g2 : env.get 2 = x := by rw [he]; rfl
    clear he
    have hl := hb.len
    have mk : ∀ H : Heap, mMake (.int .u8) 1 (u8 0#8) (nat n) (nat (n + 16)) H = some (.slice H.length 0 [] (.int .u8) 0 n (some (n + 16)), H ++ [⟨arr (n + 16) fun _ => 0#8, 0, .own⟩]) := fun H => mMake_u8 n (n + 16) H (by omega) (by unfold roomBound; omega)
    repeat (first | (with_reducible refine Evs.assoc ?_) | ((with_reducible refine Evs.some_bnd ?_); try dsimp only [sqK_nrm, sqK_exit, sqK_ret]) | ((with_reducible apply Evs.bcndT); (focus (simp (disch := omega) [g0, g1, g2, hl, mk, strm] <;> omega))) | ((with_reducible apply Evs.bcndF); (focus (simp (disch := omega) [g0, g1, g2, hl, mk, strm] <;> omega))) | ((with_reducible apply Evs.step); (focus ((conv => lhs; simp (disch := omega) [g0, g1, g2, hl, mk, strm]); done)); try dsimp only) | (simp only [sn46, snB]))
    refine Evs.bnd (Q := fun r => ∃ env' c' b' k' o, r = (.exit 0, ⟨env', S62 h ⟨arr 32 key, 0, .own⟩ ⟨arr 16 t, 0, .own⟩ key c' b' k' [⟨arr (n + 16) o, 0, .own⟩]⟩) ∧ env'.get 8 = .slice (h.length + 6) 0 [] (.int .u8) 0 n (some (n + 16)) ∧ ∀ j, j < n + 16 → o j = turnF key t n g j) ?_ ?_
    · refine Evs.up n (fun i s => I46 h key t x n g i s) ?_ ?_
        ⟨_, topF t, _, 16, 0, _, rfl, by simp [caps62], by simp, by simp [g2], by simp, by simp, by omega, by omega, by omega, by simp, fun j _ => rfl, fun hq => absurd hq (by omega), fun j _ => by simp⟩
      · rintro i s hi ⟨env', c', b', k', q, o, rfl, e7, e8, e20, e21, e22, i1, i2, i3, i4, i5, i6, i7⟩
        obtain ⟨p, p1, p2, p3⟩ := hb.idx hi
        by_cases hk : k' = 16
        · subst hk
          obtain ⟨c2, w1, w2, w3⟩ := walk62a h ⟨arr 32 key, 0, .own⟩ ⟨arr 16 t, 0, .own⟩ key c' b' [⟨arr (n + 16) o, 0, .own⟩]
          rw [← callS16_62] at w1
          unfold S62 at w1 ⊢
          repeat (first | (with_reducible refine Evs.assoc ?_) | ((with_reducible refine Evs.some_bnd ?_); try dsimp only [sqK_nrm, sqK_exit, sqK_ret]) | ((with_reducible apply Evs.bcndT); (focus (simp (disch := omega) [e7, e8, e20, e21, e22, p1, p3, w1] <;> omega))) | ((with_reducible apply Evs.bcndF); (focus (simp (disch := omega) [e7, e8, e20, e21, e22, p1, p3, w1] <;> omega))) | ((with_reducible apply Evs.step); (focus ((conv => lhs; simp (disch := omega) [e7, e8, e20, e21, e22, p1, p3, w1]); done)); try dsimp only) | (simp only [sn46, snB]))
          refine Evs.ret ⟨rfl, _, c2, _, 1, q + 1, _, rfl, by simp [e7], by simp [e8], by simp [e20], by simp [e21], by simp, by omega, by omega, by omega, ?_, fun j hj => (w3 j hj).trans (i5 j hj), fun _ j hj => ?_, fun j hj => ?_⟩
          · rw [w2, i4, BitVec.ofNat_add, BitVec.add_assoc]
          · exact encF_congr (fun i _ p hp => rfl) (fun j _ => ctr_of i4 i5 j) j hj
          · by_cases hji : j = i
            · subst hji
              rw [upd_same, if_pos (Nat.lt_succ_self _)]
              unfold turnF
              rw [if_pos hi, show j / 16 = q by omega, show j % 16 = 0 by omega]
              rw [encF_congr (fun i _ p hp => rfl) (fun j _ => ctr_of i4 i5 j) 0 (by omega)]
            · rw [upd_ne _ _ hji, i7 j hj]
              by_cases hlt : j < i
              · rw [if_pos hlt, if_pos (by omega)]
              · rw [if_neg hlt, if_neg (by omega)]
        · have w1 := walk62b h ⟨arr 32 key, 0, .own⟩ ⟨arr 16 t, 0, .own⟩ key c' b' k' [⟨arr (n + 16) o, 0, .own⟩] (by omega)
          rw [← callS16_62] at w1
          have hq : 0 < q := by omega
          unfold S62 at w1 ⊢
          repeat (first | (with_reducible refine Evs.assoc ?_) | ((with_reducible refine Evs.some_bnd ?_); try dsimp only [sqK_nrm, sqK_exit, sqK_ret]) | ((with_reducible apply Evs.bcndT); (focus (simp (disch := omega) [e7, e8, e20, e21, e22, p1, p3, w1] <;> omega))) | ((with_reducible apply Evs.bcndF); (focus (simp (disch := omega) [e7, e8, e20, e21, e22, p1, p3, w1] <;> omega))) | ((with_reducible apply Evs.step); (focus ((conv => lhs; simp (disch := omega) [e7, e8, e20, e21, e22, p1, p3, w1]); done)); try dsimp only) | (simp only [sn46, snB]))
          refine Evs.ret ⟨rfl, _, c', _, k' + 1, q, _, rfl, by simp [e7], by simp [e8], by simp [e20], by simp [e21], by simp, by omega, by omega, by omega, i4, i5, i6, fun j hj => ?_⟩
          by_cases hji : j = i
          · subst hji
            rw [upd_same, if_pos (Nat.lt_succ_self _)]
            unfold turnF
            rw [if_pos hi, i6 hq k' (by omega), show j / 16 = q - 1 by omega, show j % 16 = k' by omega]
          · rw [upd_ne _ _ hji, i7 j hj]
            by_cases hlt : j < i
            · rw [if_pos hlt, if_pos (by omega)]
            · rw [if_neg hlt, if_neg (by omega)]
      · rintro s ⟨env', c', b', k', q, o, rfl, e7, e8, e20, e21, e22, i1, i2, i3, i4, i5, i6, i7⟩
        repeat (first | (with_reducible refine Evs.assoc ?_) | ((with_reducible refine Evs.some_bnd ?_); try dsimp only [sqK_nrm, sqK_exit, sqK_ret]) | ((with_reducible apply Evs.bcndT); (focus (simp (disch := omega) [e21, e22] <;> omega))) | ((with_reducible apply Evs.bcndF); (focus (simp (disch := omega) [e21, e22] <;> omega))) | ((with_reducible apply Evs.step); (focus ((conv => lhs; simp (disch := omega) [e21, e22]); done)); try dsimp only) | (simp only [sn46, snB]))
        refine Evs.ret ⟨by simp, _, c', b', k', o, rfl, by simp [e8], fun j hj => ?_⟩
        rw [i7 j hj]
        by_cases hlt : j < n
        · rw [if_pos hlt]
        · rw [if_neg hlt]; unfold turnF; rw [if_neg hlt]
    · rintro r ⟨env', c', b', k', o, rfl, e8, ho⟩
      unfold S62
      repeat (first | (with_reducible refine Evs.assoc ?_) | ((with_reducible refine Evs.some_bnd ?_); try dsimp only [sqK_nrm, sqK_exit, sqK_ret]) | ((with_reducible apply Evs.bcndT); (focus (simp (disch := omega) [e8] <;> omega))) | ((with_reducible apply Evs.bcndF); (focus (simp (disch := omega) [e8] <;> omega))) | ((with_reducible apply Evs.step); (focus ((conv => lhs; simp (disch := omega) [e8]); done)); try dsimp only) | (simp only [sn46, snB]))
      refine Evs.ret ⟨_, _, rfl, by simp [e8], ?_⟩
      simp only [List.getElem?_cons_succ, List.getElem?_cons_zero]
      rw [arr_congr ho]
  obtain ⟨r, hr, env, tr, rfl, e0, e1⟩ := main
  refine ⟨tr, ?_, e1⟩
  rw [hr]
  simp [e0, oneOrTuple]

theorem turnF_congr {k k' t t' : Nat → BitVec 8} {n : Nat} {g g' : Nat → BitVec 8} (hk : ∀ i, i < 32 → k i = k' i) (ht : ∀ i, i < 16 → t i = t' i) (hg : ∀ i, i < n → g i = g' i) : ∀ j, turnF k t n g j = turnF k' t' n g' j := by
  intro j
  have e1 : ∀ i, i < 16 → topF t i = topF t' i := fun i hi => by
    unfold topF upd
    split
    · rw [ht 15 (by omega)]
    · exact ht i hi
  unfold turnF
  by_cases hj : j < n
  · have key : ∀ i, i < 16 → encF (wd k) (ctr (topF t) (j / 16)) i = encF (wd k') (ctr (topF t') (j / 16)) i := encF_congr (fun i _ p hp => wd_congr hk i p hp) fun i hi => by
      unfold ctr w4
      rw [e1 0 (by omega), e1 1 (by omega), e1 2 (by omega), e1 3 (by omega)]
      by_cases h4 : i < 4
      · rw [if_pos h4, if_pos h4]
      · rw [if_neg h4, if_neg h4]; exact e1 i hi
    rw [if_pos hj, if_pos hj, hg j hj, key _ (Nat.mod_lt _ (by decide))]
  · rw [if_neg hj, if_neg hj]

noncomputable def c46 := conC (fun x : (Nat → BitVec 8) × (Nat → BitVec 8) × (AV) × (Nat) × (Nat → BitVec 8) => [arr 32 x.1, arr 16 x.2.1, x.2.2.1]) (fun (x : (Nat → BitVec 8) × (Nat → BitVec 8) × (AV) × (Nat) × (Nat → BitVec 8)) h => Byt h x.2.2.1 x.2.2.2.1 x.2.2.2.2 ∧ x.2.2.2.1 < 100000000) (fun (x : (Nat → BitVec 8) × (Nat → BitVec 8) × (AV) × (Nat) × (Nat → BitVec 8)) h => (.slice h.length 0 [] (.int .u8) 0 x.2.2.2.1 (some (x.2.2.2.1 + 16)), h ++ [(⟨arr (x.2.2.2.1 + 16) (turnF x.1 x.2.1 x.2.2.2.1 x.2.2.2.2), 0, .own⟩ : Blk)]))
noncomputable def callS17 : Calling := addC callS16 46 c46
theorem c46_eq (k : Nat → BitVec 8) (t : Nat → BitVec 8) (b : AV) (n : Nat) (g : Nat → BitVec 8) (h : Heap) (hc : Byt h b n g ∧ n < 100000000) : c46 [arr 32 k, arr 16 t, b] h = some (.slice h.length 0 [] (.int .u8) 0 n (some (n + 16)), h ++ [(⟨arr (n + 16) (turnF k t n g), 0, .own⟩ : Blk)]) :=
  conC_eqP (enc := fun x : (Nat → BitVec 8) × (Nat → BitVec 8) × (AV) × (Nat) × (Nat → BitVec 8) => [arr 32 x.1, arr 16 x.2.1, x.2.2.1]) (P := fun (x : (Nat → BitVec 8) × (Nat → BitVec 8) × (AV) × (Nat) × (Nat → BitVec 8)) h => Byt h x.2.2.1 x.2.2.2.1 x.2.2.2.2 ∧ x.2.2.2.1 < 100000000) (a := (k, t, b, n, g)) (f := fun (x : (Nat → BitVec 8) × (Nat → BitVec 8) × (AV) × (Nat) × (Nat → BitVec 8)) h => (.slice h.length 0 [] (.int .u8) 0 x.2.2.2.1 (some (x.2.2.2.1 + 16)), h ++ [(⟨arr (x.2.2.2.1 + 16) (turnF x.1 x.2.1 x.2.2.2.1 x.2.2.2.2), 0, .own⟩ : Blk)])) (fun x y h hp hq e => by
    have e1 := arr_inj.1 (List.cons.inj e).1
    have e2 := arr_inj.1 (List.cons.inj (List.cons.inj e).2).1
    have e3 := (List.cons.inj (List.cons.inj (List.cons.inj e).2).2).1
    rw [e3] at hp
    obtain ⟨e4, e5⟩ := hp.1.det hq.1
    rw [← e4] 
    rw [arr_congr fun i _ => turnF_congr e1 e2 e5 i]
    ) hc
theorem callS17_ok : CallOK Try.prog callS17 := addC_con callS16_ok k46 fun x h hx => by
  obtain ⟨t, ht, h6⟩ := walk46 h _ _ _ _ _ hx.1 hx.2
  exact (s46 callS16_ok ht).pull t 6 _ h6 ⟨_, _, rfl⟩
@[simp] theorem callS17_ne {f : Nat} (args : List AV) (h : Heap) (hf : f ≠ 46) : callS17 f args h = callS16 f args h := addC_ne _ _ _ args h hf
@[simp] theorem callS17_sne {f : Nat} (args : List AV) (h : Heap) (hf : f ≠ 46) : still callS17 f args h = still callS16 f args h := still_ne _ _ _ args h hf
theorem callS17_46 (k : Nat → BitVec 8) (t : Nat → BitVec 8) (b : AV) (n : Nat) (g : Nat → BitVec 8) (h : Heap) (hc : Byt h b n g ∧ n < 100000000) : callS17 46 [arr 32 k, arr 16 t, b] h = some (.slice h.length 0 [] (.int .u8) 0 n (some (n + 16)), h ++ [(⟨arr (n + 16) (turnF k t n g), 0, .own⟩ : Blk)]) := by
  unfold callS17; rw [addC_same]; exact c46_eq k t b n g h hc

end Go.Vab

/- How the evaluator reads the functions of a seat. Printed by wip/tools/gen.py (own work). -/
namespace Go.Vab
open Go Go.Proofs
noncomputable section
variable (call : Calling) (env : Env) (h : Heap) (s : St)
/-! vestry/siv.Seal -/
def cx26 (call : Calling) : Ctx := ⟨call, TT, 39, [13, 14, 15, 16, 17, 18, 19, 21, 22, 23, 24, 25, 26, 27, 28, 29, 30, 31, 32, 33, 34, 35, 36, 37, 38]⟩
def n26_0 : Code := bodyOf Try.f26
def n26_1 : Code := cR n26_0
def n26_2 : Code := cL n26_1
def n26_3 : Code := cR n26_2
def n26_4 : Code := cL n26_3
def n26_5 : Code := cR n26_4
def n26_6 : Code := cR n26_3
def n26_7 : Code := cR n26_1
def n26_8 : Code := cR n26_7
def n26_9 : Code := cR n26_8
def n26_10 : Code := cR n26_9
@[simp] theorem n26_5_eq : evC (cx26 call) n26_5 s = some (.ret, s) := xE
@[simp] theorem n26_4_eq : evC (cx26 call) n26_4 ⟨env, h⟩ = ( evC (cx26 call) n26_5 ⟨(Env.put (Env.put env 8 .nilslice) 9 (nat 3)), h⟩) := (xSR 2 (cOps (cL n26_4)) (cR n26_4)).trans (by
  refine opsK_0 ?_
  refine oT 8 .nilslice ?_
  refine oT 9 (nat 3) ?_
  exact oE)
@[simp] theorem n26_6_eq : evC (cx26 call) n26_6 s = some (.nrm, s) := xK
@[simp] theorem n26_3_eq : evC (cx26 call) n26_3 s = cnd (s.env.get 20) (evC (cx26 call) n26_4 s) (evC (cx26 call) n26_6 s) := xC 20 _ _
@[simp] theorem n26_2_eq : evC (cx26 call) n26_2 ⟨env, h⟩ = (bnd (pureV h (mLenS (env.get 2))) fun r1 => bnd (pureV r1.2 (mBin .gtr r1.1 (nat 65536))) fun r2 => bnd (gdo r2.1 false (some ((env.get 3), r2.2)) r2.2) fun r4 => bnd (gdo r2.1 false (pureV r4.2 (mLenS r4.1)) r4.2) fun r5 => bnd (gdo r2.1 false (pureV r5.2 (mBin .gtr r5.1 (nat 65536))) r5.2) fun r6 => bnd (pureV r6.2 (mPick r2.1 (.bool true) r6.1)) fun r7 => evC (cx26 call) n26_3 ⟨(Env.put env 20 r7.1), r7.2⟩) := (xSR 1 (cOps (cL n26_2)) (cR n26_2)).trans (by
  refine opsK_0 ?_
  refine oT 13 (env.get 2) ?_
  refine oP 14 fun r1 => ?_
  refine oP 15 fun r2 => ?_
  refine oT 16 r2.1 ?_
  refine oP 17 fun r4 => ?_
  refine oP 18 fun r5 => ?_
  refine oP 19 fun r6 => ?_
  refine oP 20 fun r7 => ?_
  exact oE)
@[simp] theorem n26_10_eq : evC (cx26 call) n26_10 s = some (.ret, s) := xE
theorem n26_9_ok : loud (cOps (cL n26_9)).toList = true := by kernel_rfl
@[simp] theorem n26_9_eq : evC (cx26 call) n26_9 ⟨env, h⟩ = (bnd (pureV h (mLoad (.arr 32 (.int .u8)) (env.get 11) h)) fun r0 => bnd (pureV r0.2 (mLoad (.arr 16 (.int .u8)) (env.get 12) r0.2)) fun r1 => bnd (call 46 [r0.1, r1.1, (env.get 3)] r1.2) fun r3 => bnd (pureV r3.2 (mSliceA (.arr 16 (.int .u8)) (env.get 12) none none none)) fun r4 => bnd (mApp (.int .u8) 1 r3.1 r4.1 r4.2) fun r5 => evC (cx26 call) n26_10 ⟨(Env.put (Env.put env 8 r5.1) 9 (nat 0)), r5.2⟩) := (xSDL 5 (cOps (cL n26_9)) (cR n26_9) n26_9_ok).trans (by
  refine opsK_0 ?_
  refine oP 33 fun r0 => ?_
  refine oP 34 fun r1 => ?_
  refine oT 35 (env.get 3) ?_
  refine oP 36 fun r3 => ?_
  refine oP 37 fun r4 => ?_
  refine oP 38 fun r5 => ?_
  refine oT 8 r5.1 ?_
  refine oT 9 (nat 0) ?_
  exact oE)
@[simp] theorem n26_8_eq : evC (cx26 call) n26_8 ⟨env, h⟩ = (bnd (pureV h (mLoad (.arr 16 (.int .u8)) (env.get 10) h)) fun r0 => bnd (pureV r0.2 (mLoad (.arr 32 (.int .u8)) (env.get 11) r0.2)) fun r1 => bnd (pureV r1.2 (mLoad (.arr 12 (.int .u8)) (env.get 5) r1.2)) fun r2 => bnd (call 45 [r0.1, r1.1, r2.1, (env.get 2), (env.get 3)] r2.2) fun r5 => bnd (mNew (.arr 16 (.int .u8)) (arr 16 fun _ => 0#8) r5.2) fun r6 => bnd (stU (.arr 16 (.int .u8)) r6.1 r5.1 r6.2) fun r7 => evC (cx26 call) n26_9 ⟨(Env.put env 12 r6.1), r7.2⟩) := (xSR 4 (cOps (cL n26_8)) (cR n26_8)).trans (by
  refine opsK_0 ?_
  refine oP 27 fun r0 => ?_
  refine oP 28 fun r1 => ?_
  refine oP 29 fun r2 => ?_
  refine oT 30 (env.get 2) ?_
  refine oT 31 (env.get 3) ?_
  refine oP 32 fun r5 => ?_
  refine oP 12 fun r6 => ?_
  refine oN fun r7 => ?_
  exact oE)
@[simp] theorem n26_7_eq : evC (cx26 call) n26_7 ⟨env, h⟩ = (bnd (pureV h (mLoad (.arr 32 (.int .u8)) (env.get 4) h)) fun r0 => bnd (pureV r0.2 (mLoad (.arr 12 (.int .u8)) (env.get 5) r0.2)) fun r1 => bnd (call 34 [r0.1, r1.1] r1.2) fun r2 => bnd (pureV r2.2 (mExtract r2.1 0)) fun r4 => bnd (pureV r4.2 (mExtract r2.1 1)) fun r5 => bnd (mNew (.arr 16 (.int .u8)) (arr 16 fun _ => 0#8) r5.2) fun r6 => bnd (mNew (.arr 32 (.int .u8)) (arr 32 fun _ => 0#8) r6.2) fun r7 => bnd (stU (.arr 16 (.int .u8)) r6.1 r4.1 r7.2) fun r8 => bnd (stU (.arr 32 (.int .u8)) r7.1 r5.1 r8.2) fun r9 => evC (cx26 call) n26_8 ⟨(Env.put (Env.put env 10 r6.1) 11 r7.1), r9.2⟩) := (xSR 3 (cOps (cL n26_7)) (cR n26_7)).trans (by
  refine opsK_0 ?_
  refine oP 22 fun r0 => ?_
  refine oP 23 fun r1 => ?_
  refine oP 24 fun r2 => ?_
  refine oT 21 r2.1 ?_
  refine oP 25 fun r4 => ?_
  refine oP 26 fun r5 => ?_
  refine oP 10 fun r6 => ?_
  refine oP 11 fun r7 => ?_
  refine oN fun r8 => ?_
  refine oN fun r9 => ?_
  exact oE)
@[simp] theorem n26_1_eq : evC (cx26 call) n26_1 s = bnd (evC (cx26 call) n26_2 s) (sqK (evC (cx26 call) n26_7)) := xS _ _
@[simp] theorem n26_0_eq : evC (cx26 call) n26_0 ⟨env, h⟩ = (bnd (mNew (.arr 32 (.int .u8)) (env.get 0) h) fun r0 => bnd (mNew (.arr 12 (.int .u8)) (env.get 1) r0.2) fun r1 => evC (cx26 call) n26_1 ⟨(Env.put (Env.put (Env.put (Env.put env 4 r0.1) 5 r1.1) 8 .nilslice) 9 (nat 0)), r1.2⟩) := (xSR 0 (cOps (cL n26_0)) (cR n26_0)).trans (by
  refine opsK_0 ?_
  refine oP 4 fun r0 => ?_
  refine oP 5 fun r1 => ?_
  refine oT 8 .nilslice ?_
  refine oT 9 (nat 0) ?_
  exact oE)
theorem b26 (call : Calling) (a0 a1 a2 a3 : AV) (h : Heap) : evBody (cx26 call) Try.f26 n26_0 [a0, a1, a2, a3] h = bnd (evC (cx26 call) n26_0 ⟨[(0, a0), (1, a1), (2, a2), (3, a3), (4, .junk), (5, .junk), (6, .junk), (7, .junk), (8, .junk), (9, .junk), (10, .junk), (11, .junk), (12, .junk), (20, .junk)], h⟩) (retK fun s => bnd (bnd (some (s.env.get 8)) fun v => bnd (bnd (some (s.env.get 9)) fun v => bnd (some []) fun vs => some (v :: vs)) fun vs => some (v :: vs)) fun vs => some (oneOrTuple vs)) := by kernel_rfl
theorem fn26 : Try.prog.funcs[26]? = some Try.f26 := by kernel_rfl
theorem k26 : Callable Try.prog 26 := ⟨Try.f26, fn26, by kernel_rfl, by kernel_rfl⟩
theorem s26 {call : Calling} (hc : CallOK Try.prog call) {args : List AV} {h h' : Heap} {v : AV} (he : evBody (cx26 call) Try.f26 n26_0 args h = some (v, h')) : Spec Try.prog 26 args h v h' := body_sound (C := cx26 call) TT_ok hc mixed_ok fn26 (by kernel_rfl) (by kernel_rfl) he
def sn26 := Y n26_5_eq (Y n26_4_eq (Y n26_6_eq (Y n26_3_eq (Y n26_2_eq (Y n26_10_eq (Y n26_9_eq (Y n26_8_eq (Y n26_7_eq (Y n26_1_eq (n26_0_eq))))))))))
end
end Go.Vab

/-
  Seal, walked.
-/
namespace Go.Vab
open Go Go.Proofs

def bigS (na nt : Nat) : Prop := 65536 < na ∨ 65536 < nt
instance (na nt : Nat) : Decidable (bigS na nt) := inferInstanceAs (Decidable (_ ∨ _))
def sealC (na nt : Nat) : Nat := if bigS na nt then 3 else 0
def tagS (key nonce : Nat → BitVec 8) (na : Nat) (a : Nat → BitVec 8) (nt : Nat) (t : Nat → BitVec 8) : Nat → BitVec 8 := tagF (keyA key nonce) (keyE key nonce) nonce na a nt t
def sealF (key nonce : Nat → BitVec 8) (na : Nat) (a : Nat → BitVec 8) (nt : Nat) (t : Nat → BitVec 8) : Nat → BitVec 8 := fun j =>
  if j < nt then turnF (keyE key nonce) (tagS key nonce na a nt t) nt t j else tagS key nonce na a nt t (j - nt)
theorem tagS_congr {k k' n n' : Nat → BitVec 8} {na : Nat} {a a' : Nat → BitVec 8} {nt : Nat} {t t' : Nat → BitVec 8} (hk : ∀ i, i < 32 → k i = k' i) (hn : ∀ i, i < 12 → n i = n' i)
    (ha : ∀ i, i < na → a i = a' i) (ht : ∀ i, i < nt → t i = t' i) : ∀ j, j < 16 → tagS k n na a nt t j = tagS k' n' na a' nt t' j := tagF_congr (keyA_congr hk hn) (keyE_congr hk hn) hn ha ht
theorem sealF_congr {k k' n n' : Nat → BitVec 8} {na : Nat} {a a' : Nat → BitVec 8} {nt : Nat} {t t' : Nat → BitVec 8} (hk : ∀ i, i < 32 → k i = k' i) (hn : ∀ i, i < 12 → n i = n' i)
    (ha : ∀ i, i < na → a i = a' i) (ht : ∀ i, i < nt → t i = t' i) : ∀ j, j < nt + 16 → sealF k n na a nt t j = sealF k' n' na a' nt t' j := fun j hj => by
  unfold sealF
  split
  · exact turnF_congr (keyE_congr hk hn) (tagS_congr hk hn ha ht) ht j
  · exact tagS_congr hk hn ha ht _ (by omega)

theorem walk26b (h : Heap) (key nonce : Nat → BitVec 8) (xa xt : AV) (na nt : Nat) (a t : Nat → BitVec 8) (ha : Byt h xa na a) (ht : Byt h xt nt t) (hb : bigS na nt) :
    ∃ tr, evBody (cx26 callS17) Try.f26 n26_0 [arr 32 key, arr 12 nonce, xa, xt] h = some (.tuple [.nilslice, nat 3], h ++ tr) := by
  have la := ha.len
  have lt := ht.len
  rw [b26]
  have main : Evs (evC (cx26 callS17) n26_0 ⟨[(0, arr 32 key), (1, arr 12 nonce), (2, xa), (3, xt), (4, .junk), (5, .junk), (6, .junk), (7, .junk), (8, .junk), (9, .junk), (10, .junk), (11, .junk), (12, .junk), (20, .junk)], h⟩) (fun r => ∃ env tr, r = (.ret, ⟨env, h ++ tr⟩) ∧ env.get 8 = .nilslice ∧ env.get 9 = nat 3) := by
    obtain ⟨env, he⟩ : ∃ env : Env, env = [(0, arr 32 key), (1, arr 12 nonce), (2, xa), (3, xt), (4, .junk), (5, .junk), (6, .junk), (7, .junk), (8, .junk), (9, .junk), (10, .junk), (11, .junk), (12, .junk), (20, .junk)] := ⟨_, rfl⟩
    rw [← he]
    have g0 : env.get 0 = arr 32 key := by rw [he]; rfl
    have g1 : env.get 1 = arr 12 nonce := by rw [he]; rfl
    have g2 : env.get 2 = xa := by rw [he]; rfl
    have g3 : env.get 3 = xt := by rw [he]; rfl
    clear he
    by_cases h1 : 65536 < na
    · repeat (first | (with_reducible refine Evs.assoc ?_) | ((with_reducible refine Evs.some_bnd ?_); try dsimp only [sqK_nrm, sqK_exit, sqK_ret]) | ((with_reducible apply Evs.bcndT); (focus (simp (disch := omega) [g0, g1, g2, g3, la, lt, h1] <;> omega))) | ((with_reducible apply Evs.bcndF); (focus (simp (disch := omega) [g0, g1, g2, g3, la, lt, h1] <;> omega))) | ((with_reducible apply Evs.step); (focus ((conv => lhs; simp (disch := omega) [g0, g1, g2, g3, la, lt, h1]); done)); try dsimp only) | (simp only [sn26, snB]))
      exact Evs.ret ⟨_, _, rfl, by simp, by simp⟩
    · have h2 : 65536 < nt := hb.resolve_left h1
      repeat (first | (with_reducible refine Evs.assoc ?_) | ((with_reducible refine Evs.some_bnd ?_); try dsimp only [sqK_nrm, sqK_exit, sqK_ret]) | ((with_reducible apply Evs.bcndT); (focus (simp (disch := omega) [g0, g1, g2, g3, la, lt, h1, h2] <;> omega))) | ((with_reducible apply Evs.bcndF); (focus (simp (disch := omega) [g0, g1, g2, g3, la, lt, h1, h2] <;> omega))) | ((with_reducible apply Evs.step); (focus ((conv => lhs; simp (disch := omega) [g0, g1, g2, g3, la, lt, h1, h2]); done)); try dsimp only) | (simp only [sn26, snB]))
      exact Evs.ret ⟨_, _, rfl, by simp, by simp⟩
  obtain ⟨r, hr, env, tr, rfl, e0, e1⟩ := main
  refine ⟨tr, ?_⟩
  rw [hr]
  simp [e0, e1, oneOrTuple]

theorem walk26 (h : Heap) (key nonce : Nat → BitVec 8) (xa xt : AV) (na nt : Nat) (a t : Nat → BitVec 8) (ha : Byt h xa na a) (ht : Byt h xt nt t) (hb : ¬ bigS na nt) :
    ∃ tr j, evBody (cx26 callS17) Try.f26 n26_0 [arr 32 key, arr 12 nonce, xa, xt] h = some (.tuple [.slice (h.length + j) 0 [] (.int .u8) 0 (nt + 16) (some (nt + 16)), nat 0], h ++ tr) ∧ tr[j]? = some ⟨arr (nt + 16) (sealF key nonce na a nt t), 0, .own⟩ := by
  have la := ha.len
  have lt := ht.len
  have h1 : ¬ 65536 < na := fun q => hb (.inl q)
  have h2 : ¬ 65536 < nt := fun q => hb (.inr q)
  have k45 : ∀ (b k : Nat → BitVec 8) (l : Heap), callS14 45 [arr 16 b, arr 32 k, arr 12 nonce, xa, xt] (h ++ l) = some (arr 16 (tagF b k nonce na a nt t), h ++ l) := fun b k l => callS14_45 b k nonce xa xt na nt a t (h ++ l) ⟨ha.app l, ht.app l, by omega, by omega⟩
  have k46 : ∀ (k T : Nat → BitVec 8) (l : Heap), callS17 46 [arr 32 k, arr 16 T, xt] (h ++ l) = some (.slice (h ++ l).length 0 [] (.int .u8) 0 nt (some (nt + 16)), h ++ l ++ [⟨arr (nt + 16) (turnF k T nt t), 0, .own⟩]) := fun k T l => callS17_46 k T xt nt t (h ++ l) ⟨ht.app l, by omega⟩
  rw [b26]
  have main : Evs (evC (cx26 callS17) n26_0 ⟨[(0, arr 32 key), (1, arr 12 nonce), (2, xa), (3, xt), (4, .junk), (5, .junk), (6, .junk), (7, .junk), (8, .junk), (9, .junk), (10, .junk), (11, .junk), (12, .junk), (20, .junk)], h⟩) (fun r => ∃ env tr j, r = (.ret, ⟨env, h ++ tr⟩) ∧ env.get 8 = .slice (h.length + j) 0 [] (.int .u8) 0 (nt + 16) (some (nt + 16)) ∧ env.get 9 = nat 0 ∧ tr[j]? = some ⟨arr (nt + 16) (sealF key nonce na a nt t), 0, .own⟩) := by
    obtain ⟨env, he⟩ : ∃ env : Env, env = [(0, arr 32 key), (1, arr 12 nonce), (2, xa), (3, xt), (4, .junk), (5, .junk), (6, .junk), (7, .junk), (8, .junk), (9, .junk), (10, .junk), (11, .junk), (12, .junk), (20, .junk)] := ⟨_, rfl⟩
    rw [← he]
    have g0 : env.get 0 = arr 32 key := by rw [he]; rfl
    have g1 : env.get 1 = arr 12 nonce := by rw [he]; rfl
    have g2 : env.get 2 = xa := by rw [he]; rfl
    have g3 : env.get 3 = xt := by rw [he]; rfl
    clear he
    repeat (first | (with_reducible refine Evs.assoc ?_) | ((with_reducible refine Evs.some_bnd ?_); try dsimp only [sqK_nrm, sqK_exit, sqK_ret]) | ((with_reducible apply Evs.bcndT); (focus (simp (disch := omega) [g0, g1, g2, g3, la, lt, h1, h2, k45, k46] <;> omega))) | ((with_reducible apply Evs.bcndF); (focus (simp (disch := omega) [g0, g1, g2, g3, la, lt, h1, h2, k45, k46] <;> omega))) | ((with_reducible apply Evs.step); (focus ((conv => lhs; simp (disch := omega) [g0, g1, g2, g3, la, lt, h1, h2, k45, k46]); done)); try dsimp only) | (simp only [sn26, snB]))
    refine Evs.ret ⟨_, _, 5, rfl, by simp, by simp, ?_⟩
    simp only [List.getElem?_cons_succ, List.getElem?_cons_zero]
    refine congrArg some (congrArg (fun v => Blk.mk v 0 .own) (arr_congr fun i hi => ?_))
    unfold sealF tagS
    by_cases hlt : i < nt
    · rw [if_neg (by omega), if_pos hlt]
    · rw [if_pos (by omega), if_neg hlt]
  obtain ⟨r, hr, env, tr, j, rfl, e0, e1, e2⟩ := main
  refine ⟨tr, j, ?_, e2⟩
  rw [hr]
  simp [e0, e1, oneOrTuple]

noncomputable def c26 := conC (fun x : (Nat → BitVec 8) × (Nat → BitVec 8) × (AV) × (AV) × (Nat) × (Nat) × (Nat → BitVec 8) × (Nat → BitVec 8) => [arr 32 x.1, arr 12 x.2.1, x.2.2.1, x.2.2.2.1]) (fun (x : (Nat → BitVec 8) × (Nat → BitVec 8) × (AV) × (AV) × (Nat) × (Nat) × (Nat → BitVec 8) × (Nat → BitVec 8)) h => Byt h x.2.2.1 x.2.2.2.2.1 x.2.2.2.2.2.2.1 ∧ Byt h x.2.2.2.1 x.2.2.2.2.2.1 x.2.2.2.2.2.2.2) (fun (x : (Nat → BitVec 8) × (Nat → BitVec 8) × (AV) × (AV) × (Nat) × (Nat) × (Nat → BitVec 8) × (Nat → BitVec 8)) h => (ansV (sealC x.2.2.2.2.1 x.2.2.2.2.2.1) h.length (x.2.2.2.2.2.1 + 16) (x.2.2.2.2.2.1 + 16), ansH (sealC x.2.2.2.2.1 x.2.2.2.2.2.1) h ⟨arr (x.2.2.2.2.2.1 + 16) (sealF x.1 x.2.1 x.2.2.2.2.1 x.2.2.2.2.2.2.1 x.2.2.2.2.2.1 x.2.2.2.2.2.2.2), 0, .own⟩))
noncomputable def callS18 : Calling := addC callS17 26 c26
theorem c26_eq (k : Nat → BitVec 8) (n : Nat → BitVec 8) (xa : AV) (xt : AV) (na : Nat) (nt : Nat) (a : Nat → BitVec 8) (t : Nat → BitVec 8) (h : Heap) (hc : Byt h xa na a ∧ Byt h xt nt t) : c26 [arr 32 k, arr 12 n, xa, xt] h = some (ansV (sealC na nt) h.length (nt + 16) (nt + 16), ansH (sealC na nt) h ⟨arr (nt + 16) (sealF k n na a nt t), 0, .own⟩) :=
  conC_eqP (enc := fun x : (Nat → BitVec 8) × (Nat → BitVec 8) × (AV) × (AV) × (Nat) × (Nat) × (Nat → BitVec 8) × (Nat → BitVec 8) => [arr 32 x.1, arr 12 x.2.1, x.2.2.1, x.2.2.2.1]) (P := fun (x : (Nat → BitVec 8) × (Nat → BitVec 8) × (AV) × (AV) × (Nat) × (Nat) × (Nat → BitVec 8) × (Nat → BitVec 8)) h => Byt h x.2.2.1 x.2.2.2.2.1 x.2.2.2.2.2.2.1 ∧ Byt h x.2.2.2.1 x.2.2.2.2.2.1 x.2.2.2.2.2.2.2) (a := (k, n, xa, xt, na, nt, a, t)) (f := fun (x : (Nat → BitVec 8) × (Nat → BitVec 8) × (AV) × (AV) × (Nat) × (Nat) × (Nat → BitVec 8) × (Nat → BitVec 8)) h => (ansV (sealC x.2.2.2.2.1 x.2.2.2.2.2.1) h.length (x.2.2.2.2.2.1 + 16) (x.2.2.2.2.2.1 + 16), ansH (sealC x.2.2.2.2.1 x.2.2.2.2.2.1) h ⟨arr (x.2.2.2.2.2.1 + 16) (sealF x.1 x.2.1 x.2.2.2.2.1 x.2.2.2.2.2.2.1 x.2.2.2.2.2.1 x.2.2.2.2.2.2.2), 0, .own⟩)) (fun x y h hp hq e => by
    have e1 := arr_inj.1 (List.cons.inj e).1
    have e2 := arr_inj.1 (List.cons.inj (List.cons.inj e).2).1
    have e4 := (List.cons.inj (List.cons.inj (List.cons.inj e).2).2).1
    have e5 := (List.cons.inj (List.cons.inj (List.cons.inj (List.cons.inj e).2).2).2).1
    rw [e4, e5] at hp
    obtain ⟨d1, d2⟩ := hp.1.det hq.1
    obtain ⟨d3, d4⟩ := hp.2.det hq.2
    rw [← d1, ← d3]
    rw [arr_congr (sealF_congr e1 e2 d2 d4)]
    ) hc
theorem callS18_ok : CallOK Try.prog callS18 := addC_con callS17_ok k26 fun x h hx => by
  by_cases hb : bigS x.2.2.2.2.1 x.2.2.2.2.2.1
  · obtain ⟨tr, hr⟩ := walk26b h x.1 x.2.1 _ _ _ _ _ _ hx.1 hx.2 hb
    have := (s26 callS17_ok hr).drop0 tr rfl
    show Spec _ 26 _ h (ansV (sealC _ _) _ _ _) (ansH (sealC _ _) _ _)
    rw [show sealC x.2.2.2.2.1 x.2.2.2.2.2.1 = 3 from if_pos hb]
    exact this
  · obtain ⟨tr, j, hr, hj⟩ := walk26 h x.1 x.2.1 _ _ _ _ _ _ hx.1 hx.2 hb
    have := (s26 callS17_ok hr).pullT tr j _ hj ⟨_, _, rfl⟩
    show Spec _ 26 _ h (ansV (sealC _ _) _ _ _) (ansH (sealC _ _) _ _)
    rw [show sealC x.2.2.2.2.1 x.2.2.2.2.2.1 = 0 from if_neg hb]
    exact this
@[simp] theorem callS18_ne {f : Nat} (args : List AV) (h : Heap) (hf : f ≠ 26) : callS18 f args h = callS17 f args h := addC_ne _ _ _ args h hf
@[simp] theorem callS18_sne {f : Nat} (args : List AV) (h : Heap) (hf : f ≠ 26) : still callS18 f args h = still callS17 f args h := still_ne _ _ _ args h hf
theorem callS18_26 (k : Nat → BitVec 8) (n : Nat → BitVec 8) (xa : AV) (xt : AV) (na : Nat) (nt : Nat) (a : Nat → BitVec 8) (t : Nat → BitVec 8) (h : Heap) (hc : Byt h xa na a ∧ Byt h xt nt t) : callS18 26 [arr 32 k, arr 12 n, xa, xt] h = some (ansV (sealC na nt) h.length (nt + 16) (nt + 16), ansH (sealC na nt) h ⟨arr (nt + 16) (sealF k n na a nt t), 0, .own⟩) := by
  unfold callS18; rw [addC_same]; exact c26_eq k n xa xt na nt a t h hc

end Go.Vab

/- How the evaluator reads the functions of a seat. Printed by wip/tools/gen.py (own work). -/
namespace Go.Vab
open Go Go.Proofs
noncomputable section
variable (call : Calling) (env : Env) (h : Heap) (s : St)
/-! vestry/siv.Open -/
def cx29 (call : Calling) : Ctx := ⟨call, TT, 54, [15, 16, 17, 18, 19, 20, 21, 23, 24, 25, 26, 28, 29, 30, 31, 32, 33, 34, 35, 36, 37, 38, 39, 40, 41, 42, 43, 44, 45, 46, 47, 48, 49, 50, 51, 53]⟩
def n29_0 : Code := bodyOf Try.f29
def n29_1 : Code := cR n29_0
def n29_2 : Code := cL n29_1
def n29_3 : Code := cR n29_2
def n29_4 : Code := cL n29_3
def n29_5 : Code := cR n29_4
def n29_6 : Code := cR n29_3
def n29_7 : Code := cR n29_1
def n29_8 : Code := cR n29_7
def n29_9 : Code := cL n29_8
def n29_10 : Code := cR n29_9
def n29_11 : Code := cL n29_10
def n29_12 : Code := cR n29_11
def n29_13 : Code := cR n29_10
def n29_14 : Code := cR n29_8
def n29_15 : Code := cR n29_14
def n29_16 : Code := cR n29_15
def n29_17 : Code := cR n29_16
def n29_18 : Code := cL n29_17
def n29_19 : Code := cR n29_18
def n29_20 : Code := cL n29_19
def n29_21 : Code := cR n29_20
def n29_22 : Code := cR n29_19
def n29_23 : Code := cR n29_17
def n29_24 : Code := cR n29_23
@[simp] theorem n29_5_eq : evC (cx29 call) n29_5 s = some (.ret, s) := xE
@[simp] theorem n29_4_eq : evC (cx29 call) n29_4 ⟨env, h⟩ = ( evC (cx29 call) n29_5 ⟨(Env.put (Env.put env 8 .nilslice) 9 (nat 3)), h⟩) := (xSR 2 (cOps (cL n29_4)) (cR n29_4)).trans (by
  refine opsK_0 ?_
  refine oT 8 .nilslice ?_
  refine oT 9 (nat 3) ?_
  exact oE)
@[simp] theorem n29_6_eq : evC (cx29 call) n29_6 s = some (.nrm, s) := xK
@[simp] theorem n29_3_eq : evC (cx29 call) n29_3 s = cnd (s.env.get 22) (evC (cx29 call) n29_4 s) (evC (cx29 call) n29_6 s) := xC 22 _ _
@[simp] theorem n29_2_eq : evC (cx29 call) n29_2 ⟨env, h⟩ = (bnd (pureV h (mLenS (env.get 2))) fun r1 => bnd (pureV r1.2 (mBin .gtr r1.1 (nat 65536))) fun r2 => bnd (gdo r2.1 false (some ((env.get 3), r2.2)) r2.2) fun r4 => bnd (gdo r2.1 false (pureV r4.2 (mLenS r4.1)) r4.2) fun r5 => bnd (gdo r2.1 false (pureV r5.2 (mBin .gtr r5.1 (nat 65552))) r5.2) fun r6 => bnd (pureV r6.2 (mPick r2.1 (.bool true) r6.1)) fun r7 => evC (cx29 call) n29_3 ⟨(Env.put env 22 r7.1), r7.2⟩) := (xSR 1 (cOps (cL n29_2)) (cR n29_2)).trans (by
  refine opsK_0 ?_
  refine oT 15 (env.get 2) ?_
  refine oP 16 fun r1 => ?_
  refine oP 17 fun r2 => ?_
  refine oT 18 r2.1 ?_
  refine oP 19 fun r4 => ?_
  refine oP 20 fun r5 => ?_
  refine oP 21 fun r6 => ?_
  refine oP 22 fun r7 => ?_
  exact oE)
@[simp] theorem n29_12_eq : evC (cx29 call) n29_12 s = some (.ret, s) := xE
@[simp] theorem n29_11_eq : evC (cx29 call) n29_11 ⟨env, h⟩ = ( evC (cx29 call) n29_12 ⟨(Env.put (Env.put env 8 .nilslice) 9 (nat 4)), h⟩) := (xSR 5 (cOps (cL n29_11)) (cR n29_11)).trans (by
  refine opsK_0 ?_
  refine oT 8 .nilslice ?_
  refine oT 9 (nat 4) ?_
  exact oE)
@[simp] theorem n29_13_eq : evC (cx29 call) n29_13 s = some (.nrm, s) := xK
@[simp] theorem n29_10_eq : evC (cx29 call) n29_10 s = cnd (s.env.get 27) (evC (cx29 call) n29_11 s) (evC (cx29 call) n29_13 s) := xC 27 _ _
@[simp] theorem n29_9_eq : evC (cx29 call) n29_9 ⟨env, h⟩ = (bnd (pureV h (mBin .lss (env.get 10) (nat 0))) fun r1 => evC (cx29 call) n29_10 ⟨(Env.put env 27 r1.1), r1.2⟩) := (xSR 4 (cOps (cL n29_9)) (cR n29_9)).trans (by
  refine opsK_0 ?_
  refine oT 26 (env.get 10) ?_
  refine oP 27 fun r1 => ?_
  exact oE)
@[simp] theorem n29_21_eq : evC (cx29 call) n29_21 s = some (.ret, s) := xE
@[simp] theorem n29_20_eq : evC (cx29 call) n29_20 ⟨env, h⟩ = ( evC (cx29 call) n29_21 ⟨(Env.put (Env.put env 8 .nilslice) 9 (nat 90)), h⟩) := (xSR 10 (cOps (cL n29_20)) (cR n29_20)).trans (by
  refine opsK_0 ?_
  refine oT 8 .nilslice ?_
  refine oT 9 (nat 90) ?_
  exact oE)
@[simp] theorem n29_22_eq : evC (cx29 call) n29_22 s = some (.nrm, s) := xK
@[simp] theorem n29_19_eq : evC (cx29 call) n29_19 s = cnd (s.env.get 52) (evC (cx29 call) n29_20 s) (evC (cx29 call) n29_22 s) := xC 52 _ _
theorem n29_18_ok : drawOk (cOps (cL n29_18)).toList = true := by kernel_rfl
@[simp] theorem n29_18_eq : evC (cx29 call) n29_18 ⟨env, h⟩ = (bnd (pureV h (mLoad (.arr 16 (.int .u8)) (env.get 11) h)) fun r0 => bnd (pureV r0.2 (mLoad (.arr 32 (.int .u8)) (env.get 12) r0.2)) fun r1 => bnd (pureV r1.2 (mLoad (.arr 12 (.int .u8)) (env.get 5) r1.2)) fun r2 => bnd (still call 45 [r0.1, r1.1, r2.1, (env.get 2), (env.get 14)] r2.2) fun r5 => bnd (pureV r5.2 (mLoad (.arr 16 (.int .u8)) (env.get 13) r5.2)) fun r6 => bnd (pureV r6.2 (mEq (.arr 16 (.int .u8)) .neq r5.1 r6.1)) fun r7 => evC (cx29 call) n29_19 ⟨(Env.put env 52 r7.1), r7.2⟩) := (xSD 9 (cOps (cL n29_18)) (cR n29_18) n29_18_ok).trans (by
  refine opsK_0 ?_
  refine oP 45 fun r0 => ?_
  refine oP 46 fun r1 => ?_
  refine oP 47 fun r2 => ?_
  refine oT 48 (env.get 2) ?_
  refine oT 49 (env.get 14) ?_
  refine oP 50 fun r5 => ?_
  refine oP 51 fun r6 => ?_
  refine oP 52 fun r7 => ?_
  exact oE)
@[simp] theorem n29_24_eq : evC (cx29 call) n29_24 s = some (.ret, s) := xE
@[simp] theorem n29_23_eq : evC (cx29 call) n29_23 ⟨env, h⟩ = ( evC (cx29 call) n29_24 ⟨(Env.put (Env.put env 8 (env.get 14)) 9 (nat 0)), h⟩) := (xSR 11 (cOps (cL n29_23)) (cR n29_23)).trans (by
  refine opsK_0 ?_
  refine oT 53 (env.get 14) ?_
  refine oT 8 (env.get 14) ?_
  refine oT 9 (nat 0) ?_
  exact oE)
@[simp] theorem n29_17_eq : evC (cx29 call) n29_17 s = bnd (evC (cx29 call) n29_18 s) (sqK (evC (cx29 call) n29_23)) := xS _ _
theorem n29_16_ok : loud (cOps (cL n29_16)).toList = true := by kernel_rfl
@[simp] theorem n29_16_eq : evC (cx29 call) n29_16 ⟨env, h⟩ = (bnd (pureV h (mLoad (.arr 32 (.int .u8)) (env.get 12) h)) fun r0 => bnd (pureV r0.2 (mLoad (.arr 16 (.int .u8)) (env.get 13) r0.2)) fun r1 => bnd (pureV r1.2 (mSliceS (.int .u8) (env.get 3) none (some (env.get 10)) none)) fun r4 => bnd (call 46 [r0.1, r1.1, r4.1] r4.2) fun r5 => evC (cx29 call) n29_17 ⟨(Env.put env 14 r5.1), r5.2⟩) := (xSDL 8 (cOps (cL n29_16)) (cR n29_16) n29_16_ok).trans (by
  refine opsK_0 ?_
  refine oP 39 fun r0 => ?_
  refine oP 40 fun r1 => ?_
  refine oT 41 (env.get 3) ?_
  refine oT 42 (env.get 10) ?_
  refine oP 43 fun r4 => ?_
  refine oP 44 fun r5 => ?_
  refine oT 14 r5.1 ?_
  exact oE)
@[simp] theorem n29_15_eq : evC (cx29 call) n29_15 ⟨env, h⟩ = (bnd (pureV h (mSliceS (.int .u8) (env.get 3) (some (env.get 10)) none none)) fun r2 => bnd (pureV r2.2 (mArrayAt 16 (.int .u8) r2.1)) fun r3 => bnd (pureV r3.2 (mLoad (.arr 16 (.int .u8)) r3.1 r3.2)) fun r4 => bnd (mNew (.arr 16 (.int .u8)) (arr 16 fun _ => 0#8) r4.2) fun r5 => bnd (stU (.arr 16 (.int .u8)) r5.1 r4.1 r5.2) fun r6 => evC (cx29 call) n29_16 ⟨(Env.put env 13 r5.1), r6.2⟩) := (xSR 7 (cOps (cL n29_15)) (cR n29_15)).trans (by
  refine opsK_0 ?_
  refine oT 34 (env.get 3) ?_
  refine oT 35 (env.get 10) ?_
  refine oP 36 fun r2 => ?_
  refine oP 37 fun r3 => ?_
  refine oP 38 fun r4 => ?_
  refine oP 13 fun r5 => ?_
  refine oN fun r6 => ?_
  exact oE)
@[simp] theorem n29_14_eq : evC (cx29 call) n29_14 ⟨env, h⟩ = (bnd (pureV h (mLoad (.arr 32 (.int .u8)) (env.get 4) h)) fun r0 => bnd (pureV r0.2 (mLoad (.arr 12 (.int .u8)) (env.get 5) r0.2)) fun r1 => bnd (call 34 [r0.1, r1.1] r1.2) fun r2 => bnd (pureV r2.2 (mExtract r2.1 0)) fun r4 => bnd (pureV r4.2 (mExtract r2.1 1)) fun r5 => bnd (mNew (.arr 16 (.int .u8)) (arr 16 fun _ => 0#8) r5.2) fun r6 => bnd (mNew (.arr 32 (.int .u8)) (arr 32 fun _ => 0#8) r6.2) fun r7 => bnd (stU (.arr 16 (.int .u8)) r6.1 r4.1 r7.2) fun r8 => bnd (stU (.arr 32 (.int .u8)) r7.1 r5.1 r8.2) fun r9 => evC (cx29 call) n29_15 ⟨(Env.put (Env.put env 11 r6.1) 12 r7.1), r9.2⟩) := (xSR 6 (cOps (cL n29_14)) (cR n29_14)).trans (by
  refine opsK_0 ?_
  refine oP 29 fun r0 => ?_
  refine oP 30 fun r1 => ?_
  refine oP 31 fun r2 => ?_
  refine oT 28 r2.1 ?_
  refine oP 32 fun r4 => ?_
  refine oP 33 fun r5 => ?_
  refine oP 11 fun r6 => ?_
  refine oP 12 fun r7 => ?_
  refine oN fun r8 => ?_
  refine oN fun r9 => ?_
  exact oE)
@[simp] theorem n29_8_eq : evC (cx29 call) n29_8 s = bnd (evC (cx29 call) n29_9 s) (sqK (evC (cx29 call) n29_14)) := xS _ _
@[simp] theorem n29_7_eq : evC (cx29 call) n29_7 ⟨env, h⟩ = (bnd (pureV h (mLenS (env.get 3))) fun r1 => bnd (pureV r1.2 (mBin .sub r1.1 (nat 16))) fun r2 => evC (cx29 call) n29_8 ⟨(Env.put env 10 r2.1), r2.2⟩) := (xSR 3 (cOps (cL n29_7)) (cR n29_7)).trans (by
  refine opsK_0 ?_
  refine oT 23 (env.get 3) ?_
  refine oP 24 fun r1 => ?_
  refine oP 25 fun r2 => ?_
  refine oT 10 r2.1 ?_
  exact oE)
@[simp] theorem n29_1_eq : evC (cx29 call) n29_1 s = bnd (evC (cx29 call) n29_2 s) (sqK (evC (cx29 call) n29_7)) := xS _ _
@[simp] theorem n29_0_eq : evC (cx29 call) n29_0 ⟨env, h⟩ = (bnd (mNew (.arr 32 (.int .u8)) (env.get 0) h) fun r0 => bnd (mNew (.arr 12 (.int .u8)) (env.get 1) r0.2) fun r1 => evC (cx29 call) n29_1 ⟨(Env.put (Env.put (Env.put (Env.put env 4 r0.1) 5 r1.1) 8 .nilslice) 9 (nat 0)), r1.2⟩) := (xSR 0 (cOps (cL n29_0)) (cR n29_0)).trans (by
  refine opsK_0 ?_
  refine oP 4 fun r0 => ?_
  refine oP 5 fun r1 => ?_
  refine oT 8 .nilslice ?_
  refine oT 9 (nat 0) ?_
  exact oE)
theorem b29 (call : Calling) (a0 a1 a2 a3 : AV) (h : Heap) : evBody (cx29 call) Try.f29 n29_0 [a0, a1, a2, a3] h = bnd (evC (cx29 call) n29_0 ⟨[(0, a0), (1, a1), (2, a2), (3, a3), (4, .junk), (5, .junk), (6, .junk), (7, .junk), (8, .junk), (9, .junk), (10, .junk), (11, .junk), (12, .junk), (13, .junk), (14, .junk), (22, .junk), (27, .junk), (52, .junk)], h⟩) (retK fun s => bnd (bnd (some (s.env.get 8)) fun v => bnd (bnd (some (s.env.get 9)) fun v => bnd (some []) fun vs => some (v :: vs)) fun vs => some (v :: vs)) fun vs => some (oneOrTuple vs)) := by kernel_rfl
theorem fn29 : Try.prog.funcs[29]? = some Try.f29 := by kernel_rfl
theorem k29 : Callable Try.prog 29 := ⟨Try.f29, fn29, by kernel_rfl, by kernel_rfl⟩
theorem s29 {call : Calling} (hc : CallOK Try.prog call) {args : List AV} {h h' : Heap} {v : AV} (he : evBody (cx29 call) Try.f29 n29_0 args h = some (v, h')) : Spec Try.prog 29 args h v h' := body_sound (C := cx29 call) TT_ok hc mixed_ok fn29 (by kernel_rfl) (by kernel_rfl) he
def sn29 := Y n29_5_eq (Y n29_4_eq (Y n29_6_eq (Y n29_3_eq (Y n29_2_eq (Y n29_12_eq (Y n29_11_eq (Y n29_13_eq (Y n29_10_eq (Y n29_9_eq (Y n29_21_eq (Y n29_20_eq (Y n29_22_eq (Y n29_19_eq (Y n29_18_eq (Y n29_24_eq (Y n29_23_eq (Y n29_17_eq (Y n29_16_eq (Y n29_15_eq (Y n29_14_eq (Y n29_8_eq (Y n29_7_eq (Y n29_1_eq (n29_0_eq))))))))))))))))))))))))
end
end Go.Vab

/-
  Open, walked.
-/
namespace Go.Vab
open Go Go.Proofs

def bigO (na m : Nat) : Prop := 65536 < na ∨ 65552 < m
instance (na m : Nat) : Decidable (bigO na m) := inferInstanceAs (Decidable (_ ∨ _))
/-- The tag of what was sealed; what is opened; whether the tag is right. -/
def tailF (m : Nat) (s : Nat → BitVec 8) : Nat → BitVec 8 := fun j => s (m - 16 + j)
def openF (key nonce : Nat → BitVec 8) (m : Nat) (s : Nat → BitVec 8) : Nat → BitVec 8 := turnF (keyE key nonce) (tailF m s) (m - 16) s
def openG (key nonce : Nat → BitVec 8) (na : Nat) (a : Nat → BitVec 8) (m : Nat) (s : Nat → BitVec 8) : Bool := arrEq 16 (tagS key nonce na a (m - 16) (openF key nonce m s)) (tailF m s)
def openC (na m : Nat) (g : Bool) : Nat := if bigO na m then 3 else if m < 16 then 4 else if g = true then 0 else 90

theorem arrEq_congr {n : Nat} {g g' f f' : Nat → BitVec 8} (h : ∀ i, i < n → g i = g' i) (h' : ∀ i, i < n → f i = f' i) : arrEq n g f = arrEq n g' f' := by
  have : arrEq n g f = true ↔ arrEq n g' f' = true := by
    rw [arrEq_iff, arrEq_iff]
    exact ⟨fun q i hi => by rw [← h i hi, ← h' i hi]; exact q i hi, fun q i hi => by rw [h i hi, h' i hi]; exact q i hi⟩
  cases h1 : arrEq n g f <;> cases h2 : arrEq n g' f' <;> simp_all
section
variable {k k' n n' : Nat → BitVec 8} {na : Nat} {a a' : Nat → BitVec 8} {m : Nat} {s s' : Nat → BitVec 8} (hk : ∀ i, i < 32 → k i = k' i) (hn : ∀ i, i < 12 → n i = n' i)
  (ha : ∀ i, i < na → a i = a' i) (hs : ∀ i, i < m → s i = s' i) (hm : 16 ≤ m)
include hk hn hs hm
theorem openF_congr : ∀ j, openF k n m s j = openF k' n' m s' j :=
  turnF_congr (keyE_congr hk hn) (fun i hi => hs _ (by omega)) fun i hi => hs i (by omega)
include ha in
theorem openG_congr : openG k n na a m s = openG k' n' na a' m s' :=
  arrEq_congr (tagS_congr hk hn ha fun i _ => openF_congr hk hn hs hm i) fun i hi => hs _ (by omega)
end

theorem walk29b (h : Heap) (key nonce : Nat → BitVec 8) (xa xs : AV) (na m : Nat) (a s : Nat → BitVec 8) (ha : Byt h xa na a) (hs : Byt h xs m s) (hb : bigO na m) :
    ∃ tr, evBody (cx29 callS18) Try.f29 n29_0 [arr 32 key, arr 12 nonce, xa, xs] h = some (.tuple [.nilslice, nat 3], h ++ tr) := by
  have la := ha.len
  have lt := hs.len
  rw [b29]
  have main : Evs (evC (cx29 callS18) n29_0 ⟨[(0, arr 32 key), (1, arr 12 nonce), (2, xa), (3, xs), (4, .junk), (5, .junk), (6, .junk), (7, .junk), (8, .junk), (9, .junk), (10, .junk), (11, .junk), (12, .junk), (13, .junk), (14, .junk), (22, .junk), (27, .junk), (52, .junk)], h⟩) (fun r => ∃ env tr, r = (.ret, ⟨env, h ++ tr⟩) ∧ env.get 8 = .nilslice ∧ env.get 9 = nat 3) := by
    obtain ⟨env, he⟩ : ∃ env : Env, env = [(0, arr 32 key), (1, arr 12 nonce), (2, xa), (3, xs), (4, .junk), (5, .junk), (6, .junk), (7, .junk), (8, .junk), (9, .junk), (10, .junk), (11, .junk), (12, .junk), (13, .junk), (14, .junk), (22, .junk), (27, .junk), (52, .junk)] := ⟨_, rfl⟩
    rw [← he]
    have g0 : env.get 0 = arr 32 key := by rw [he]; rfl
    have g1 : env.get 1 = arr 12 nonce := by rw [he]; rfl
    have g2 : env.get 2 = xa := by rw [he]; rfl
    have g3 : env.get 3 = xs := by rw [he]; rfl
    clear he
    by_cases h1 : 65536 < na
    · repeat (first | (with_reducible refine Evs.assoc ?_) | ((with_reducible refine Evs.some_bnd ?_); try dsimp only [sqK_nrm, sqK_exit, sqK_ret]) | ((with_reducible apply Evs.bcndT); (focus (simp (disch := omega) [g0, g1, g2, g3, la, lt, h1] <;> omega))) | ((with_reducible apply Evs.bcndF); (focus (simp (disch := omega) [g0, g1, g2, g3, la, lt, h1] <;> omega))) | ((with_reducible apply Evs.step); (focus ((conv => lhs; simp (disch := omega) [g0, g1, g2, g3, la, lt, h1]); done)); try dsimp only) | (simp only [sn29, snB]))
      exact Evs.ret ⟨_, _, rfl, by simp, by simp⟩
    · have h2 : 65552 < m := hb.resolve_left h1
      repeat (first | (with_reducible refine Evs.assoc ?_) | ((with_reducible refine Evs.some_bnd ?_); try dsimp only [sqK_nrm, sqK_exit, sqK_ret]) | ((with_reducible apply Evs.bcndT); (focus (simp (disch := omega) [g0, g1, g2, g3, la, lt, h1, h2] <;> omega))) | ((with_reducible apply Evs.bcndF); (focus (simp (disch := omega) [g0, g1, g2, g3, la, lt, h1, h2] <;> omega))) | ((with_reducible apply Evs.step); (focus ((conv => lhs; simp (disch := omega) [g0, g1, g2, g3, la, lt, h1, h2]); done)); try dsimp only) | (simp only [sn29, snB]))
      exact Evs.ret ⟨_, _, rfl, by simp, by simp⟩
  obtain ⟨r, hr, env, tr, rfl, e0, e1⟩ := main
  refine ⟨tr, ?_⟩
  rw [hr]
  simp [e0, e1, oneOrTuple]

theorem walk29s (h : Heap) (key nonce : Nat → BitVec 8) (xa xs : AV) (na m : Nat) (a s : Nat → BitVec 8) (ha : Byt h xa na a) (hs : Byt h xs m s) (hb : ¬ bigO na m) (hm : m < 16) :
    ∃ tr, evBody (cx29 callS18) Try.f29 n29_0 [arr 32 key, arr 12 nonce, xa, xs] h = some (.tuple [.nilslice, nat 4], h ++ tr) := by
  have la := ha.len
  have lt := hs.len
  have h1 : ¬ 65536 < na := fun q => hb (.inl q)
  have h2 : ¬ 65552 < m := fun q => hb (.inr q)
  have c1 : mBin .sub (nat m) (nat 16) = some (.int .i64 ((m : Int) - 16)) := by
    simp only [mBin, mBinI, nat, if_true]
    rw [wrapi (by omega)]
    rfl
  have c2 : mBin .lss (.int .i64 ((m : Int) - 16)) (nat 0) = some (.bool true) := by
    simp only [mBin, mBinI, nat, if_true]
    rw [decide_eq_true (by omega)]
  rw [b29]
  have main : Evs (evC (cx29 callS18) n29_0 ⟨[(0, arr 32 key), (1, arr 12 nonce), (2, xa), (3, xs), (4, .junk), (5, .junk), (6, .junk), (7, .junk), (8, .junk), (9, .junk), (10, .junk), (11, .junk), (12, .junk), (13, .junk), (14, .junk), (22, .junk), (27, .junk), (52, .junk)], h⟩) (fun r => ∃ env tr, r = (.ret, ⟨env, h ++ tr⟩) ∧ env.get 8 = .nilslice ∧ env.get 9 = nat 4) := by
    obtain ⟨env, he⟩ : ∃ env : Env, env = [(0, arr 32 key), (1, arr 12 nonce), (2, xa), (3, xs), (4, .junk), (5, .junk), (6, .junk), (7, .junk), (8, .junk), (9, .junk), (10, .junk), (11, .junk), (12, .junk), (13, .junk), (14, .junk), (22, .junk), (27, .junk), (52, .junk)] := ⟨_, rfl⟩
    rw [← he]
    have g0 : env.get 0 = arr 32 key := by rw [he]; rfl
    have g1 : env.get 1 = arr 12 nonce := by rw [he]; rfl
    have g2 : env.get 2 = xa := by rw [he]; rfl
    have g3 : env.get 3 = xs := by rw [he]; rfl
    clear he
    repeat (first | (with_reducible refine Evs.assoc ?_) | ((with_reducible refine Evs.some_bnd ?_); try dsimp only [sqK_nrm, sqK_exit, sqK_ret]) | ((with_reducible apply Evs.bcndT); (focus (simp (disch := omega) [g0, g1, g2, g3, la, lt, h1, h2, c1, c2] <;> omega))) | ((with_reducible apply Evs.bcndF); (focus (simp (disch := omega) [g0, g1, g2, g3, la, lt, h1, h2, c1, c2] <;> omega))) | ((with_reducible apply Evs.step); (focus ((conv => lhs; simp (disch := omega) [g0, g1, g2, g3, la, lt, h1, h2, c1, c2]); done)); try dsimp only) | (simp only [sn29, snB]))
    exact Evs.ret ⟨_, _, rfl, by simp, by simp⟩
  obtain ⟨r, hr, env, tr, rfl, e0, e1⟩ := main
  refine ⟨tr, ?_⟩
  rw [hr]
  simp [e0, e1, oneOrTuple]

theorem walk29 (h : Heap) (key nonce : Nat → BitVec 8) (xa xs : AV) (na m : Nat) (a s : Nat → BitVec 8) (ha : Byt h xa na a) (hs : Byt h xs m s) (hb : ¬ bigO na m) (hm : 16 ≤ m) :
    ∃ tr j, evBody (cx29 callS18) Try.f29 n29_0 [arr 32 key, arr 12 nonce, xa, xs] h = some (if openG key nonce na a m s = true then .tuple [.slice (h.length + j) 0 [] (.int .u8) 0 (m - 16) (some (m)), nat 0] else .tuple [.nilslice, nat 90], h ++ tr) ∧ tr[j]? = some ⟨arr (m) (openF key nonce m s), 0, .own⟩ := by
  have la := ha.len
  have lt := hs.len
  have h1 : ¬ 65536 < na := fun q => hb (.inl q)
  have h2 : ¬ 65552 < m := fun q => hb (.inr q)
  obtain ⟨y, y1, y2⟩ := hs.from (l := m - 16) (by omega)
  rw [show m - (m - 16) = 16 by omega] at y2
  obtain ⟨p, p1, p2⟩ := y2.arr16
  obtain ⟨z, z1, z2⟩ := hs.upto (l := m - 16) (by omega)
  have k46 : ∀ (k T : Nat → BitVec 8) (l : Heap), callS17 46 [arr 32 k, arr 16 T, z] (h ++ l) = some (.slice (h ++ l).length 0 [] (.int .u8) 0 (m - 16) (some (m)), h ++ l ++ [⟨arr (m) (turnF k T (m - 16) s), 0, .own⟩]) := fun k T l => by
    have := callS17_46 k T z (m - 16) s (h ++ l) ⟨z2.app l, by omega⟩
    rwa [show m - 16 + 16 = m by omega] at this
  have k45 : ∀ (b k : Nat → BitVec 8) (l : Heap) (i : Nat) (f : Nat → BitVec 8), l[i]? = some ⟨arr (m) f, 0, .own⟩ → still callS14 45 [arr 16 b, arr 32 k, arr 12 nonce, xa, .slice (h.length + i) 0 [] (.int .u8) 0 (m - 16) (some (m))] (h ++ l) = some (arr 16 (tagF b k nonce na a (m - 16) f), h ++ l) := fun b k l i f hi =>
    callS14_45s b k nonce xa _ na (m - 16) a f (h ++ l) ⟨ha.app l, (Byt.own (b := ⟨arr (m) f, 0, .own⟩) (by rw [blkAt_new]; unfold blkAt; rw [hi]; rfl) rfl (by omega) (by omega)).congr fun i _ => by rw [Nat.zero_add], by omega, by omega⟩
  rw [b29]
  have main : Evs (evC (cx29 callS18) n29_0 ⟨[(0, arr 32 key), (1, arr 12 nonce), (2, xa), (3, xs), (4, .junk), (5, .junk), (6, .junk), (7, .junk), (8, .junk), (9, .junk), (10, .junk), (11, .junk), (12, .junk), (13, .junk), (14, .junk), (22, .junk), (27, .junk), (52, .junk)], h⟩) (fun r => ∃ env tr j, r = (.ret, ⟨env, h ++ tr⟩) ∧ (if openG key nonce na a m s = true then env.get 8 = .slice (h.length + j) 0 [] (.int .u8) 0 (m - 16) (some (m)) ∧ env.get 9 = nat 0 else env.get 8 = .nilslice ∧ env.get 9 = nat 90) ∧ tr[j]? = some ⟨arr (m) (openF key nonce m s), 0, .own⟩) := by
    obtain ⟨env, he⟩ : ∃ env : Env, env = [(0, arr 32 key), (1, arr 12 nonce), (2, xa), (3, xs), (4, .junk), (5, .junk), (6, .junk), (7, .junk), (8, .junk), (9, .junk), (10, .junk), (11, .junk), (12, .junk), (13, .junk), (14, .junk), (22, .junk), (27, .junk), (52, .junk)] := ⟨_, rfl⟩
    rw [← he]
    have g0 : env.get 0 = arr 32 key := by rw [he]; rfl
    have g1 : env.get 1 = arr 12 nonce := by rw [he]; rfl
    have g2 : env.get 2 = xa := by rw [he]; rfl
    have g3 : env.get 3 = xs := by rw [he]; rfl
    clear he
    repeat (first | (with_reducible refine Evs.assoc ?_) | ((with_reducible refine Evs.some_bnd ?_); try dsimp only [sqK_nrm, sqK_exit, sqK_ret]) | ((with_reducible apply Evs.bcndT); (focus (simp (disch := omega) [g0, g1, g2, g3, la, lt, h1, h2, y1, p1, p2, z1, k46] <;> omega))) | ((with_reducible apply Evs.bcndF); (focus (simp (disch := omega) [g0, g1, g2, g3, la, lt, h1, h2, y1, p1, p2, z1, k46] <;> omega))) | ((with_reducible apply Evs.step); (focus ((conv => lhs; simp (disch := omega) [g0, g1, g2, g3, la, lt, h1, h2, y1, p1, p2, z1, k46]); done)); try dsimp only) | (simp only [sn29, snB]))
    with_reducible apply Evs.step
    · conv => lhs; simp (disch := omega) [g2, g3]
      exact k45 _ _ _ 5 _ rfl
    by_cases hg : openG key nonce na a m s = true
    · have hg' : arrEq 16 (tagF (keyA key nonce) (keyE key nonce) nonce na a (m - 16) (turnF (keyE key nonce) (fun i => s (m - 16 + i)) (m - 16) s)) (fun i => s (m - 16 + i)) = true := hg
      repeat (first | (with_reducible refine Evs.assoc ?_) | ((with_reducible refine Evs.some_bnd ?_); try dsimp only [sqK_nrm, sqK_exit, sqK_ret]) | ((with_reducible apply Evs.bcndT); (focus (simp (disch := omega) [hg'] <;> omega))) | ((with_reducible apply Evs.bcndF); (focus (simp (disch := omega) [hg'] <;> omega))) | ((with_reducible apply Evs.step); (focus ((conv => lhs; simp (disch := omega) [hg']); done)); try dsimp only) | (simp only [sn29, snB]))
      exact Evs.ret ⟨_, _, 5, rfl, by rw [if_pos hg]; simp, rfl⟩
    · have hg' : arrEq 16 (tagF (keyA key nonce) (keyE key nonce) nonce na a (m - 16) (turnF (keyE key nonce) (fun i => s (m - 16 + i)) (m - 16) s)) (fun i => s (m - 16 + i)) = false := Bool.eq_false_iff.2 hg
      repeat (first | (with_reducible refine Evs.assoc ?_) | ((with_reducible refine Evs.some_bnd ?_); try dsimp only [sqK_nrm, sqK_exit, sqK_ret]) | ((with_reducible apply Evs.bcndT); (focus (simp (disch := omega) [hg'] <;> omega))) | ((with_reducible apply Evs.bcndF); (focus (simp (disch := omega) [hg'] <;> omega))) | ((with_reducible apply Evs.step); (focus ((conv => lhs; simp (disch := omega) [hg']); done)); try dsimp only) | (simp only [sn29, snB]))
      exact Evs.ret ⟨_, _, 5, rfl, by rw [if_neg hg]; simp, rfl⟩
  obtain ⟨r, hr, env, tr, j, rfl, e0, e2⟩ := main
  refine ⟨tr, j, ?_, e2⟩
  rw [hr]
  split at e0
  · rename_i hg
    simp [e0.1, e0.2, hg, oneOrTuple]
  · rename_i hg
    simp [e0.1, e0.2, hg, oneOrTuple]

noncomputable def c29 := conC (fun x : (Nat → BitVec 8) × (Nat → BitVec 8) × (AV) × (AV) × (Nat) × (Nat) × (Nat → BitVec 8) × (Nat → BitVec 8) => [arr 32 x.1, arr 12 x.2.1, x.2.2.1, x.2.2.2.1]) (fun (x : (Nat → BitVec 8) × (Nat → BitVec 8) × (AV) × (AV) × (Nat) × (Nat) × (Nat → BitVec 8) × (Nat → BitVec 8)) h => Byt h x.2.2.1 x.2.2.2.2.1 x.2.2.2.2.2.2.1 ∧ Byt h x.2.2.2.1 x.2.2.2.2.2.1 x.2.2.2.2.2.2.2) (fun (x : (Nat → BitVec 8) × (Nat → BitVec 8) × (AV) × (AV) × (Nat) × (Nat) × (Nat → BitVec 8) × (Nat → BitVec 8)) h => (ansV (openC x.2.2.2.2.1 x.2.2.2.2.2.1 (openG x.1 x.2.1 x.2.2.2.2.1 x.2.2.2.2.2.2.1 x.2.2.2.2.2.1 x.2.2.2.2.2.2.2)) h.length (x.2.2.2.2.2.1 - 16) x.2.2.2.2.2.1, ansH (openC x.2.2.2.2.1 x.2.2.2.2.2.1 (openG x.1 x.2.1 x.2.2.2.2.1 x.2.2.2.2.2.2.1 x.2.2.2.2.2.1 x.2.2.2.2.2.2.2)) h ⟨arr x.2.2.2.2.2.1 (openF x.1 x.2.1 x.2.2.2.2.2.1 x.2.2.2.2.2.2.2), 0, .own⟩))
noncomputable def callS19 : Calling := addC callS18 29 c29
theorem c29_eq (k : Nat → BitVec 8) (n : Nat → BitVec 8) (xa : AV) (xs : AV) (na : Nat) (m : Nat) (a : Nat → BitVec 8) (s : Nat → BitVec 8) (h : Heap) (hc : Byt h xa na a ∧ Byt h xs m s) : c29 [arr 32 k, arr 12 n, xa, xs] h = some (ansV (openC na m (openG k n na a m s)) h.length (m - 16) m, ansH (openC na m (openG k n na a m s)) h ⟨arr m (openF k n m s), 0, .own⟩) :=
  conC_eqP (enc := fun x : (Nat → BitVec 8) × (Nat → BitVec 8) × (AV) × (AV) × (Nat) × (Nat) × (Nat → BitVec 8) × (Nat → BitVec 8) => [arr 32 x.1, arr 12 x.2.1, x.2.2.1, x.2.2.2.1]) (P := fun (x : (Nat → BitVec 8) × (Nat → BitVec 8) × (AV) × (AV) × (Nat) × (Nat) × (Nat → BitVec 8) × (Nat → BitVec 8)) h => Byt h x.2.2.1 x.2.2.2.2.1 x.2.2.2.2.2.2.1 ∧ Byt h x.2.2.2.1 x.2.2.2.2.2.1 x.2.2.2.2.2.2.2) (a := (k, n, xa, xs, na, m, a, s)) (f := fun (x : (Nat → BitVec 8) × (Nat → BitVec 8) × (AV) × (AV) × (Nat) × (Nat) × (Nat → BitVec 8) × (Nat → BitVec 8)) h => (ansV (openC x.2.2.2.2.1 x.2.2.2.2.2.1 (openG x.1 x.2.1 x.2.2.2.2.1 x.2.2.2.2.2.2.1 x.2.2.2.2.2.1 x.2.2.2.2.2.2.2)) h.length (x.2.2.2.2.2.1 - 16) x.2.2.2.2.2.1, ansH (openC x.2.2.2.2.1 x.2.2.2.2.2.1 (openG x.1 x.2.1 x.2.2.2.2.1 x.2.2.2.2.2.2.1 x.2.2.2.2.2.1 x.2.2.2.2.2.2.2)) h ⟨arr x.2.2.2.2.2.1 (openF x.1 x.2.1 x.2.2.2.2.2.1 x.2.2.2.2.2.2.2), 0, .own⟩)) (fun x y h hp hq e => by
    have e1 := arr_inj.1 (List.cons.inj e).1
    have e2 := arr_inj.1 (List.cons.inj (List.cons.inj e).2).1
    have e4 := (List.cons.inj (List.cons.inj (List.cons.inj e).2).2).1
    have e5 := (List.cons.inj (List.cons.inj (List.cons.inj (List.cons.inj e).2).2).2).1
    rw [e4, e5] at hp
    obtain ⟨d1, d2⟩ := hp.1.det hq.1
    obtain ⟨d3, d4⟩ := hp.2.det hq.2
    rw [← d1, ← d3]
    by_cases hm : 16 ≤ x.2.2.2.2.2.1
    · rw [openG_congr e1 e2 d2 d4 hm, arr_congr fun i _ => openF_congr e1 e2 d4 hm i]
    · have q : ∀ g g' : Bool, openC x.2.2.2.2.1 x.2.2.2.2.2.1 g = openC x.2.2.2.2.1 x.2.2.2.2.2.1 g' := fun g g' => by
        unfold openC
        rw [if_pos (show x.2.2.2.2.2.1 < 16 by omega), if_pos (show x.2.2.2.2.2.1 < 16 by omega)]
      have q0 : ∀ g, openC x.2.2.2.2.1 x.2.2.2.2.2.1 g ≠ 0 := fun g => by
        unfold openC
        rw [if_pos (show x.2.2.2.2.2.1 < 16 by omega)]
        split <;> omega
      rw [q _ (openG y.1 y.2.1 x.2.2.2.2.1 y.2.2.2.2.2.2.1 x.2.2.2.2.2.1 y.2.2.2.2.2.2.2)]
      unfold ansH
      rw [if_neg (q0 _), if_neg (q0 _)]
    ) hc
theorem callS19_ok : CallOK Try.prog callS19 := addC_con callS18_ok k29 fun x h hx => by
  show Spec _ 29 _ h (ansV (openC _ _ _) _ _ _) (ansH (openC _ _ _) _ _)
  by_cases hb : bigO x.2.2.2.2.1 x.2.2.2.2.2.1
  · obtain ⟨tr, hr⟩ := walk29b h x.1 x.2.1 _ _ _ _ _ _ hx.1 hx.2 hb
    have := (s29 callS18_ok hr).drop0 tr rfl
    have e : ∀ g, openC x.2.2.2.2.1 x.2.2.2.2.2.1 g = 3 := fun g => if_pos hb
    rw [e]
    exact this
  by_cases hm : x.2.2.2.2.2.1 < 16
  · obtain ⟨tr, hr⟩ := walk29s h x.1 x.2.1 _ _ _ _ _ _ hx.1 hx.2 hb hm
    have := (s29 callS18_ok hr).drop0 tr rfl
    have e : ∀ g, openC x.2.2.2.2.1 x.2.2.2.2.2.1 g = 4 := fun g => by unfold openC; rw [if_neg hb, if_pos hm]
    rw [e]
    exact this
  obtain ⟨tr, j, hr, hj⟩ := walk29 h x.1 x.2.1 _ _ _ _ _ _ hx.1 hx.2 hb (by omega)
  have e : ∀ g, openC x.2.2.2.2.1 x.2.2.2.2.2.1 g = if g = true then 0 else 90 := fun g => by unfold openC; rw [if_neg hb, if_neg hm]
  rw [e]
  by_cases hg : openG x.1 x.2.1 x.2.2.2.2.1 x.2.2.2.2.2.2.1 x.2.2.2.2.2.1 x.2.2.2.2.2.2.2 = true
  · rw [if_pos hg] at hr ⊢
    exact (s29 callS18_ok hr).pullT tr j _ hj ⟨_, _, rfl⟩
  · rw [if_neg hg] at hr ⊢
    exact (s29 callS18_ok hr).drop0 tr rfl
@[simp] theorem callS19_ne {f : Nat} (args : List AV) (h : Heap) (hf : f ≠ 29) : callS19 f args h = callS18 f args h := addC_ne _ _ _ args h hf
@[simp] theorem callS19_sne {f : Nat} (args : List AV) (h : Heap) (hf : f ≠ 29) : still callS19 f args h = still callS18 f args h := still_ne _ _ _ args h hf
theorem callS19_29 (k : Nat → BitVec 8) (n : Nat → BitVec 8) (xa : AV) (xs : AV) (na : Nat) (m : Nat) (a : Nat → BitVec 8) (s : Nat → BitVec 8) (h : Heap) (hc : Byt h xa na a ∧ Byt h xs m s) : callS19 29 [arr 32 k, arr 12 n, xa, xs] h = some (ansV (openC na m (openG k n na a m s)) h.length (m - 16) m, ansH (openC na m (openG k n na a m s)) h ⟨arr m (openF k n m s), 0, .own⟩) := by
  unfold callS19; rw [addC_same]; exact c29_eq k n xa xs na m a s h hc

end Go.Vab

/-
  The sealing of nothing under a known key: one computation. Printed by wip/tools/sivknown.py (own work).
-/
namespace Go.Vab
open Go Go.Proofs

def sbT : List Nat := [99, 124, 119, 123, 242, 107, 111, 197, 48, 1, 103, 43, 254, 215, 171, 118, 202, 130, 201, 125, 250, 89, 71, 240, 173, 212, 162, 175, 156, 164, 114, 192, 183, 253, 147, 38, 54, 63, 247, 204, 52, 165, 229, 241, 113, 216, 49, 21, 4, 199, 35, 195, 24, 150, 5, 154, 7, 18, 128, 226, 235, 39, 178, 117, 9, 131, 44, 26, 27, 110, 90, 160, 82, 59, 214, 179, 41, 227, 47, 132, 83, 209, 0, 237, 32, 252, 177, 91, 106, 203, 190, 57, 74, 76, 88, 207, 208, 239, 170, 251, 67, 77, 51, 133, 69, 249, 2, 127, 80, 60, 159, 168, 81, 163, 64, 143, 146, 157, 56, 245, 188, 182, 218, 33, 16, 255, 243, 210, 205, 12, 19, 236, 95, 151, 68, 23, 196, 167, 126, 61, 100, 93, 25, 115, 96, 129, 79, 220, 34, 42, 144, 136, 70, 238, 184, 20, 222, 94, 11, 219, 224, 50, 58, 10, 73, 6, 36, 92, 194, 211, 172, 98, 145, 149, 228, 121, 231, 200, 55, 109, 141, 213, 78, 169, 108, 86, 244, 234, 101, 122, 174, 8, 186, 120, 37, 46, 28, 166, 180, 198, 232, 221, 116, 31, 75, 189, 139, 138, 112, 62, 181, 102, 72, 3, 246, 14, 97, 53, 87, 185, 134, 193, 29, 158, 225, 248, 152, 17, 105, 217, 142, 148, 155, 30, 135, 233, 206, 85, 40, 223, 140, 161, 137, 13, 191, 230, 66, 104, 65, 153, 45, 15, 176, 84, 187, 22]
theorem sbT_s : all2 256 1 (fun i _ => bq (subB (BitVec.ofNat 8 i)) (BitVec.ofNat 8 (sbT.getD i 0))) = true := by kernel_rfl
def sbL (x : BitVec 8) : BitVec 8 := BitVec.ofNat 8 (sbT.getD x.toNat 0)
theorem subB_L : subB = sbL := by
  funext x
  have := bq_eq (all2_spec sbT_s x.isLt (by decide : 0 < 1))
  rw [BitVec.ofNat_toNat, BitVec.setWidth_eq] at this
  exact this
def subShL (b : Nat → BitVec 8) (i : Nat) : BitVec 8 := sbL (b ((i + 4 * (i % 4)) % 16))
theorem subSh_L : subSh = subShL := by
  funext b i
  unfold subSh subShL
  rw [subB_L]
def wOk (W : List (List Nat)) (key : Nat → BitVec 8) : Bool := all2 8 4 (fun i p => bq (at2 W i p) (key (4 * i + p))) &&
  all2 60 4 (fun i p => decide (i < 8) || bq (at2 W i p) (at2 W (i - 8) p ^^^ (if i % 8 = 0 then sbL (at2 W (i - 1) ((p + 1) % 4)) ^^^ (if p = 0 then rcon (i / 8 - 1) else 0#8) else if i % 8 = 4 then sbL (at2 W (i - 1) p) else at2 W (i - 1) p)))
theorem wOk_wd {W : List (List Nat)} {key : Nat → BitVec 8} (h : wOk W key = true) : ∀ i, i < 60 → ∀ p, p < 4 → wd key i p = at2 W i p := by
  unfold wOk at h
  rw [Bool.and_eq_true] at h
  refine wd_of (fun i hi p hp => bq_eq (all2_spec h.1 hi hp)) fun i h8 hi p hp => ?_
  have := all2_spec h.2 hi hp
  rw [Bool.or_eq_true] at this
  rw [subB_L]
  rcases this with h | h
  · exact absurd (of_decide_eq_true h) (by omega)
  · exact bq_eq h
def sOk (W S : List (List Nat)) (out : List Nat) (blk : Nat → BitVec 8) : Bool := all2 1 16 (fun _ i => bq (at2 S 0 i) (blk i)) &&
  (all2 14 16 (fun j i => bq (at2 S (j + 1) i) (if j = 13 then subShL (addK (at2 W) j (at2 S j)) i else mixC (subShL (addK (at2 W) j (at2 S j))) i)) &&
  all2 1 16 (fun _ i => bq (addK (at2 W) 14 (at2 S 14) i) (BitVec.ofNat 8 (out.getD i 0))))
theorem sOk_enc {W S : List (List Nat)} {out : List Nat} {key blk : Nat → BitVec 8} (hw : wOk W key = true) (h : sOk W S out blk = true) : ∀ i, i < 16 → encF (wd key) blk i = BitVec.ofNat 8 (out.getD i 0) := by
  unfold sOk at h
  rw [Bool.and_eq_true, Bool.and_eq_true] at h
  obtain ⟨h1, h2, h3⟩ := h
  intro i hi
  rw [encF_congr (wOk_wd hw) (fun _ _ => rfl) i hi]
  unfold encF
  have hp : ∀ j, j ≤ 14 → ∀ i, i < 16 → pre (at2 W) blk j i = at2 S j i :=
    pre_of (fun i hi => bq_eq (all2_spec h1 (by decide : 0 < 1) hi)) fun j hj i hi => by rw [subSh_L]; exact bq_eq (all2_spec h2 hj hi)
  rw [addK_congr (w := at2 W) (v := at2 W) (j := 14) (by decide) (fun _ _ _ _ => rfl) (hp 14 (by decide)) i hi]
  exact bq_eq (all2_spec h3 (by decide : 0 < 1) hi)

def key1 : Nat → BitVec 8 := upd (fun _ => 0#8) 0 1#8
def non1 : Nat → BitVec 8 := upd (fun _ => 0#8) 0 3#8

def w1K : List (List Nat) := [[1, 0, 0, 0],
  [0, 0, 0, 0],
  [0, 0, 0, 0],
  [0, 0, 0, 0],
  [0, 0, 0, 0],
  [0, 0, 0, 0],
  [0, 0, 0, 0],
  [0, 0, 0, 0],
  [99, 99, 99, 99],
  [99, 99, 99, 99],
  [99, 99, 99, 99],
  [99, 99, 99, 99],
  [251, 251, 251, 251],
  [251, 251, 251, 251],
  [251, 251, 251, 251],
  [251, 251, 251, 251],
  [110, 108, 108, 108],
  [13, 15, 15, 15],
  [110, 108, 108, 108],
  [13, 15, 15, 15],
  [44, 141, 141, 141],
  [215, 118, 118, 118],
  [44, 141, 141, 141],
  [215, 118, 118, 118],
  [82, 84, 84, 98],
  [95, 91, 91, 109],
  [49, 55, 55, 1],
  [60, 56, 56, 14],
  [199, 138, 138, 38],
  [16, 252, 252, 80],
  [60, 113, 113, 221],
  [235, 7, 7, 171],
  [159, 145, 54, 139],
  [192, 202, 109, 230],
  [241, 253, 90, 231],
  [205, 197, 98, 233],
  [122, 44, 32, 56],
  [106, 208, 220, 104],
  [86, 161, 173, 181],
  [189, 166, 170, 30],
  [171, 61, 68, 241],
  [107, 247, 41, 23],
  [154, 10, 115, 240],
  [87, 207, 17, 25],
  [33, 166, 162, 236],
  [75, 118, 126, 132],
  [29, 215, 211, 49],
  [160, 113, 121, 47],
  [40, 139, 81, 17],
  [67, 124, 120, 6],
  [217, 118, 11, 246],
  [142, 185, 26, 239],
  [56, 240, 0, 51],
  [115, 134, 126, 183],
  [110, 81, 173, 134],
  [206, 32, 212, 169],
  [223, 195, 130, 154],
  [156, 191, 250, 156],
  [69, 201, 241, 106],
  [203, 112, 235, 133]]
theorem w1K_ok : wOk w1K key1 = true := by kernel_rfl
def s2K : List (List Nat) := [[2, 0, 0, 0, 3, 0, 0, 0, 0, 0, 0, 0, 0, 0, 0, 0],
  [83, 123, 123, 75, 83, 123, 123, 75, 99, 99, 99, 99, 99, 99, 99, 99],
  [162, 66, 55, 27, 159, 165, 53, 81, 105, 198, 140, 177, 84, 33, 142, 251],
  [174, 55, 163, 111, 152, 255, 195, 251, 185, 124, 110, 227, 55, 6, 218, 136],
  [75, 242, 208, 194, 11, 235, 107, 184, 173, 89, 9, 140, 225, 121, 226, 208],
  [22, 164, 117, 66, 206, 67, 100, 161, 216, 88, 60, 102, 56, 252, 123, 216],
  [150, 16, 170, 22, 235, 58, 231, 188, 168, 142, 81, 249, 113, 39, 211, 223],
  [31, 178, 215, 132, 128, 147, 191, 12, 25, 157, 1, 46, 212, 59, 241, 194],
  [137, 32, 123, 179, 241, 27, 100, 88, 94, 108, 146, 114, 244, 88, 81, 152],
  [135, 187, 76, 66, 201, 135, 210, 30, 93, 85, 19, 113, 76, 176, 166, 171],
  [62, 222, 44, 184, 234, 172, 39, 240, 247, 109, 132, 26, 109, 80, 64, 227],
  [90, 205, 180, 117, 102, 78, 125, 54, 223, 202, 202, 233, 4, 195, 78, 52],
  [48, 231, 127, 245, 40, 208, 122, 138, 99, 181, 197, 113, 9, 91, 99, 29],
  [235, 155, 177, 255, 83, 139, 157, 203, 21, 232, 162, 102, 190, 57, 144, 48],
  [102, 215, 118, 238, 183, 86, 27, 75, 33, 212, 200, 16, 81, 127, 17, 225]]
def o2K : List Nat := [185, 20, 244, 116, 43, 233, 225, 215, 100, 29, 57, 122, 154, 15, 250, 100]
theorem s2K_ok : sOk w1K s2K o2K (kblk non1 2) = true := by kernel_rfl
def s3K : List (List Nat) := [[3, 0, 0, 0, 3, 0, 0, 0, 0, 0, 0, 0, 0, 0, 0, 0],
  [75, 119, 119, 95, 83, 123, 123, 75, 99, 99, 99, 99, 99, 99, 99, 99],
  [30, 28, 105, 249, 227, 217, 177, 169, 189, 161, 63, 101, 51, 146, 90, 47],
  [129, 251, 228, 246, 68, 9, 31, 16, 209, 153, 238, 9, 17, 71, 65, 76],
  [223, 145, 1, 236, 214, 151, 51, 243, 87, 157, 59, 88, 80, 115, 182, 145],
  [17, 162, 37, 72, 10, 215, 248, 166, 152, 198, 177, 97, 151, 218, 253, 91],
  [43, 189, 171, 27, 204, 93, 249, 129, 27, 153, 19, 63, 250, 198, 103, 144],
  [251, 57, 168, 142, 237, 243, 124, 35, 223, 124, 59, 30, 217, 116, 19, 156],
  [27, 252, 159, 169, 242, 54, 49, 78, 180, 53, 41, 42, 18, 155, 189, 153],
  [171, 255, 25, 124, 104, 194, 66, 46, 37, 114, 214, 166, 148, 133, 234, 174],
  [250, 51, 135, 127, 86, 187, 46, 192, 39, 175, 99, 10, 141, 9, 82, 99],
  [210, 28, 2, 36, 71, 28, 62, 71, 19, 117, 128, 8, 160, 99, 26, 205],
  [105, 189, 125, 211, 186, 116, 10, 19, 195, 55, 203, 147, 218, 153, 179, 124],
  [43, 234, 163, 183, 65, 207, 200, 170, 181, 29, 28, 137, 66, 167, 114, 191],
  [125, 59, 200, 71, 35, 41, 36, 95, 185, 23, 10, 164, 100, 162, 78, 118]]
def o3K : List Nat := [162, 248, 74, 221, 191, 150, 222, 195, 252, 222, 251, 206, 175, 210, 165, 243]
theorem s3K_ok : sOk w1K s3K o3K (kblk non1 3) = true := by kernel_rfl
def s4K : List (List Nat) := [[4, 0, 0, 0, 3, 0, 0, 0, 0, 0, 0, 0, 0, 0, 0, 0],
  [115, 107, 107, 123, 83, 123, 123, 75, 99, 99, 99, 99, 99, 99, 99, 99],
  [102, 32, 85, 189, 13, 55, 152, 110, 55, 36, 48, 239, 182, 157, 208, 165],
  [239, 179, 77, 3, 174, 110, 194, 77, 68, 149, 243, 107, 67, 66, 171, 216],
  [135, 216, 218, 67, 75, 109, 6, 81, 234, 56, 16, 156, 92, 158, 186, 52],
  [43, 131, 169, 71, 20, 107, 244, 49, 48, 204, 170, 158, 184, 95, 209, 231],
  [43, 88, 122, 37, 234, 163, 137, 69, 65, 55, 174, 119, 195, 173, 162, 161],
  [35, 100, 187, 156, 12, 96, 38, 228, 217, 98, 69, 128, 184, 13, 209, 1],
  [31, 74, 104, 62, 166, 147, 17, 199, 74, 200, 167, 209, 162, 8, 191, 203],
  [0, 47, 0, 238, 211, 137, 88, 179, 182, 158, 251, 33, 142, 244, 62, 64],
  [0, 199, 128, 191, 231, 44, 102, 90, 215, 154, 68, 230, 109, 246, 96, 62],
  [66, 114, 187, 6, 228, 117, 40, 49, 20, 0, 247, 237, 175, 10, 119, 188],
  [138, 139, 147, 248, 204, 4, 168, 59, 96, 241, 247, 71, 3, 168, 214, 116],
  [15, 134, 193, 106, 138, 158, 208, 245, 51, 1, 247, 19, 167, 195, 157, 127],
  [154, 173, 190, 246, 153, 83, 59, 203, 76, 17, 120, 44, 249, 56, 228, 42]]
def o4K : List Nat := [69, 110, 60, 108, 5, 236, 193, 87, 9, 216, 137, 70, 50, 72, 15, 175]
theorem s4K_ok : sOk w1K s4K o4K (kblk non1 4) = true := by kernel_rfl
def s5K : List (List Nat) := [[5, 0, 0, 0, 3, 0, 0, 0, 0, 0, 0, 0, 0, 0, 0, 0],
  [90, 242, 242, 203, 83, 123, 123, 75, 99, 99, 99, 99, 99, 99, 99, 99],
  [4, 17, 100, 238, 51, 9, 218, 18, 193, 37, 199, 25, 183, 106, 38, 83],
  [90, 94, 25, 215, 123, 8, 50, 123, 17, 207, 84, 215, 220, 232, 209, 97],
  [178, 27, 30, 73, 61, 184, 151, 83, 199, 3, 157, 246, 37, 205, 248, 118],
  [224, 129, 183, 238, 188, 200, 61, 178, 216, 19, 168, 159, 146, 183, 158, 132],
  [201, 196, 27, 69, 131, 36, 79, 252, 113, 200, 248, 26, 191, 142, 173, 118],
  [115, 146, 22, 7, 203, 24, 139, 46, 197, 131, 204, 200, 54, 150, 137, 240],
  [249, 232, 91, 237, 13, 102, 30, 161, 156, 10, 177, 18, 217, 221, 118, 178],
  [30, 19, 32, 95, 16, 75, 111, 40, 8, 153, 18, 142, 71, 225, 120, 251],
  [107, 170, 55, 112, 150, 149, 56, 214, 33, 175, 37, 57, 74, 146, 191, 176],
  [232, 238, 7, 115, 74, 99, 149, 6, 236, 128, 43, 22, 143, 239, 79, 92],
  [132, 35, 140, 97, 203, 30, 91, 119, 81, 174, 147, 211, 249, 93, 193, 7],
  [1, 143, 1, 105, 216, 135, 63, 45, 74, 237, 202, 162, 181, 63, 58, 158],
  [18, 124, 133, 154, 98, 101, 40, 190, 54, 192, 124, 184, 33, 210, 131, 54]]
def o5K : List Nat := [205, 191, 7, 0, 254, 218, 210, 34, 115, 9, 141, 210, 234, 162, 104, 179]
theorem s5K_ok : sOk w1K s5K o5K (kblk non1 5) = true := by kernel_rfl
def kEK : List Nat := [185, 20, 244, 116, 43, 233, 225, 215, 162, 248, 74, 221, 191, 150, 222, 195, 69, 110, 60, 108, 5, 236, 193, 87, 205, 191, 7, 0, 254, 218, 210, 34]
def kEF (i : Nat) : BitVec 8 := BitVec.ofNat 8 (kEK.getD i 0)
set_option maxHeartbeats 4000000 in
theorem kE_known : ∀ j, j < 32 → keyE key1 non1 j = kEF j := by
  have c2 : all2 1 8 (fun _ j => Nat.beq (o2K.getD j 0) (kEK.getD j 0) && (Nat.beq (o3K.getD j 0) (kEK.getD (8 + j) 0) && (Nat.beq (o4K.getD j 0) (kEK.getD (16 + j) 0) && Nat.beq (o5K.getD j 0) (kEK.getD (24 + j) 0)))) = true := by kernel_rfl
  intro j hj
  have c := all2_spec c2 (by decide : 0 < 1) (show j % 8 < 8 by omega)
  rw [Bool.and_eq_true, Bool.and_eq_true, Bool.and_eq_true] at c
  obtain ⟨a2, a3, a4, a5⟩ := c
  have b2 := Nat.eq_of_beq_eq_true a2
  have b3 := Nat.eq_of_beq_eq_true a3
  have b4 := Nat.eq_of_beq_eq_true a4
  have b5 := Nat.eq_of_beq_eq_true a5
  have e2 := sOk_enc w1K_ok s2K_ok (j % 8) (by omega)
  have e3 := sOk_enc w1K_ok s3K_ok (j % 8) (by omega)
  have e4 := sOk_enc w1K_ok s4K_ok (j % 8) (by omega)
  have e5 := sOk_enc w1K_ok s5K_ok (j % 8) (by omega)
  unfold keyE kF kEF
  rcases (by omega : j / 8 = 0 ∨ j / 8 = 1 ∨ j / 8 = 2 ∨ j / 8 = 3) with h | h | h | h
  · rw [h]
    refine e2.trans ?_
    rw [b2, show j % 8 = j by omega]
  · rw [h]
    refine e3.trans ?_
    rw [b3, show 8 + j % 8 = j by omega]
  · rw [h]
    refine e4.trans ?_
    rw [b4, show 16 + j % 8 = j by omega]
  · rw [h]
    refine e5.trans ?_
    rw [b5, show 24 + j % 8 = j by omega]

def w2K : List (List Nat) := [[185, 20, 244, 116],
  [43, 233, 225, 215],
  [162, 248, 74, 221],
  [191, 150, 222, 195],
  [69, 110, 60, 108],
  [5, 236, 193, 87],
  [205, 191, 7, 0],
  [254, 218, 210, 34],
  [239, 161, 103, 207],
  [196, 72, 134, 24],
  [102, 176, 204, 197],
  [217, 38, 18, 6],
  [112, 153, 245, 3],
  [117, 117, 52, 84],
  [184, 202, 51, 84],
  [70, 16, 225, 118],
  [39, 89, 95, 149],
  [227, 17, 217, 141],
  [133, 161, 21, 72],
  [92, 135, 7, 78],
  [58, 142, 48, 44],
  [79, 251, 4, 120],
  [247, 49, 55, 44],
  [177, 33, 214, 90],
  [222, 175, 225, 93],
  [61, 190, 56, 208],
  [184, 31, 45, 152],
  [228, 152, 42, 214],
  [83, 200, 213, 218],
  [28, 51, 209, 162],
  [235, 2, 230, 142],
  [90, 35, 48, 212],
  [240, 171, 169, 227],
  [205, 21, 145, 51],
  [117, 10, 188, 171],
  [145, 146, 150, 125],
  [210, 135, 69, 37],
  [206, 180, 148, 135],
  [37, 182, 114, 9],
  [127, 149, 66, 221],
  [202, 135, 104, 49],
  [7, 146, 249, 2],
  [114, 152, 69, 169],
  [227, 10, 211, 212],
  [195, 224, 35, 109],
  [13, 84, 183, 234],
  [40, 226, 197, 227],
  [87, 119, 135, 62],
  [31, 144, 218, 106],
  [24, 2, 35, 104],
  [106, 154, 102, 193],
  [137, 144, 181, 21],
  [100, 128, 246, 52],
  [105, 212, 65, 222],
  [65, 54, 132, 61],
  [22, 65, 3, 3],
  [220, 235, 161, 45],
  [196, 233, 130, 69],
  [174, 115, 228, 132],
  [39, 227, 81, 145]]
theorem w2K_ok : wOk w2K kEF = true := by kernel_rfl
def s6K : List (List Nat) := [[3, 0, 0, 0, 0, 0, 0, 0, 0, 0, 0, 0, 0, 0, 0, 0],
  [41, 135, 47, 147, 181, 198, 39, 107, 110, 213, 221, 125, 60, 53, 65, 131],
  [241, 74, 77, 38, 25, 138, 124, 192, 248, 195, 9, 113, 25, 111, 38, 26],
  [177, 85, 191, 54, 21, 242, 92, 243, 223, 40, 66, 1, 239, 137, 133, 16],
  [89, 155, 103, 90, 221, 168, 111, 135, 178, 127, 56, 20, 217, 118, 13, 131],
  [98, 145, 210, 225, 181, 171, 228, 184, 183, 173, 156, 221, 94, 69, 240, 93],
  [134, 175, 169, 30, 105, 53, 218, 63, 245, 134, 180, 175, 190, 221, 62, 2],
  [53, 113, 72, 253, 137, 232, 15, 64, 226, 22, 83, 167, 192, 81, 67, 13],
  [86, 11, 100, 83, 2, 131, 154, 136, 4, 251, 78, 54, 41, 150, 32, 201],
  [231, 18, 49, 116, 94, 230, 133, 191, 7, 106, 21, 126, 150, 148, 56, 195],
  [192, 112, 17, 192, 90, 211, 33, 69, 44, 193, 217, 78, 53, 34, 47, 123],
  [247, 122, 200, 6, 207, 171, 4, 246, 250, 81, 224, 49, 186, 17, 251, 59],
  [94, 30, 205, 215, 146, 176, 233, 236, 81, 111, 240, 61, 161, 60, 243, 91],
  [251, 105, 254, 103, 237, 61, 162, 202, 216, 143, 105, 226, 135, 42, 14, 74],
  [219, 30, 85, 59, 95, 86, 215, 237, 238, 127, 48, 250, 129, 30, 17, 158]]
def o6K : List Nat := [7, 245, 244, 22, 155, 191, 85, 168, 64, 12, 212, 126, 166, 253, 64, 15]
theorem s6K_ok : sOk w2K s6K o6K (mixF (fun _ => 0#8) non1) = true := by kernel_rfl
set_option maxHeartbeats 4000000 in
/-- The tag of nothing. -/
theorem tag_known (a t : Nat → BitVec 8) : ∀ j, j < 16 → tagS key1 non1 0 a 0 t j = BitVec.ofNat 8 (o6K.getD j 0) := by
  intro j hj
  have hs : sumX (val16 (keyA key1 non1)) 0 a 0 t = 0#128 := by
    unfold sumX
    show dotX (0#128 ^^^ lenX 0 0) _ = 0#128
    have : (0#128 ^^^ lenX 0 0) = 0#128 := rfl
    rw [this, (dotX_zero _ _).2 (.inl rfl)]
  have e := encF_congr (w := wd (keyE key1 non1)) (v := wd kEF) (b := mixF (fun _ => 0#8) non1) (d := mixF (fun _ => 0#8) non1) (fun i hi p hp => wd_congr kE_known i p hp) (fun i _ => rfl) j hj
  have z : bytesX 0#128 = fun _ => 0#8 := by funext i; unfold bytesX; simp
  unfold tagS tagF
  rw [hs, z]
  exact e.trans (sOk_enc w2K_ok s6K_ok j hj)

end Go.Vab

/- How the evaluator reads the functions of a seat. Printed by wip/tools/gen.py (own work). -/
namespace Go.Vab
open Go Go.Proofs
noncomputable section
variable (call : Calling) (env : Env) (h : Heap) (s : St)
/-! vestry/vestrylaw09.known -/
def cx24 (call : Calling) : Ctx := ⟨call, TT, 34, [5, 6, 7, 8, 9, 10, 11, 12, 13, 14, 15, 16, 17, 18, 19, 20, 21, 22, 23, 24, 25, 26, 27, 28, 29, 30, 31, 32, 33]⟩
def n24_0 : Code := bodyOf Try.f24
def n24_1 : Code := cR n24_0
def n24_2 : Code := cR n24_1
def n24_3 : Code := cR n24_2
def n24_4 : Code := cR n24_3
@[simp] theorem n24_4_eq : evC (cx24 call) n24_4 s = some (.ret, s) := xE
@[simp] theorem n24_3_eq : evC (cx24 call) n24_3 ⟨env, h⟩ = (bnd (pureV h (mBin .eql (env.get 2) (nat 0))) fun r1 => bnd (gdo r1.1 true (some ((env.get 4), r1.2)) r1.2) fun r3 => bnd (gdo r1.1 true (pureV r3.2 (mBin .eql r3.1 (nat 0))) r3.2) fun r4 => bnd (pureV r4.2 (mPick r1.1 r4.1 (.bool false))) fun r5 => bnd (gdo r5.1 true (some ((env.get 3), r5.2)) r5.2) fun r7 => bnd (gdo r5.1 true (pureV r7.2 (mLenS r7.1)) r7.2) fun r8 => bnd (gdo r5.1 true (pureV r8.2 (mBin .eql r8.1 (nat 0))) r8.2) fun r9 => bnd (pureV r9.2 (mPick r5.1 r9.1 (.bool false))) fun r10 => bnd (gdo r10.1 true (some ((env.get 1), r10.2)) r10.2) fun r12 => bnd (gdo r10.1 true (pureV r12.2 (mStr r12.1 r12.2)) r12.2) fun r13 => bnd (gdo r10.1 true (pureV r13.2 (mBinT .eql r13.1 (.str { data := #[7, 245, 244, 22, 155, 191, 85, 168, 64, 12, 212, 126, 166, 253, 64, 15] }))) r13.2) fun r14 => bnd (pureV r14.2 (mPick r10.1 r14.1 (.bool false))) fun r15 => evC (cx24 call) n24_4 ⟨(Env.put env 0 r15.1), r15.2⟩) := (xSR 3 (cOps (cL n24_3)) (cR n24_3)).trans (by
  refine opsK_0 ?_
  refine oT 18 (env.get 2) ?_
  refine oP 19 fun r1 => ?_
  refine oT 20 r1.1 ?_
  refine oP 21 fun r3 => ?_
  refine oP 22 fun r4 => ?_
  refine oP 23 fun r5 => ?_
  refine oT 24 r5.1 ?_
  refine oP 25 fun r7 => ?_
  refine oP 26 fun r8 => ?_
  refine oP 27 fun r9 => ?_
  refine oP 28 fun r10 => ?_
  refine oT 29 r10.1 ?_
  refine oP 30 fun r12 => ?_
  refine oP 31 fun r13 => ?_
  refine oP 32 fun r14 => ?_
  refine oP 33 fun r15 => ?_
  refine oT 0 r15.1 ?_
  exact oE)
@[simp] theorem n24_2_eq : evC (cx24 call) n24_2 ⟨env, h⟩ = (bnd (pureV h (fillRow (.arr 32 (.int .u8)) (arr 32 fun _ => 0#8) [(0, (u8 1#8))])) fun r0 => bnd (pureV r0.2 (fillRow (.arr 12 (.int .u8)) (arr 12 fun _ => 0#8) [(0, (u8 3#8))])) fun r1 => bnd (call 29 [r0.1, r1.1, .nilslice, (env.get 1)] r1.2) fun r3 => bnd (pureV r3.2 (mExtract r3.1 0)) fun r5 => bnd (pureV r5.2 (mExtract r3.1 1)) fun r6 => evC (cx24 call) n24_3 ⟨(Env.put (Env.put env 3 r5.1) 4 r6.1), r6.2⟩) := (xSR 2 (cOps (cL n24_2)) (cR n24_2)).trans (by
  refine opsK_0 ?_
  refine oP 12 fun r0 => ?_
  refine oP 13 fun r1 => ?_
  refine oT 14 (env.get 1) ?_
  refine oP 15 fun r3 => ?_
  refine oT 11 r3.1 ?_
  refine oP 16 fun r5 => ?_
  refine oP 17 fun r6 => ?_
  refine oT 3 r5.1 ?_
  refine oT 4 r6.1 ?_
  exact oE)
@[simp] theorem n24_1_eq : evC (cx24 call) n24_1 ⟨env, h⟩ = (bnd (pureV h (fillRow (.arr 32 (.int .u8)) (arr 32 fun _ => 0#8) [(0, (u8 1#8))])) fun r0 => bnd (pureV r0.2 (fillRow (.arr 12 (.int .u8)) (arr 12 fun _ => 0#8) [(0, (u8 3#8))])) fun r1 => bnd (call 26 [r0.1, r1.1, .nilslice, .nilslice] r1.2) fun r2 => bnd (pureV r2.2 (mExtract r2.1 0)) fun r4 => bnd (pureV r4.2 (mExtract r2.1 1)) fun r5 => evC (cx24 call) n24_2 ⟨(Env.put (Env.put env 1 r4.1) 2 r5.1), r5.2⟩) := (xSR 1 (cOps (cL n24_1)) (cR n24_1)).trans (by
  refine opsK_0 ?_
  refine oP 6 fun r0 => ?_
  refine oP 7 fun r1 => ?_
  refine oP 8 fun r2 => ?_
  refine oT 5 r2.1 ?_
  refine oP 9 fun r4 => ?_
  refine oP 10 fun r5 => ?_
  refine oT 1 r4.1 ?_
  refine oT 2 r5.1 ?_
  exact oE)
@[simp] theorem n24_0_eq : evC (cx24 call) n24_0 ⟨env, h⟩ = ( evC (cx24 call) n24_1 ⟨(Env.put env 0 (.bool false)), h⟩) := (xSR 0 (cOps (cL n24_0)) (cR n24_0)).trans (by
  refine opsK_0 ?_
  refine oT 0 (.bool false) ?_
  exact oE)
theorem b24 (call : Calling) (h : Heap) : evBody (cx24 call) Try.f24 n24_0 [] h = bnd (evC (cx24 call) n24_0 ⟨[(0, .junk), (1, .junk), (2, .junk), (3, .junk), (4, .junk)], h⟩) (retK fun s => bnd (bnd (some (s.env.get 0)) fun v => bnd (some []) fun vs => some (v :: vs)) fun vs => some (oneOrTuple vs)) := by kernel_rfl
theorem fn24 : Try.prog.funcs[24]? = some Try.f24 := by kernel_rfl
theorem k24 : Callable Try.prog 24 := ⟨Try.f24, fn24, by kernel_rfl, by kernel_rfl⟩
theorem s24 {call : Calling} (hc : CallOK Try.prog call) {args : List AV} {h h' : Heap} {v : AV} (he : evBody (cx24 call) Try.f24 n24_0 args h = some (v, h')) : Spec Try.prog 24 args h v h' := body_sound (C := cx24 call) TT_ok hc mixed_ok fn24 (by kernel_rfl) (by kernel_rfl) he
def sn24 := Y n24_4_eq (Y n24_3_eq (Y n24_2_eq (Y n24_1_eq (n24_0_eq))))
end
end Go.Vab

/-
  The known sealing, walked.
-/
namespace Go.Vab
open Go Go.Proofs

def zF : Nat → BitVec 8 := fun _ => 0#8
def sl1 : Nat → BitVec 8 := sealF key1 non1 0 zF 0 zF
theorem sl1_eq (j : Nat) (hj : j < 16) : sl1 j = BitVec.ofNat 8 (o6K.getD j 0) := by
  unfold sl1 sealF
  rw [if_neg (by omega), Nat.sub_zero]
  exact tag_known _ _ j hj
theorem open1 : openG key1 non1 0 zF 16 sl1 = true := by
  unfold openG
  rw [arrEq_iff]
  intro i hi
  rw [tag_known _ _ i hi]
  unfold tailF
  rw [show 16 - 16 + i = i by omega, sl1_eq i hi]
theorem str1 : strOf 16 sl1 = ⟨#[7, 245, 244, 22, 155, 191, 85, 168, 64, 12, 212, 126, 166, 253, 64, 15]⟩ := by
  rw [strOf_congr sl1_eq]
  kernel_rfl

theorem walk24 (h : Heap) : ∃ tr, evBody (cx24 callS19) Try.f24 n24_0 [] h = some (.bool true, h ++ tr) := by
  have f1 : fillRow (.arr 32 (.int .u8)) (arr 32 fun _ => 0#8) [(0, u8 1#8)] = some (arr 32 key1) := by simp [fillRow, key1]
  have f2 : fillRow (.arr 12 (.int .u8)) (arr 12 fun _ => 0#8) [(0, u8 3#8)] = some (arr 12 non1) := by simp [fillRow, non1]
  have k26 : callS18 26 [arr 32 key1, arr 12 non1, .nilslice, .nilslice] h = some (.tuple [.slice h.length 0 [] (.int .u8) 0 16 (some 16), nat 0], h ++ [⟨arr 16 sl1, 0, .own⟩]) :=
    callS18_26 key1 non1 .nilslice .nilslice 0 0 zF zF h ⟨Byt.nil _ _, Byt.nil _ _⟩
  have hb : Byt (h ++ [⟨arr 16 sl1, 0, .own⟩]) (.slice h.length 0 [] (.int .u8) 0 16 (some 16)) 16 sl1 := (Byt.own (b := ⟨arr 16 sl1, 0, .own⟩) (m := 16) (off := 0) (by simp) rfl (by omega) (by omega)).congr fun i _ => by rw [Nat.zero_add]
  have k29 : callS19 29 [arr 32 key1, arr 12 non1, .nilslice, .slice h.length 0 [] (.int .u8) 0 16 (some 16)] (h ++ [⟨arr 16 sl1, 0, .own⟩]) = some (.tuple [.slice (h.length + 1) 0 [] (.int .u8) 0 0 (some 16), nat 0], h ++ [⟨arr 16 sl1, 0, .own⟩, ⟨arr 16 (openF key1 non1 16 sl1), 0, .own⟩]) := by
    have := callS19_29 key1 non1 .nilslice _ 0 16 zF sl1 (h ++ [⟨arr 16 sl1, 0, .own⟩]) ⟨Byt.nil _ _, hb⟩
    rw [open1] at this
    simpa [ansV, ansH, openC, bigO] using this
  have hs : ∀ t, mStr (.slice h.length 0 [] (.int .u8) 0 16 (some 16)) (h ++ (⟨arr 16 sl1, 0, .own⟩ :: t)) = some (.str ⟨#[7, 245, 244, 22, 155, 191, 85, 168, 64, 12, 212, 126, 166, 253, 64, 15]⟩) := fun t => by
    have := hb.strT t
    rw [str1] at this
    simpa using this
  rw [b24]
  have main : Evs (evC (cx24 callS19) n24_0 ⟨[(0, .junk), (1, .junk), (2, .junk), (3, .junk), (4, .junk)], h⟩) (fun r => ∃ env tr, r = (.ret, ⟨env, h ++ tr⟩) ∧ env.get 0 = .bool true) := by
    obtain ⟨env, he⟩ : ∃ env : Env, env = [(0, .junk), (1, .junk), (2, .junk), (3, .junk), (4, .junk)] := ⟨_, rfl⟩
    rw [← he]
    clear he
    repeat (first | (with_reducible refine Evs.assoc ?_) | ((with_reducible refine Evs.some_bnd ?_); try dsimp only [sqK_nrm, sqK_exit, sqK_ret]) | ((with_reducible apply Evs.bcndT); (focus (simp (disch := omega) [f1, f2, k26, k29, hs] <;> omega))) | ((with_reducible apply Evs.bcndF); (focus (simp (disch := omega) [f1, f2, k26, k29, hs] <;> omega))) | ((with_reducible apply Evs.step); (focus ((conv => lhs; simp (disch := omega) [f1, f2, k26, k29, hs]); done)); try dsimp only) | (simp only [sn24, snB]))
    exact Evs.ret ⟨_, _, rfl, by simp⟩
  obtain ⟨r, hr, env, tr, rfl, e0⟩ := main
  refine ⟨tr, ?_⟩
  rw [hr]
  simp [e0, oneOrTuple]

noncomputable def c24 := conC (fun x : Unit => []) (fun (x : Unit) h => True) (fun (x : Unit) h => (.bool true, h))
noncomputable def callS20 : Calling := addC callS19 24 c24
theorem c24_eq  (h : Heap) : c24 [] h = some (.bool true, h) :=
  conC_eq (enc := fun x : Unit => []) (P := fun (x : Unit) h => True) (a := ()) (f := fun (x : Unit) h => (.bool true, h)) (fun x y h e => by
    rfl
    ) trivial
theorem callS20_ok : CallOK Try.prog callS20 := addC_con callS19_ok k24 fun x h hx => by
  obtain ⟨t, ht⟩ := walk24 h
  exact (s24 callS19_ok ht).drop0 t rfl
@[simp] theorem callS20_ne {f : Nat} (args : List AV) (h : Heap) (hf : f ≠ 24) : callS20 f args h = callS19 f args h := addC_ne _ _ _ args h hf
@[simp] theorem callS20_sne {f : Nat} (args : List AV) (h : Heap) (hf : f ≠ 24) : still callS20 f args h = still callS19 f args h := still_ne _ _ _ args h hf
@[simp] theorem callS20_24  (h : Heap) : callS20 24 [] h = some (.bool true, h) := by
  unfold callS20; rw [addC_same]; exact c24_eq  h
@[simp] theorem callS20_24s  (h : Heap) : still callS20 24 [] h = some (.bool true, h) := still_of fun t => by simp

end Go.Vab

/- How the evaluator reads the functions of a seat. Printed by wip/tools/gen.py (own work). -/
namespace Go.Vab
open Go Go.Proofs
noncomputable section
variable (call : Calling) (env : Env) (h : Heap) (s : St)
/-! vestry/vestryref09.Full -/
def cx58 (call : Calling) : Ctx := ⟨call, TT, 15, [4, 5, 6, 7, 8, 9, 11, 12, 13, 14]⟩
def n58_0 : Code := bodyOf Try.f58
def n58_1 : Code := cR n58_0
def n58_2 : Code := cR n58_1
def n58_3 : Code := cL n58_2
def n58_4 : Code := cB n58_3
def n58_5 : Code := cB n58_4
def n58_6 : Code := cL n58_5
def n58_7 : Code := cR n58_6
def n58_8 : Code := cL n58_7
def n58_9 : Code := cR n58_7
def n58_10 : Code := cR n58_5
def n58_11 : Code := cB n58_10
def n58_12 : Code := cR n58_2
def n58_13 : Code := cR n58_12
@[simp] theorem n58_8_eq : evC (cx58 call) n58_8 s = some (.nrm, s) := xK
@[simp] theorem n58_9_eq : evC (cx58 call) n58_9 s = some (.exit 0, s) := xX 0
@[simp] theorem n58_7_eq : evC (cx58 call) n58_7 s = cnd (s.env.get 10) (evC (cx58 call) n58_8 s) (evC (cx58 call) n58_9 s) := xC 10 _ _
@[simp] theorem n58_6_eq : evC (cx58 call) n58_6 ⟨env, h⟩ = (bnd (pureV h (mLenS (env.get 3))) fun r1 => bnd (pureV r1.2 (mBin .rem r1.1 (nat 16))) fun r2 => bnd (pureV r2.2 (mBin .neq r2.1 (nat 0))) fun r3 => evC (cx58 call) n58_7 ⟨(Env.put env 10 r3.1), r3.2⟩) := (xSR 2 (cOps (cL n58_6)) (cR n58_6)).trans (by
  refine opsK_0 ?_
  refine oT 7 (env.get 3) ?_
  refine oP 8 fun r1 => ?_
  refine oP 9 fun r2 => ?_
  refine oP 10 fun r3 => ?_
  exact oE)
@[simp] theorem n58_11_eq : evC (cx58 call) n58_11 ⟨env, h⟩ = (bnd (mBuildSlice (.int .u8) (u8 0#8) 1 [(0, (u8 0#8))] h) fun r1 => bnd (mApp (.int .u8) 1 (env.get 3) r1.1 r1.2) fun r2 => some (.nrm, ⟨(Env.put env 3 r2.1), r2.2⟩)) := (xR 3 (cOps n58_11)).trans (by
  refine opsK_0 ?_
  refine oT 11 (env.get 3) ?_
  refine oP 12 fun r1 => ?_
  refine oP 13 fun r2 => ?_
  refine oT 3 r2.1 ?_
  exact oE)
@[simp] theorem n58_10_eq : evC (cx58 call) n58_10 s = bnd (evC (cx58 call) n58_11 s) fun r => some (inBlk 1 r) := xB 1 _
@[simp] theorem n58_5_eq : evC (cx58 call) n58_5 s = bnd (evC (cx58 call) n58_6 s) (sqK (evC (cx58 call) n58_10)) := xS _ _
@[simp] theorem n58_4_eq : evC (cx58 call) n58_4 s = evLoop (evC (cx58 call) n58_5) s := xL _
@[simp] theorem n58_3_eq : evC (cx58 call) n58_3 s = bnd (evC (cx58 call) n58_4 s) fun r => some (inBlk 0 r) := xB 0 _
@[simp] theorem n58_13_eq : evC (cx58 call) n58_13 s = some (.ret, s) := xE
@[simp] theorem n58_12_eq : evC (cx58 call) n58_12 ⟨env, h⟩ = ( evC (cx58 call) n58_13 ⟨(Env.put env 2 (env.get 3)), h⟩) := (xSR 4 (cOps (cL n58_12)) (cR n58_12)).trans (by
  refine opsK_0 ?_
  refine oT 14 (env.get 3) ?_
  refine oT 2 (env.get 3) ?_
  exact oE)
@[simp] theorem n58_2_eq : evC (cx58 call) n58_2 s = bnd (evC (cx58 call) n58_3 s) (sqK (evC (cx58 call) n58_12)) := xS _ _
@[simp] theorem n58_1_eq : evC (cx58 call) n58_1 ⟨env, h⟩ = (bnd (mBuildSlice (.int .u8) (u8 0#8) 0 [] h) fun r0 => bnd (mApp (.int .u8) 1 r0.1 (env.get 0) r0.2) fun r2 => evC (cx58 call) n58_2 ⟨(Env.put env 3 r2.1), r2.2⟩) := (xSR 1 (cOps (cL n58_1)) (cR n58_1)).trans (by
  refine opsK_0 ?_
  refine oP 4 fun r0 => ?_
  refine oT 5 (env.get 0) ?_
  refine oP 6 fun r2 => ?_
  refine oT 3 r2.1 ?_
  exact oE)
@[simp] theorem n58_0_eq : evC (cx58 call) n58_0 ⟨env, h⟩ = ( evC (cx58 call) n58_1 ⟨(Env.put env 2 .nilslice), h⟩) := (xSR 0 (cOps (cL n58_0)) (cR n58_0)).trans (by
  refine opsK_0 ?_
  refine oT 2 .nilslice ?_
  exact oE)
theorem b58 (call : Calling) (a0 : AV) (h : Heap) : evBody (cx58 call) Try.f58 n58_0 [a0] h = bnd (evC (cx58 call) n58_0 ⟨[(0, a0), (1, .junk), (2, .junk), (3, .junk), (10, .junk)], h⟩) (retK fun s => bnd (bnd (some (s.env.get 2)) fun v => bnd (some []) fun vs => some (v :: vs)) fun vs => some (oneOrTuple vs)) := by kernel_rfl
theorem fn58 : Try.prog.funcs[58]? = some Try.f58 := by kernel_rfl
theorem k58 : Callable Try.prog 58 := ⟨Try.f58, fn58, by kernel_rfl, by kernel_rfl⟩
theorem s58 {call : Calling} (hc : CallOK Try.prog call) {args : List AV} {h h' : Heap} {v : AV} (he : evBody (cx58 call) Try.f58 n58_0 args h = some (v, h')) : Spec Try.prog 58 args h v h' := body_sound (C := cx58 call) TT_ok hc mixed_ok fn58 (by kernel_rfl) (by kernel_rfl) he
def sn58 := Y n58_8_eq (Y n58_9_eq (Y n58_7_eq (Y n58_6_eq (Y n58_11_eq (Y n58_10_eq (Y n58_5_eq (Y n58_4_eq (Y n58_3_eq (Y n58_13_eq (Y n58_12_eq (Y n58_2_eq (Y n58_1_eq (n58_0_eq)))))))))))))
end
end Go.Vab

/- How the evaluator reads the functions of a seat. Printed by wip/tools/gen.py (own work). -/
namespace Go.Vab
open Go Go.Proofs
noncomputable section
variable (call : Calling) (env : Env) (h : Heap) (s : St)
/-! vestry/vestryref09.Polyval -/
def cx36 (call : Calling) : Ctx := ⟨call, TT, 37, [9, 10, 11, 12, 13, 15, 16, 17, 19, 20, 21, 22, 23, 24, 25, 26, 27, 28, 29, 30, 31, 32, 33, 34, 35, 36]⟩
def n36_0 : Code := bodyOf Try.f36
def n36_1 : Code := cR n36_0
def n36_2 : Code := cR n36_1
def n36_3 : Code := cR n36_2
def n36_4 : Code := cL n36_3
def n36_5 : Code := cR n36_4
def n36_6 : Code := cB n36_5
def n36_7 : Code := cB n36_6
def n36_8 : Code := cL n36_7
def n36_9 : Code := cR n36_8
def n36_10 : Code := cL n36_9
def n36_11 : Code := cR n36_9
def n36_12 : Code := cR n36_7
def n36_13 : Code := cL n36_12
def n36_14 : Code := cB n36_13
def n36_15 : Code := cL n36_14
def n36_16 : Code := cR n36_15
def n36_17 : Code := cB n36_16
def n36_18 : Code := cB n36_17
def n36_19 : Code := cL n36_18
def n36_20 : Code := cR n36_19
def n36_21 : Code := cL n36_20
def n36_22 : Code := cR n36_20
def n36_23 : Code := cR n36_18
def n36_24 : Code := cL n36_23
def n36_25 : Code := cB n36_24
def n36_26 : Code := cR n36_23
def n36_27 : Code := cR n36_14
def n36_28 : Code := cR n36_12
def n36_29 : Code := cR n36_3
def n36_30 : Code := cR n36_29
@[simp] theorem n36_10_eq : evC (cx36 call) n36_10 s = some (.nrm, s) := xK
@[simp] theorem n36_11_eq : evC (cx36 call) n36_11 s = some (.exit 0, s) := xX 0
@[simp] theorem n36_9_eq : evC (cx36 call) n36_9 s = cnd (s.env.get 14) (evC (cx36 call) n36_10 s) (evC (cx36 call) n36_11 s) := xC 14 _ _
@[simp] theorem n36_8_eq : evC (cx36 call) n36_8 ⟨env, h⟩ = (bnd (pureV h (mLenS (env.get 6))) fun r2 => bnd (pureV r2.2 (mBin .lss (env.get 7) r2.1)) fun r3 => evC (cx36 call) n36_9 ⟨(Env.put env 14 r3.1), r3.2⟩) := (xSR 4 (cOps (cL n36_8)) (cR n36_8)).trans (by
  refine opsK_0 ?_
  refine oT 11 (env.get 7) ?_
  refine oT 12 (env.get 6) ?_
  refine oP 13 fun r2 => ?_
  refine oP 14 fun r3 => ?_
  exact oE)
@[simp] theorem n36_21_eq : evC (cx36 call) n36_21 s = some (.nrm, s) := xK
@[simp] theorem n36_22_eq : evC (cx36 call) n36_22 s = some (.exit 2, s) := xX 2
@[simp] theorem n36_20_eq : evC (cx36 call) n36_20 s = cnd (s.env.get 18) (evC (cx36 call) n36_21 s) (evC (cx36 call) n36_22 s) := xC 18 _ _
@[simp] theorem n36_19_eq : evC (cx36 call) n36_19 ⟨env, h⟩ = (bnd (pureV h (mBin .lss (env.get 8) (nat 16))) fun r1 => evC (cx36 call) n36_20 ⟨(Env.put env 18 r1.1), r1.2⟩) := (xSR 7 (cOps (cL n36_19)) (cR n36_19)).trans (by
  refine opsK_0 ?_
  refine oT 17 (env.get 8) ?_
  refine oP 18 fun r1 => ?_
  exact oE)
theorem n36_25_ok : drawOk (cOps n36_25).toList = true := by kernel_rfl
@[simp] theorem n36_25_eq : evC (cx36 call) n36_25 ⟨env, h⟩ = (bnd (pureV h (mIdxA (.arr 16 (.int .u8)) (env.get 5) (env.get 8))) fun r2 => bnd (pureV r2.2 (mLoad (.int .u8) r2.1 r2.2)) fun r3 => bnd (pureV r3.2 (mBin .add (env.get 7) (env.get 8))) fun r7 => bnd (pureV r7.2 (mIdxS (.int .u8) (env.get 6) r7.1)) fun r8 => bnd (pureV r8.2 (mLoad (.int .u8) r8.1 r8.2)) fun r9 => bnd (pureV r9.2 (mBin .xor r3.1 r9.1)) fun r10 => bnd (pureV r10.2 (mIdxA (.arr 16 (.int .u8)) (env.get 5) (env.get 8))) fun r11 => bnd (stU (.int .u8) r11.1 r10.1 r11.2) fun r12 => some (.nrm, ⟨env, r12.2⟩)) := (xD 9 (cOps n36_25) n36_25_ok).trans (by
  refine opsK_0 ?_
  refine oT 21 (env.get 8) ?_
  refine oT 22 (env.get 8) ?_
  refine oP 23 fun r2 => ?_
  refine oP 24 fun r3 => ?_
  refine oT 25 (env.get 6) ?_
  refine oT 26 (env.get 7) ?_
  refine oT 27 (env.get 8) ?_
  refine oP 28 fun r7 => ?_
  refine oP 29 fun r8 => ?_
  refine oP 30 fun r9 => ?_
  refine oP 31 fun r10 => ?_
  refine oP 32 fun r11 => ?_
  refine oN fun r12 => ?_
  exact oE)
@[simp] theorem n36_24_eq : evC (cx36 call) n36_24 s = bnd (evC (cx36 call) n36_25 s) fun r => some (inBlk 3 r) := xB 3 _
@[simp] theorem n36_26_eq : evC (cx36 call) n36_26 ⟨env, h⟩ = (bnd (pureV h (mBin .add (env.get 8) (nat 1))) fun r1 => some (.nrm, ⟨(Env.put env 8 r1.1), r1.2⟩)) := (xR 8 (cOps n36_26)).trans (by
  refine opsK_0 ?_
  refine oT 19 (env.get 8) ?_
  refine oP 20 fun r1 => ?_
  refine oT 8 r1.1 ?_
  exact oE)
@[simp] theorem n36_23_eq : evC (cx36 call) n36_23 s = bnd (evC (cx36 call) n36_24 s) (sqK (evC (cx36 call) n36_26)) := xS _ _
@[simp] theorem n36_18_eq : evC (cx36 call) n36_18 s = bnd (evC (cx36 call) n36_19 s) (sqK (evC (cx36 call) n36_23)) := xS _ _
@[simp] theorem n36_17_eq : evC (cx36 call) n36_17 s = evLoop (evC (cx36 call) n36_18) s := xL _
@[simp] theorem n36_16_eq : evC (cx36 call) n36_16 s = bnd (evC (cx36 call) n36_17 s) fun r => some (inBlk 2 r) := xB 2 _
@[simp] theorem n36_15_eq : evC (cx36 call) n36_15 ⟨env, h⟩ = ( evC (cx36 call) n36_16 ⟨(Env.put env 8 (nat 0)), h⟩) := (xSR 6 (cOps (cL n36_15)) (cR n36_15)).trans (by
  refine opsK_0 ?_
  refine oT 8 (nat 0) ?_
  exact oE)
@[simp] theorem n36_27_eq : evC (cx36 call) n36_27 ⟨env, h⟩ = (bnd (pureV h (mLoad (.arr 16 (.int .u8)) (env.get 5) h)) fun r0 => bnd (pureV r0.2 (mLoad (.arr 16 (.int .u8)) (env.get 2) r0.2)) fun r1 => bnd (call 32 [r0.1, r1.1] r1.2) fun r2 => bnd (stU (.arr 16 (.int .u8)) (env.get 5) r2.1 r2.2) fun r3 => some (.nrm, ⟨env, r3.2⟩)) := (xR 10 (cOps n36_27)).trans (by
  refine opsK_0 ?_
  refine oP 33 fun r0 => ?_
  refine oP 34 fun r1 => ?_
  refine oP 35 fun r2 => ?_
  refine oN fun r3 => ?_
  exact oE)
@[simp] theorem n36_14_eq : evC (cx36 call) n36_14 s = bnd (evC (cx36 call) n36_15 s) (sqK (evC (cx36 call) n36_27)) := xS _ _
@[simp] theorem n36_13_eq : evC (cx36 call) n36_13 s = bnd (evC (cx36 call) n36_14 s) fun r => some (inBlk 1 r) := xB 1 _
@[simp] theorem n36_28_eq : evC (cx36 call) n36_28 ⟨env, h⟩ = (bnd (pureV h (mBin .add (env.get 7) (nat 16))) fun r1 => some (.nrm, ⟨(Env.put env 7 r1.1), r1.2⟩)) := (xR 5 (cOps n36_28)).trans (by
  refine opsK_0 ?_
  refine oT 15 (env.get 7) ?_
  refine oP 16 fun r1 => ?_
  refine oT 7 r1.1 ?_
  exact oE)
@[simp] theorem n36_12_eq : evC (cx36 call) n36_12 s = bnd (evC (cx36 call) n36_13 s) (sqK (evC (cx36 call) n36_28)) := xS _ _
@[simp] theorem n36_7_eq : evC (cx36 call) n36_7 s = bnd (evC (cx36 call) n36_8 s) (sqK (evC (cx36 call) n36_12)) := xS _ _
@[simp] theorem n36_6_eq : evC (cx36 call) n36_6 s = evLoop (evC (cx36 call) n36_7) s := xL _
@[simp] theorem n36_5_eq : evC (cx36 call) n36_5 s = bnd (evC (cx36 call) n36_6 s) fun r => some (inBlk 0 r) := xB 0 _
@[simp] theorem n36_4_eq : evC (cx36 call) n36_4 ⟨env, h⟩ = ( evC (cx36 call) n36_5 ⟨(Env.put env 7 (nat 0)), h⟩) := (xSR 3 (cOps (cL n36_4)) (cR n36_4)).trans (by
  refine opsK_0 ?_
  refine oT 7 (nat 0) ?_
  exact oE)
@[simp] theorem n36_30_eq : evC (cx36 call) n36_30 s = some (.ret, s) := xE
@[simp] theorem n36_29_eq : evC (cx36 call) n36_29 ⟨env, h⟩ = (bnd (pureV h (mLoad (.arr 16 (.int .u8)) (env.get 5) h)) fun r0 => bnd (stU (.arr 16 (.int .u8)) (env.get 4) r0.1 r0.2) fun r1 => evC (cx36 call) n36_30 ⟨env, r1.2⟩) := (xSR 11 (cOps (cL n36_29)) (cR n36_29)).trans (by
  refine opsK_0 ?_
  refine oP 36 fun r0 => ?_
  refine oN fun r1 => ?_
  exact oE)
@[simp] theorem n36_3_eq : evC (cx36 call) n36_3 s = bnd (evC (cx36 call) n36_4 s) (sqK (evC (cx36 call) n36_29)) := xS _ _
@[simp] theorem n36_2_eq : evC (cx36 call) n36_2 ⟨env, h⟩ = (bnd (call 58 [(env.get 1)] h) fun r1 => evC (cx36 call) n36_3 ⟨(Env.put env 6 r1.1), r1.2⟩) := (xSR 2 (cOps (cL n36_2)) (cR n36_2)).trans (by
  refine opsK_0 ?_
  refine oT 9 (env.get 1) ?_
  refine oP 10 fun r1 => ?_
  refine oT 6 r1.1 ?_
  exact oE)
@[simp] theorem n36_1_eq : evC (cx36 call) n36_1 ⟨env, h⟩ = (bnd (mNew (.arr 16 (.int .u8)) (arr 16 fun _ => 0#8) h) fun r0 => evC (cx36 call) n36_2 ⟨(Env.put env 5 r0.1), r0.2⟩) := (xSR 1 (cOps (cL n36_1)) (cR n36_1)).trans (by
  refine opsK_0 ?_
  refine oP 5 fun r0 => ?_
  exact oE)
@[simp] theorem n36_0_eq : evC (cx36 call) n36_0 ⟨env, h⟩ = (bnd (mNew (.arr 16 (.int .u8)) (env.get 0) h) fun r0 => bnd (mNew (.arr 16 (.int .u8)) (arr 16 fun _ => 0#8) r0.2) fun r1 => evC (cx36 call) n36_1 ⟨(Env.put (Env.put env 2 r0.1) 4 r1.1), r1.2⟩) := (xSR 0 (cOps (cL n36_0)) (cR n36_0)).trans (by
  refine opsK_0 ?_
  refine oP 2 fun r0 => ?_
  refine oP 4 fun r1 => ?_
  exact oE)
theorem b36 (call : Calling) (a0 a1 : AV) (h : Heap) : evBody (cx36 call) Try.f36 n36_0 [a0, a1] h = bnd (evC (cx36 call) n36_0 ⟨[(0, a0), (1, a1), (2, .junk), (3, .junk), (4, .junk), (5, .junk), (6, .junk), (7, .junk), (8, .junk), (14, .junk), (18, .junk)], h⟩) (retK fun s => bnd (bnd (mLoad (.arr 16 (.int .u8)) (s.env.get 4) s.heap) fun v => bnd (some []) fun vs => some (v :: vs)) fun vs => some (oneOrTuple vs)) := by kernel_rfl
theorem fn36 : Try.prog.funcs[36]? = some Try.f36 := by kernel_rfl
theorem k36 : Callable Try.prog 36 := ⟨Try.f36, fn36, by kernel_rfl, by kernel_rfl⟩
theorem s36 {call : Calling} (hc : CallOK Try.prog call) {args : List AV} {h h' : Heap} {v : AV} (he : evBody (cx36 call) Try.f36 n36_0 args h = some (v, h')) : Spec Try.prog 36 args h v h' := body_sound (C := cx36 call) TT_ok hc mixed_ok fn36 (by kernel_rfl) (by kernel_rfl) he
def sn36 := Y n36_10_eq (Y n36_11_eq (Y n36_9_eq (Y n36_8_eq (Y n36_21_eq (Y n36_22_eq (Y n36_20_eq (Y n36_19_eq (Y n36_25_eq (Y n36_24_eq (Y n36_26_eq (Y n36_23_eq (Y n36_18_eq (Y n36_17_eq (Y n36_16_eq (Y n36_15_eq (Y n36_27_eq (Y n36_14_eq (Y n36_13_eq (Y n36_28_eq (Y n36_12_eq (Y n36_7_eq (Y n36_6_eq (Y n36_5_eq (Y n36_4_eq (Y n36_30_eq (Y n36_29_eq (Y n36_3_eq (Y n36_2_eq (Y n36_1_eq (n36_0_eq))))))))))))))))))))))))))))))
end
end Go.Vab
