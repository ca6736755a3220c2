/- How the evaluator reads the functions of a seat. Printed by wip/tools/gen.py (own work). -/
import Derived.Test.YtfolmjdaemoojaaV3
import Derived.Test.YtfolmjdaemoojaaV4
set_option linter.all false
set_option linter.unusedSectionVars false
namespace Go.Vab
open Go Go.Proofs
/-! vestry/vestrylaw08.AesWords -/
noncomputable def cx7 (call : Calling) : Ctx := ⟨call, TT, 11, [3, 4, 5, 6, 7, 8, 9, 10]⟩
noncomputable def n7_0 : Code := bodyOf Try.f7
noncomputable def n7_1 : Code := cR n7_0
noncomputable def n7_2 : Code := cR n7_1
@[simp] theorem n7_2_eq (call : Calling) (s : St) : evC (cx7 call) n7_2 s = some (.ret, s) := xE
theorem n7_1_ok : drawOk (cOps (cL n7_1)).toList = true := by kernel_rfl
@[simp] theorem n7_1_eq (call : Calling) (env : Env) (h : Heap) : evC (cx7 call) n7_1 ⟨env, h⟩ = (bnd (pureV h (mLoad (.arr 32 (.int .u8)) (env.get 1) h)) fun r0 => bnd (still call 21 [r0.1] r0.2) fun r1 => bnd (pureV r1.2 (mLoad (.arr 32 (.int .u8)) (env.get 1) r1.2)) fun r2 => bnd (still call 22 [r2.1] r2.2) fun r3 => bnd (pureV r3.2 (mEq (.arr 60 (.arr 4 (.int .u8))) .eql r1.1 r3.1)) fun r4 => bnd (gdo r4.1 true (still call 18 [] r4.2) r4.2) fun r6 => bnd (pureV r6.2 (mPick r4.1 r6.1 (.bool false))) fun r7 => evC (cx7 call) n7_2 ⟨(Env.put env 2 r7.1), r7.2⟩) := (xSD 1 (cOps (cL n7_1)) (cR n7_1) n7_1_ok).trans (by
  refine opsK_0 ?_
  refine oP 3 fun r0 => ?_
  refine oP 4 fun r1 => ?_
  refine oP 5 fun r2 => ?_
  refine oP 6 fun r3 => ?_
  refine oP 7 fun r4 => ?_
  refine oT 8 r4.1 ?_
  refine oP 9 fun r6 => ?_
  refine oP 10 fun r7 => ?_
  refine oT 2 r7.1 ?_
  exact oE)
@[simp] theorem n7_0_eq (call : Calling) (env : Env) (h : Heap) : evC (cx7 call) n7_0 ⟨env, h⟩ = (bnd (mNew (.arr 32 (.int .u8)) (env.get 0) h) fun r0 => evC (cx7 call) n7_1 ⟨(Env.put (Env.put env 1 r0.1) 2 (.bool false)), r0.2⟩) := (xSR 0 (cOps (cL n7_0)) (cR n7_0)).trans (by
  refine opsK_0 ?_
  refine oP 1 fun r0 => ?_
  refine oT 2 (.bool false) ?_
  exact oE)
theorem b7 (call : Calling) (a0 : AV) (h : Heap) : evBody (cx7 call) Try.f7 n7_0 [a0] h = bnd (evC (cx7 call) n7_0 ⟨[(0, a0), (1, .junk), (2, .junk)], h⟩) (retK fun s => bnd (bnd (some (s.env.get 2)) fun v => bnd (some []) fun vs => some (v :: vs)) fun vs => some (oneOrTuple vs)) := by kernel_rfl
theorem fn7 : Try.prog.funcs[7]? = some Try.f7 := by kernel_rfl
theorem k7 : Callable Try.prog 7 := ⟨Try.f7, fn7, by kernel_rfl, by kernel_rfl⟩
theorem s7 {call : Calling} (hc : CallOK Try.prog call) {args : List AV} {h h' : Heap} {v : AV} (he : evBody (cx7 call) Try.f7 n7_0 args h = some (v, h')) : Spec Try.prog 7 args h v h' := body_sound (C := cx7 call) TT_ok hc mixed_ok fn7 (by kernel_rfl) (by kernel_rfl) he
end Go.Vab

/-
  The statements AesElements, AesEncrypts, AesWords, AesUnlike: their walks.
-/
namespace Go.Vab
open Go Go.Proofs

theorem walk20 (h : Heap) (key b : Nat → BitVec 8) : ∃ t, evBody (cx20 callA13) Try.f20 n20_0 [arr 32 key, arr 16 b] h = some (arr 16 (encF (wd key) b), h ++ t) := by
  rw [b20]
  have main : Evs (evC (cx20 callA13) n20_0 ⟨[(0, arr 32 key), (1, arr 16 b), (2, .junk), (3, .junk), (4, .junk)], h⟩) (fun r => ∃ env t, r = (.ret, ⟨env, h ++ t⟩) ∧ mLoad (.arr 16 (.int .u8)) (env.get 4) (h ++ t) = some (arr 16 (encF (wd key) b))) := by
    obtain ⟨env, he⟩ : ∃ env : Env, env = [(0, arr 32 key), (1, arr 16 b), (2, .junk), (3, .junk), (4, .junk)] := ⟨_, rfl⟩
    rw [← he]
    have g0 : env.get 0 = arr 32 key := by rw [he]; rfl
    have g1 : env.get 1 = arr 16 b := by rw [he]; rfl
    clear he
    repeat (first
      | (with_reducible refine Evs.assoc ?_)
      | ((with_reducible refine Evs.some_bnd ?_); try dsimp only [sqK_nrm, sqK_exit, sqK_ret])
      | ((with_reducible apply Evs.bcndT); (focus (simp (disch := omega) [g0, g1] <;> omega)))
      | ((with_reducible apply Evs.bcndF); (focus (simp (disch := omega) [g0, g1] <;> omega)))
      | ((with_reducible apply Evs.step); (focus ((conv => lhs; simp (disch := omega) [g0, g1]); done)); try dsimp only)
      | (simp only [n20_2_eq, n20_1_eq, n20_0_eq, sqK_nrm, sqK_exit, sqK_ret, inBlk_nrm, inBlk_ret, inBlk_same]))
    exact Evs.ret ⟨_, _, rfl, by simp⟩
  obtain ⟨r, hr, env, t, rfl, e0⟩ := main
  refine ⟨t, ?_⟩
  rw [hr]
  simp [e0, oneOrTuple]

noncomputable def c20 := conC (fun x : (Nat → BitVec 8) × (Nat → BitVec 8) => [arr 32 x.1, arr 16 x.2]) (fun _ _ => True) (fun x h => (arr 16 (encF (wd x.1) x.2), h))
noncomputable def callA14 : Calling := addC callA13 20 c20
theorem c20_eq (key b : Nat → BitVec 8) (h : Heap) : c20 [arr 32 key, arr 16 b] h = some (arr 16 (encF (wd key) b), h) :=
  conC_eq (enc := fun x : (Nat → BitVec 8) × (Nat → BitVec 8) => [arr 32 x.1, arr 16 x.2]) (a := (key, b)) (f := fun x h => (arr 16 (encF (wd x.1) x.2), h))
    (fun x y h e => by
      have e1 := arr_inj.1 (List.cons.inj e).1
      have e2 := arr_inj.1 (List.cons.inj (List.cons.inj e).2).1
      simp only [Prod.mk.injEq, and_true]
      exact arr_congr (encF_congr (fun i _ p hp => wd_congr e1 i p hp) e2)) trivial
theorem callA14_ok : CallOK Try.prog callA14 := addC_con callA13_ok k20 fun x h _ => by
  obtain ⟨t, ht⟩ := walk20 h x.1 x.2
  exact (s20 callA13_ok ht).drop0 t rfl

theorem walk22 (h : Heap) (key : Nat → BitVec 8) : ∃ t, evBody (cx22 callA13) Try.f22 n22_0 [arr 32 key] h = some (mat 60 4 (wd key), h ++ t) := by
  rw [b22]
  have main : Evs (evC (cx22 callA13) n22_0 ⟨[(0, arr 32 key), (1, .junk), (2, .junk)], h⟩) (fun r => ∃ env t, r = (.ret, ⟨env, h ++ t⟩) ∧ mLoad (.arr 60 (.arr 4 (.int .u8))) (env.get 2) (h ++ t) = some (mat 60 4 (wd key))) := by
    obtain ⟨env, he⟩ : ∃ env : Env, env = [(0, arr 32 key), (1, .junk), (2, .junk)] := ⟨_, rfl⟩
    rw [← he]
    have g0 : env.get 0 = arr 32 key := by rw [he]; rfl
    clear he
    repeat (first
      | (with_reducible refine Evs.assoc ?_)
      | ((with_reducible refine Evs.some_bnd ?_); try dsimp only [sqK_nrm, sqK_exit, sqK_ret])
      | ((with_reducible apply Evs.bcndT); (focus (simp (disch := omega) [g0] <;> omega)))
      | ((with_reducible apply Evs.bcndF); (focus (simp (disch := omega) [g0] <;> omega)))
      | ((with_reducible apply Evs.step); (focus ((conv => lhs; simp (disch := omega) [g0]); done)); try dsimp only)
      | (simp only [n22_2_eq, n22_1_eq, n22_0_eq, sqK_nrm, sqK_exit, sqK_ret, inBlk_nrm, inBlk_ret, inBlk_same]))
    exact Evs.ret ⟨_, _, rfl, by simp⟩
  obtain ⟨r, hr, env, t, rfl, e0⟩ := main
  refine ⟨t, ?_⟩
  rw [hr]
  simp [e0, oneOrTuple]

noncomputable def c22 := conC (fun x : Nat → BitVec 8 => [arr 32 x]) (fun _ _ => True) (fun x h => (mat 60 4 (wd x), h))
noncomputable def callA15 : Calling := addC callA14 22 c22
theorem c22_eq (key : Nat → BitVec 8) (h : Heap) : c22 [arr 32 key] h = some (mat 60 4 (wd key), h) :=
  conC_eq (enc := fun x : Nat → BitVec 8 => [arr 32 x]) (a := key) (f := fun x h => (mat 60 4 (wd x), h))
    (fun x y h e => by
      have e1 := arr_inj.1 (List.cons.inj e).1
      simp only [Prod.mk.injEq, and_true]
      exact mat_congr fun i _ p hp => wd_congr e1 i p hp) trivial
theorem callA15_ok : CallOK Try.prog callA15 := addC_con callA14_ok k22 fun x h _ => by
  obtain ⟨t, ht⟩ := walk22 h x
  have : Spec Try.prog 22 [arr 32 x] h (mat 60 4 (wd x)) (h ++ t) := s22 callA13_ok ht
  exact this.drop0 t (mat_under _ _ _ _)

@[simp] theorem callA15_14 (a b : BitVec 8) (h : Heap) : callA15 14 [u8 a, u8 b] h = some (u8 (mulB a b), h) := by simp [callA15, callA14, callA13, callA12, callA11, callA10, callA9, callA8, callA7, callA6, callA5, callA4, callA3, callA2, callA1, addC, c14_eq]
@[simp] theorem callA15_15 (a b : BitVec 8) (h : Heap) : callA15 15 [u8 a, u8 b] h = some (u8 (mulB a b), h) := by simp [callA15, callA14, callA13, addC]
@[simp] theorem callA15_16 (a : BitVec 8) (h : Heap) : callA15 16 [u8 a] h = some (u8 (subB a), h) := by simp [callA15, callA14, callA13, callA12, callA11, callA10, callA9, callA8, callA7, callA6, callA5, callA4, callA3, addC]
@[simp] theorem callA15_17 (a : BitVec 8) (h : Heap) : callA15 17 [u8 a] h = some (u8 (subB a), h) := by simp [callA15, callA14, callA13, callA12, callA11, addC]
@[simp] theorem callA15_18 (h : Heap) : callA15 18 [] h = some (.bool true, h) := by simp [callA15, callA14, callA13, callA12, callA11, callA10, callA9, callA8, callA7, callA6, addC, c18_eq]
@[simp] theorem callA15_19 (key b : Nat → BitVec 8) (h : Heap) : callA15 19 [arr 32 key, arr 16 b] h = some (arr 16 (encF (wd key) b), h) := by simp [callA15, callA14, callA13, callA12, callA11, callA10, callA9, callA8, callA7, callA6, addC]
@[simp] theorem callA15_20 (key b : Nat → BitVec 8) (h : Heap) : callA15 20 [arr 32 key, arr 16 b] h = some (arr 16 (encF (wd key) b), h) := by simp [callA15, callA14, addC, c20_eq]
@[simp] theorem callA15_21 (key : Nat → BitVec 8) (h : Heap) : callA15 21 [arr 32 key] h = some (mat 60 4 (wd key), h) := by simp [callA15, callA14, callA13, callA12, callA11, callA10, callA9, callA8, callA7, addC, c21_eq]
@[simp] theorem callA15_22 (key : Nat → BitVec 8) (h : Heap) : callA15 22 [arr 32 key] h = some (mat 60 4 (wd key), h) := by simp [callA15, addC, c22_eq]
@[simp] theorem callA15_18s (h : Heap) : still callA15 18 [] h = some (.bool true, h) := still_of fun t => by simp
@[simp] theorem callA15_19s (key b : Nat → BitVec 8) (h : Heap) : still callA15 19 [arr 32 key, arr 16 b] h = some (arr 16 (encF (wd key) b), h) := still_of fun t => by simp
@[simp] theorem callA15_20s (key b : Nat → BitVec 8) (h : Heap) : still callA15 20 [arr 32 key, arr 16 b] h = some (arr 16 (encF (wd key) b), h) := still_of fun t => by simp
@[simp] theorem callA15_21s (key : Nat → BitVec 8) (h : Heap) : still callA15 21 [arr 32 key] h = some (mat 60 4 (wd key), h) := still_of fun t => by simp
@[simp] theorem callA15_22s (key : Nat → BitVec 8) (h : Heap) : still callA15 22 [arr 32 key] h = some (mat 60 4 (wd key), h) := still_of fun t => by simp

theorem arrEq_self (n : Nat) (g : Nat → BitVec 8) : arrEq n g g = true := arrEq_iff.2 fun _ _ => rfl
theorem matEq_self (m n : Nat) (g : Nat → Nat → BitVec 8) : matEq m n g g = true := matEq_iff.2 fun _ _ _ _ => rfl

theorem walk3 (h : Heap) (a b : BitVec 8) : ∃ t, evBody (cx3 callA15) Try.f3 n3_0 [u8 a, u8 b] h = some (.bool true, h ++ t) := by
  rw [b3]
  have main : Evs (evC (cx3 callA15) n3_0 ⟨[(0, u8 a), (1, u8 b), (2, .junk), (3, .junk), (4, .junk)], h⟩) (fun r => ∃ env t, r = (.ret, ⟨env, h ++ t⟩) ∧ env.get 4 = .bool true) := by
    obtain ⟨env, he⟩ : ∃ env : Env, env = [(0, u8 a), (1, u8 b), (2, .junk), (3, .junk), (4, .junk)] := ⟨_, rfl⟩
    rw [← he]
    have g0 : env.get 0 = u8 a := by rw [he]; rfl
    have g1 : env.get 1 = u8 b := by rw [he]; rfl
    clear he
    repeat (first
      | (with_reducible refine Evs.assoc ?_)
      | ((with_reducible refine Evs.some_bnd ?_); try dsimp only [sqK_nrm, sqK_exit, sqK_ret])
      | ((with_reducible apply Evs.bcndT); (focus (simp (disch := omega) [g0, g1] <;> omega)))
      | ((with_reducible apply Evs.bcndF); (focus (simp (disch := omega) [g0, g1] <;> omega)))
      | ((with_reducible apply Evs.step); (focus ((conv => lhs; simp (disch := omega) [g0, g1]); done)); try dsimp only)
      | (simp only [n3_2_eq, n3_1_eq, n3_0_eq, sqK_nrm, sqK_exit, sqK_ret, inBlk_nrm, inBlk_ret, inBlk_same]))
    exact Evs.ret ⟨_, [], by rw [List.append_nil], by simp⟩
  obtain ⟨r, hr, env, t, rfl, e0⟩ := main
  refine ⟨t, ?_⟩
  rw [hr]
  simp [e0, oneOrTuple]

theorem walk4 (h : Heap) (key b : Nat → BitVec 8) : ∃ t, evBody (cx4 callA15) Try.f4 n4_0 [arr 32 key, arr 16 b] h = some (.bool true, h ++ t) := by
  rw [b4]
  have main : Evs (evC (cx4 callA15) n4_0 ⟨[(0, arr 32 key), (1, arr 16 b), (2, .junk), (3, .junk), (4, .junk)], h⟩) (fun r => ∃ env t, r = (.ret, ⟨env, h ++ t⟩) ∧ env.get 4 = .bool true) := by
    obtain ⟨env, he⟩ : ∃ env : Env, env = [(0, arr 32 key), (1, arr 16 b), (2, .junk), (3, .junk), (4, .junk)] := ⟨_, rfl⟩
    rw [← he]
    have g0 : env.get 0 = arr 32 key := by rw [he]; rfl
    have g1 : env.get 1 = arr 16 b := by rw [he]; rfl
    clear he
    repeat (first
      | (with_reducible refine Evs.assoc ?_)
      | ((with_reducible refine Evs.some_bnd ?_); try dsimp only [sqK_nrm, sqK_exit, sqK_ret])
      | ((with_reducible apply Evs.bcndT); (focus (simp (disch := omega) [g0, g1, arrEq_self] <;> omega)))
      | ((with_reducible apply Evs.bcndF); (focus (simp (disch := omega) [g0, g1, arrEq_self] <;> omega)))
      | ((with_reducible apply Evs.step); (focus ((conv => lhs; simp (disch := omega) [g0, g1, arrEq_self]); done)); try dsimp only)
      | (simp only [n4_2_eq, n4_1_eq, n4_0_eq, sqK_nrm, sqK_exit, sqK_ret, inBlk_nrm, inBlk_ret, inBlk_same]))
    exact Evs.ret ⟨_, _, rfl, by simp⟩
  obtain ⟨r, hr, env, t, rfl, e0⟩ := main
  refine ⟨t, ?_⟩
  rw [hr]
  simp [e0, oneOrTuple]

theorem walk7 (h : Heap) (key : Nat → BitVec 8) : ∃ t, evBody (cx7 callA15) Try.f7 n7_0 [arr 32 key] h = some (.bool true, h ++ t) := by
  rw [b7]
  have main : Evs (evC (cx7 callA15) n7_0 ⟨[(0, arr 32 key), (1, .junk), (2, .junk)], h⟩) (fun r => ∃ env t, r = (.ret, ⟨env, h ++ t⟩) ∧ env.get 2 = .bool true) := by
    obtain ⟨env, he⟩ : ∃ env : Env, env = [(0, arr 32 key), (1, .junk), (2, .junk)] := ⟨_, rfl⟩
    rw [← he]
    have g0 : env.get 0 = arr 32 key := by rw [he]; rfl
    clear he
    repeat (first
      | (with_reducible refine Evs.assoc ?_)
      | ((with_reducible refine Evs.some_bnd ?_); try dsimp only [sqK_nrm, sqK_exit, sqK_ret])
      | ((with_reducible apply Evs.bcndT); (focus (simp (disch := omega) [g0, matEq_self] <;> omega)))
      | ((with_reducible apply Evs.bcndF); (focus (simp (disch := omega) [g0, matEq_self] <;> omega)))
      | ((with_reducible apply Evs.step); (focus ((conv => lhs; simp (disch := omega) [g0, matEq_self]); done)); try dsimp only)
      | (simp only [n7_2_eq, n7_1_eq, n7_0_eq, sqK_nrm, sqK_exit, sqK_ret, inBlk_nrm, inBlk_ret, inBlk_same]))
    exact Evs.ret ⟨_, _, rfl, by simp⟩
  obtain ⟨r, hr, env, t, rfl, e0⟩ := main
  refine ⟨t, ?_⟩
  rw [hr]
  simp [e0, oneOrTuple]

theorem walk6 (h : Heap) (key a b : Nat → BitVec 8) (bit : BitVec 8) : ∃ t, evBody (cx6 callA15) Try.f6 n6_0 [arr 32 key, arr 16 a, arr 16 b, u8 bit] h = some (.bool true, h ++ t) := by
  have hlt := flip_lt bit
  have e1 : mBin .rem (u8 bit) (u8 128#8) = some (u8 (bit % 128#8)) := u8_rem _ _ (by decide)
  have e2 : ∀ x, mBin .quo (u8 x) (u8 8#8) = some (u8 (x / 8#8)) := fun x => u8_quo _ _ (by decide)
  have e3 : mBin .rem (u8 bit) (u8 8#8) = some (u8 (bit % 8#8)) := u8_rem _ _ (by decide)
  have e4 := arrEq_enc key a b
  have e5 : arrEq 16 (encF (wd key) a) (encF (wd key) (upd a (bit % 128#8 / 8#8).toNat (a (bit % 128#8 / 8#8).toNat ^^^ 1#8 <<< (bit % 8#8).toNat))) = false := by
    rw [arrEq_enc]; exact flip_ne a bit
  rw [show (bit % 8#8).toNat = bit.toNat % 8 by simp] at e5
  generalize hk : (bit % 128#8 / 8#8).toNat = k at hlt e5
  have e6 : ∀ (H : Heap) (u : Ty) (i : Nat), mIdxA (.arr 16 u) (.ptr i 0 [] (.arr 16 u)) (u8 (bit % 128#8 / 8#8)) = some (.ptr i 0 [k] u) := fun H u i => by
    rw [mIdxA_u8, hk, if_pos hlt]; rfl
  rw [b6]
  have main : Evs (evC (cx6 callA15) n6_0 ⟨[(0, arr 32 key), (1, arr 16 a), (2, arr 16 b), (3, u8 bit), (4, .junk), (5, .junk), (6, .junk), (7, .junk), (8, .junk), (9, .junk), (10, .junk)], h⟩) (fun r => ∃ env t, r = (.ret, ⟨env, h ++ t⟩) ∧ env.get 8 = .bool true) := by
    obtain ⟨env, he⟩ : ∃ env : Env, env = [(0, arr 32 key), (1, arr 16 a), (2, arr 16 b), (3, u8 bit), (4, .junk), (5, .junk), (6, .junk), (7, .junk), (8, .junk), (9, .junk), (10, .junk)] := ⟨_, rfl⟩
    rw [← he]
    have g0 : env.get 0 = arr 32 key := by rw [he]; rfl
    have g1 : env.get 1 = arr 16 a := by rw [he]; rfl
    have g2 : env.get 2 = arr 16 b := by rw [he]; rfl
    have g3 : env.get 3 = u8 bit := by rw [he]; rfl
    clear he
    repeat (first
      | (with_reducible refine Evs.assoc ?_)
      | ((with_reducible refine Evs.some_bnd ?_); try dsimp only [sqK_nrm, sqK_exit, sqK_ret])
      | ((with_reducible apply Evs.bcndT); (focus (simp (disch := omega) [g0, g1, g2, g3, e1, e2, e3, e4, e5, e6 h, arrEq_self] <;> omega)))
      | ((with_reducible apply Evs.bcndF); (focus (simp (disch := omega) [g0, g1, g2, g3, e1, e2, e3, e4, e5, e6 h, arrEq_self] <;> omega)))
      | ((with_reducible apply Evs.step); (focus ((conv => lhs; simp (disch := omega) [g0, g1, g2, g3, e1, e2, e3, e4, e5, e6 h, arrEq_self]); done)); try dsimp only)
      | (simp only [n6_5_eq, n6_4_eq, n6_3_eq, n6_2_eq, n6_1_eq, n6_0_eq, sqK_nrm, sqK_exit, sqK_ret, inBlk_nrm, inBlk_ret, inBlk_same]))
    exact Evs.ret ⟨_, _, rfl, by simp⟩
  obtain ⟨r, hr, env, t, rfl, e0⟩ := main
  refine ⟨t, ?_⟩
  rw [hr]
  simp [e0, oneOrTuple]

end Go.Vab
