/- How the evaluator reads the functions of a seat. Printed by wip/tools/gen.py (own work). -/
import Derived.Test.YtfolmjdaemoojaaV3
import Derived.Test.YtfolmjdaemoojaaV1
set_option linter.all false
set_option linter.unusedSectionVars false
namespace Go.Vab
open Go Go.Proofs
noncomputable section
variable (call : Calling) (env : Env) (h : Heap) (s : St)
/-! vestry/aes.Words -/
def cx21 (call : Calling) : Ctx := ⟨call, TT, 7, [4, 5, 6]⟩
def n21_0 : Code := bodyOf Try.f21
def n21_1 : Code := cR n21_0
def n21_2 : Code := cR n21_1
def n21_3 : Code := cR n21_2
@[simp] theorem n21_3_eq : evC (cx21 call) n21_3 s = some (.ret, s) := xE
@[simp] theorem n21_2_eq : evC (cx21 call) n21_2 ⟨env, h⟩ = (bnd (pureV h (mLoad (.arr 32 (.int .u8)) (env.get 1) h)) fun r0 => bnd (call 41 [r0.1, (env.get 3)] r0.2) fun r1 => bnd (stU (.arr 60 (.arr 4 (.int .u8))) (env.get 2) r1.1 r1.2) fun r2 => evC (cx21 call) n21_3 ⟨env, r2.2⟩) := (xSR 2 (cOps (cL n21_2)) (cR n21_2)).trans (by
  refine opsK_0 ?_
  refine oP 5 fun r0 => ?_
  refine oP 6 fun r1 => ?_
  refine oN fun r2 => ?_
  exact oE)
@[simp] theorem n21_1_eq : evC (cx21 call) n21_1 ⟨env, h⟩ = (bnd (call 40 [] h) fun r0 => bnd (mNew (.arr 256 (.int .u8)) (arr 256 fun _ => 0#8) r0.2) fun r1 => bnd (stU (.arr 256 (.int .u8)) r1.1 r0.1 r1.2) fun r2 => evC (cx21 call) n21_2 ⟨(Env.put env 3 r1.1), r2.2⟩) := (xSR 1 (cOps (cL n21_1)) (cR n21_1)).trans (by
  refine opsK_0 ?_
  refine oP 4 fun r0 => ?_
  refine oP 3 fun r1 => ?_
  refine oN fun r2 => ?_
  exact oE)
@[simp] theorem n21_0_eq : evC (cx21 call) n21_0 ⟨env, h⟩ = (bnd (mNew (.arr 32 (.int .u8)) (env.get 0) h) fun r0 => bnd (mNew (.arr 60 (.arr 4 (.int .u8))) (mat 60 4 fun _ _ => 0#8) r0.2) fun r1 => evC (cx21 call) n21_1 ⟨(Env.put (Env.put env 1 r0.1) 2 r1.1), r1.2⟩) := (xSR 0 (cOps (cL n21_0)) (cR n21_0)).trans (by
  refine opsK_0 ?_
  refine oP 1 fun r0 => ?_
  refine oP 2 fun r1 => ?_
  exact oE)
theorem b21 (call : Calling) (a0 : AV) (h : Heap) : evBody (cx21 call) Try.f21 n21_0 [a0] h = bnd (evC (cx21 call) n21_0 ⟨[(0, a0), (1, .junk), (2, .junk), (3, .junk)], h⟩) (retK fun s => bnd (bnd (mLoad (.arr 60 (.arr 4 (.int .u8))) (s.env.get 2) s.heap) fun v => bnd (some []) fun vs => some (v :: vs)) fun vs => some (oneOrTuple vs)) := by kernel_rfl
theorem fn21 : Try.prog.funcs[21]? = some Try.f21 := by kernel_rfl
theorem k21 : Callable Try.prog 21 := ⟨Try.f21, fn21, by kernel_rfl, by kernel_rfl⟩
theorem s21 {call : Calling} (hc : CallOK Try.prog call) {args : List AV} {h h' : Heap} {v : AV} (he : evBody (cx21 call) Try.f21 n21_0 args h = some (v, h')) : Spec Try.prog 21 args h v h' := body_sound (C := cx21 call) TT_ok hc mixed_ok fn21 (by kernel_rfl) (by kernel_rfl) he
def sn21 := Y n21_3_eq (Y n21_2_eq (Y n21_1_eq (n21_0_eq)))
end
end Go.Vab

/-
  Encrypt's contract, the known block, the words.
-/
namespace Go.Vab
open Go Go.Proofs

noncomputable def c19 := conC (fun x : (Nat → BitVec 8) × (Nat → BitVec 8) => [arr 32 x.1, arr 16 x.2]) (fun _ _ => True) (fun x h => (arr 16 (encF (wd x.1) x.2), h))
noncomputable def callA5 : Calling := addC callA4 19 c19
theorem c19_eq (key b : Nat → BitVec 8) (h : Heap) : c19 [arr 32 key, arr 16 b] h = some (arr 16 (encF (wd key) b), h) :=
  conC_eq (enc := fun x : (Nat → BitVec 8) × (Nat → BitVec 8) => [arr 32 x.1, arr 16 x.2]) (a := (key, b)) (f := fun x h => (arr 16 (encF (wd x.1) x.2), h))
    (fun x y h e => by
      have e1 := arr_inj.1 (List.cons.inj e).1
      have e2 := arr_inj.1 (List.cons.inj (List.cons.inj e).2).1
      simp only [Prod.mk.injEq, and_true]
      exact arr_congr (encF_congr (fun i _ p hp => wd_congr e1 i p hp) e2)) trivial
theorem callA5_ok : CallOK Try.prog callA5 := addC_con callA4_ok k19 fun x h _ => by
  obtain ⟨t, ht⟩ := walk19 h x.1 x.2
  exact (s19 callA4_ok ht).drop0 t rfl
@[simp] theorem callA5_14 (a b : BitVec 8) (h : Heap) : callA5 14 [u8 a, u8 b] h = some (u8 (mulB a b), h) := by simp [callA5, addC]
@[simp] theorem callA5_16 (a : BitVec 8) (h : Heap) : callA5 16 [u8 a] h = some (u8 (subB a), h) := by simp [callA5, addC]
@[simp] theorem callA5_40 (h : Heap) : callA5 40 [] h = some (arr 256 sbF, h) := by simp [callA5, addC]
theorem callA5_41 (key : Nat → BitVec 8) (it vt : Nat) (h : Heap) (ht : ∃ m, blkAt h it vt = some ⟨arr 256 sbF, vt, m⟩) : callA5 41 [arr 32 key, .ptr it vt [] (.arr 256 (.int .u8))] h = some (mat 60 4 (wd key), h) := by
  have := callA4_41 key it vt h ht
  simpa [callA5, addC] using this
@[simp] theorem callA5_19 (key b : Nat → BitVec 8) (h : Heap) : callA5 19 [arr 32 key, arr 16 b] h = some (arr 16 (encF (wd key) b), h) := by simp [callA5, addC, c19_eq]

theorem walk21 (key : Nat → BitVec 8) (h : Heap) : ∃ t, evBody (cx21 callA5) Try.f21 n21_0 [arr 32 key] h = some (mat 60 4 (wd key), h ++ t) := by
  rw [b21]
  refine ⟨[⟨arr 32 key, 0, .own⟩, ⟨mat 60 4 (wd key), 0, .own⟩, ⟨arr 256 sbF, 0, .own⟩], ?_⟩
  simp [Env.get, Env.put, oneOrTuple, callA5_41]

def outF (i : Nat) : BitVec 8 := BitVec.ofNat 8 (outK.getD i 0)

theorem walk18 (h : Heap) : ∃ t, evBody (cx18 callA5) Try.f18 n18_0 [] h = some (.bool true, h ++ t) := by
  rw [b18]
  have L1 : ∃ r, evLoop (evC (cx18 callA5) n18_7) ⟨[(0, .bool false), (1, .ptr h.length 0 [] (.arr 32 (.int .u8))), (2, .ptr (h.length + 1) 0 [] (.arr 16 (.int .u8))), (3, .junk), (4, .junk), (5, nat 0), (6, .junk), (13, .junk), (14, .junk)], h ++ [⟨(arr 32 fun _ => 0#8), 0, .own⟩, ⟨(arr 16 fun _ => 0#8), 0, .own⟩]⟩ = some r ∧
      ∃ x3 x5 x6, r = (.exit 0, ⟨[(0, .bool false), (1, .ptr h.length 0 [] (.arr 32 (.int .u8))), (2, .ptr (h.length + 1) 0 [] (.arr 16 (.int .u8))), (3, x3), (4, .junk), (5, x5), (6, x6), (13, .junk), (14, .junk)], h ++ [⟨arr 32 keyK, 0, .own⟩, ⟨(arr 16 fun _ => 0#8), 0, .own⟩]⟩) := by
    refine evLoop_up 32 (fun i s => ∃ x3 x6 g, s = ⟨[(0, .bool false), (1, .ptr h.length 0 [] (.arr 32 (.int .u8))), (2, .ptr (h.length + 1) 0 [] (.arr 16 (.int .u8))), (3, x3), (4, .junk), (5, nat i), (6, x6), (13, .junk), (14, .junk)], h ++ [⟨arr 32 g, 0, .own⟩, ⟨(arr 16 fun _ => 0#8), 0, .own⟩]⟩ ∧ ∀ j, j < i → g j = keyK j) ?_ ?_ ⟨_, _, _, rfl, fun j hj => absurd hj (by omega)⟩
    · rintro i s hi ⟨x3, x6, g, rfl, hg⟩
      have e1 : mBin .add (nat i) (nat 1) = some (nat (i + 1)) := nat_add (by omega)
      refine ex_of (by conv => lhs; simp [Env.get, Env.put, hi, e1]) ?_
      refine ⟨rfl, _, _, _, rfl, fun j hj => ?_⟩
      by_cases hji : j = i
      · subst hji; rw [upd_same]; rfl
      · rw [upd_ne _ _ hji]; exact hg j (by omega)
    · rintro s ⟨x3, x6, g, rfl, hg⟩
      refine ex_of (by conv => lhs; simp [Env.get, Env.put]) ?_
      rw [arr_congr hg]
      exact ⟨by simp, _, _, _, rfl⟩
  obtain ⟨r1, hr1, x3, x5, x6, rfl⟩ := L1
  have L2 : ∃ r, evLoop (evC (cx18 callA5) n18_21) ⟨[(0, .bool false), (1, .ptr h.length 0 [] (.arr 32 (.int .u8))), (2, .ptr (h.length + 1) 0 [] (.arr 16 (.int .u8))), (3, x3), (4, .junk), (5, x5), (6, x6), (13, nat 0), (14, .junk)], h ++ [⟨arr 32 keyK, 0, .own⟩, ⟨(arr 16 fun _ => 0#8), 0, .own⟩]⟩ = some r ∧
      ∃ x4 x13 x14, r = (.exit 2, ⟨[(0, .bool false), (1, .ptr h.length 0 [] (.arr 32 (.int .u8))), (2, .ptr (h.length + 1) 0 [] (.arr 16 (.int .u8))), (3, x3), (4, x4), (5, x5), (6, x6), (13, x13), (14, x14)], h ++ [⟨arr 32 keyK, 0, .own⟩, ⟨arr 16 blkK, 0, .own⟩]⟩) := by
    refine evLoop_up 16 (fun i s => ∃ x4 x14 g, s = ⟨[(0, .bool false), (1, .ptr h.length 0 [] (.arr 32 (.int .u8))), (2, .ptr (h.length + 1) 0 [] (.arr 16 (.int .u8))), (3, x3), (4, x4), (5, x5), (6, x6), (13, nat i), (14, x14)], h ++ [⟨arr 32 keyK, 0, .own⟩, ⟨arr 16 g, 0, .own⟩]⟩ ∧ ∀ j, j < i → g j = blkK j) ?_ ?_ ⟨_, _, _, rfl, fun j hj => absurd hj (by omega)⟩
    · rintro i s hi ⟨x4, x14, g, rfl, hg⟩
      have e1 : mBin .add (nat i) (nat 1) = some (nat (i + 1)) := nat_add (by omega)
      have e2 : mBin .mul (nat 17) (nat i) = some (nat (17 * i)) := nat_mul (by omega)
      refine ex_of (by conv => lhs; simp [Env.get, Env.put, hi, e1, e2]) ?_
      refine ⟨rfl, _, _, _, rfl, fun j hj => ?_⟩
      by_cases hji : j = i
      · subst hji; rw [upd_same]; simp [blkK, BitVec.ofNat_mul]
      · rw [upd_ne _ _ hji]; exact hg j (by omega)
    · rintro s ⟨x4, x14, g, rfl, hg⟩
      refine ex_of (by conv => lhs; simp [Env.get, Env.put]) ?_
      rw [arr_congr hg]
      exact ⟨by simp, _, _, _, rfl⟩
  obtain ⟨r2, hr2, x4, x13, x14, rfl⟩ := L2
  refine ⟨[⟨arr 32 keyK, 0, .own⟩, ⟨arr 16 blkK, 0, .own⟩], ?_⟩
  have lit : fillRow (.arr 16 (.int .u8)) (arr 16 fun _ => 0#8) [(0, (u8 142#8)), (1, (u8 162#8)), (2, (u8 183#8)), (3, (u8 202#8)), (4, (u8 81#8)), (5, (u8 103#8)), (6, (u8 69#8)), (7, (u8 191#8)), (8, (u8 234#8)), (9, (u8 252#8)), (10, (u8 73#8)), (11, (u8 144#8)), (12, (u8 75#8)), (13, (u8 73#8)), (14, (u8 96#8)), (15, (u8 137#8))] = some (arr 16 outF) := by kernel_rfl
  have e : arrEq 16 (encF (wd keyK) blkK) outF = true := arrEq_iff.2 known
  simp [Env.get, Env.put, hr1, hr2, lit, e, oneOrTuple]

noncomputable def c18 := conC (fun _ : Unit => []) (fun _ _ => True) (fun _ h => (.bool true, h))
noncomputable def callA6 : Calling := addC callA5 18 c18
theorem c18_eq (h : Heap) : c18 [] h = some (.bool true, h) :=
  conC_eq (enc := fun _ : Unit => []) (a := ()) (f := fun _ h => (.bool true, h)) (fun _ _ _ _ => rfl) trivial
theorem callA6_ok : CallOK Try.prog callA6 := addC_con callA5_ok k18 fun _ h _ => by
  obtain ⟨t, ht⟩ := walk18 h
  exact (s18 callA5_ok ht).drop0 t rfl
noncomputable def c21 := conC (fun x : Nat → BitVec 8 => [arr 32 x]) (fun _ _ => True) (fun x h => (mat 60 4 (wd x), h))
noncomputable def callA7 : Calling := addC callA6 21 c21
theorem c21_eq (key : Nat → BitVec 8) (h : Heap) : c21 [arr 32 key] h = some (mat 60 4 (wd key), h) :=
  conC_eq (enc := fun x : Nat → BitVec 8 => [arr 32 x]) (a := key) (f := fun x h => (mat 60 4 (wd x), h))
    (fun x y h e => by
      have e1 := arr_inj.1 (List.cons.inj e).1
      simp only [Prod.mk.injEq, and_true]
      exact mat_congr fun i _ p hp => wd_congr e1 i p hp) trivial
theorem callA7_ok : CallOK Try.prog callA7 := addC_con callA6_ok k21 fun x h _ => by
  obtain ⟨t, ht⟩ := walk21 x h
  have hs := (s21 callA5_ok ht).drop0 t (mat_under _ _ _ _)
  exact hs
@[simp] theorem callA7_14 (a b : BitVec 8) (h : Heap) : callA7 14 [u8 a, u8 b] h = some (u8 (mulB a b), h) := by simp [callA7, callA6, addC]
@[simp] theorem callA7_16 (a : BitVec 8) (h : Heap) : callA7 16 [u8 a] h = some (u8 (subB a), h) := by simp [callA7, callA6, addC]
@[simp] theorem callA7_40 (h : Heap) : callA7 40 [] h = some (arr 256 sbF, h) := by simp [callA7, callA6, addC]
@[simp] theorem callA7_18 (h : Heap) : callA7 18 [] h = some (.bool true, h) := by simp [callA7, callA6, addC, c18_eq]
@[simp] theorem callA7_19 (key b : Nat → BitVec 8) (h : Heap) : callA7 19 [arr 32 key, arr 16 b] h = some (arr 16 (encF (wd key) b), h) := by simp [callA7, callA6, addC]
@[simp] theorem callA7_21 (key : Nat → BitVec 8) (h : Heap) : callA7 21 [arr 32 key] h = some (mat 60 4 (wd key), h) := by simp [callA7, addC, c21_eq]

end Go.Vab

/- How the evaluator reads the functions of a seat. Printed by wip/tools/gen.py (own work). -/
namespace Go.Vab
open Go Go.Proofs
noncomputable section
variable (call : Calling) (env : Env) (h : Heap) (s : St)
/-! vestry/vestryref08.Mul -/
def cx15 (call : Calling) : Ctx := ⟨call, TT, 39, [8, 10, 11, 12, 13, 14, 15, 17, 18, 19, 20, 21, 22, 23, 25, 26, 27, 28, 29, 30, 32, 33, 34, 35, 36, 37, 38]⟩
def n15_0 : Code := bodyOf Try.f15
def n15_1 : Code := cR n15_0
def n15_2 : Code := cR n15_1
def n15_3 : Code := cL n15_2
def n15_4 : Code := cR n15_3
def n15_5 : Code := cB n15_4
def n15_6 : Code := cB n15_5
def n15_7 : Code := cL n15_6
def n15_8 : Code := cR n15_7
def n15_9 : Code := cL n15_8
def n15_10 : Code := cR n15_8
def n15_11 : Code := cR n15_6
def n15_12 : Code := cL n15_11
def n15_13 : Code := cB n15_12
def n15_14 : Code := cR n15_13
def n15_15 : Code := cL n15_14
def n15_16 : Code := cR n15_14
def n15_17 : Code := cR n15_11
def n15_18 : Code := cR n15_2
def n15_19 : Code := cL n15_18
def n15_20 : Code := cR n15_19
def n15_21 : Code := cB n15_20
def n15_22 : Code := cB n15_21
def n15_23 : Code := cL n15_22
def n15_24 : Code := cR n15_23
def n15_25 : Code := cL n15_24
def n15_26 : Code := cR n15_24
def n15_27 : Code := cR n15_22
def n15_28 : Code := cL n15_27
def n15_29 : Code := cB n15_28
def n15_30 : Code := cR n15_29
def n15_31 : Code := cL n15_30
def n15_32 : Code := cR n15_30
def n15_33 : Code := cR n15_27
def n15_34 : Code := cR n15_18
def n15_35 : Code := cR n15_34
@[simp] theorem n15_9_eq : evC (cx15 call) n15_9 s = some (.nrm, s) := xK
@[simp] theorem n15_10_eq : evC (cx15 call) n15_10 s = some (.exit 0, s) := xX 0
@[simp] theorem n15_8_eq : evC (cx15 call) n15_8 s = cnd (s.env.get 9) (evC (cx15 call) n15_9 s) (evC (cx15 call) n15_10 s) := xC 9 _ _
@[simp] theorem n15_7_eq : evC (cx15 call) n15_7 ⟨env, h⟩ = (bnd (pureV h (mBin .lss (env.get 6) (nat 8))) fun r1 => evC (cx15 call) n15_8 ⟨(Env.put env 9 r1.1), r1.2⟩) := (xSR 3 (cOps (cL n15_7)) (cR n15_7)).trans (by
  refine opsK_0 ?_
  refine oT 8 (env.get 6) ?_
  refine oP 9 fun r1 => ?_
  exact oE)
@[simp] theorem n15_15_eq : evC (cx15 call) n15_15 ⟨env, h⟩ = (bnd (pureV h (mConv .i64 (env.get 0))) fun r2 => bnd (pureV r2.2 (mBin .shl r2.1 (env.get 6))) fun r4 => bnd (pureV r4.2 (mBin .xor (env.get 5) r4.1)) fun r5 => some (.nrm, ⟨(Env.put env 5 r5.1), r5.2⟩)) := (xR 6 (cOps n15_15)).trans (by
  refine opsK_0 ?_
  refine oT 17 (env.get 5) ?_
  refine oT 18 (env.get 0) ?_
  refine oP 19 fun r2 => ?_
  refine oT 20 (env.get 6) ?_
  refine oP 21 fun r4 => ?_
  refine oP 22 fun r5 => ?_
  refine oT 5 r5.1 ?_
  exact oE)
@[simp] theorem n15_16_eq : evC (cx15 call) n15_16 s = some (.nrm, s) := xK
@[simp] theorem n15_14_eq : evC (cx15 call) n15_14 s = cnd (s.env.get 16) (evC (cx15 call) n15_15 s) (evC (cx15 call) n15_16 s) := xC 16 _ _
@[simp] theorem n15_13_eq : evC (cx15 call) n15_13 ⟨env, h⟩ = (bnd (pureV h (mBin .shr (env.get 1) (env.get 6))) fun r2 => bnd (pureV r2.2 (mBin .rem r2.1 (u8 2#8))) fun r3 => bnd (pureV r3.2 (mBin .eql r3.1 (u8 1#8))) fun r4 => evC (cx15 call) n15_14 ⟨(Env.put env 16 r4.1), r4.2⟩) := (xSR 5 (cOps (cL n15_13)) (cR n15_13)).trans (by
  refine opsK_0 ?_
  refine oT 12 (env.get 1) ?_
  refine oT 13 (env.get 6) ?_
  refine oP 14 fun r2 => ?_
  refine oP 15 fun r3 => ?_
  refine oP 16 fun r4 => ?_
  exact oE)
@[simp] theorem n15_12_eq : evC (cx15 call) n15_12 s = bnd (evC (cx15 call) n15_13 s) fun r => some (inBlk 1 r) := xB 1 _
@[simp] theorem n15_17_eq : evC (cx15 call) n15_17 ⟨env, h⟩ = (bnd (pureV h (mBin .add (env.get 6) (nat 1))) fun r1 => some (.nrm, ⟨(Env.put env 6 r1.1), r1.2⟩)) := (xR 4 (cOps n15_17)).trans (by
  refine opsK_0 ?_
  refine oT 10 (env.get 6) ?_
  refine oP 11 fun r1 => ?_
  refine oT 6 r1.1 ?_
  exact oE)
@[simp] theorem n15_11_eq : evC (cx15 call) n15_11 s = bnd (evC (cx15 call) n15_12 s) (sqK (evC (cx15 call) n15_17)) := xS _ _
@[simp] theorem n15_6_eq : evC (cx15 call) n15_6 s = bnd (evC (cx15 call) n15_7 s) (sqK (evC (cx15 call) n15_11)) := xS _ _
@[simp] theorem n15_5_eq : evC (cx15 call) n15_5 s = evLoop (evC (cx15 call) n15_6) s := xL _
@[simp] theorem n15_4_eq : evC (cx15 call) n15_4 s = bnd (evC (cx15 call) n15_5 s) fun r => some (inBlk 0 r) := xB 0 _
@[simp] theorem n15_3_eq : evC (cx15 call) n15_3 ⟨env, h⟩ = ( evC (cx15 call) n15_4 ⟨(Env.put env 6 (nat 0)), h⟩) := (xSR 2 (cOps (cL n15_3)) (cR n15_3)).trans (by
  refine opsK_0 ?_
  refine oT 6 (nat 0) ?_
  exact oE)
@[simp] theorem n15_25_eq : evC (cx15 call) n15_25 s = some (.nrm, s) := xK
@[simp] theorem n15_26_eq : evC (cx15 call) n15_26 s = some (.exit 2, s) := xX 2
@[simp] theorem n15_24_eq : evC (cx15 call) n15_24 s = cnd (s.env.get 24) (evC (cx15 call) n15_25 s) (evC (cx15 call) n15_26 s) := xC 24 _ _
@[simp] theorem n15_23_eq : evC (cx15 call) n15_23 ⟨env, h⟩ = (bnd (pureV h (mBin .geq (env.get 7) (nat 8))) fun r1 => evC (cx15 call) n15_24 ⟨(Env.put env 24 r1.1), r1.2⟩) := (xSR 8 (cOps (cL n15_23)) (cR n15_23)).trans (by
  refine opsK_0 ?_
  refine oT 23 (env.get 7) ?_
  refine oP 24 fun r1 => ?_
  exact oE)
@[simp] theorem n15_31_eq : evC (cx15 call) n15_31 ⟨env, h⟩ = (bnd (pureV h (mBin .sub (env.get 7) (nat 8))) fun r2 => bnd (pureV r2.2 (mBin .shl (nat 283) r2.1)) fun r3 => bnd (pureV r3.2 (mBin .xor (env.get 5) r3.1)) fun r4 => some (.nrm, ⟨(Env.put env 5 r4.1), r4.2⟩)) := (xR 11 (cOps n15_31)).trans (by
  refine opsK_0 ?_
  refine oT 32 (env.get 5) ?_
  refine oT 33 (env.get 7) ?_
  refine oP 34 fun r2 => ?_
  refine oP 35 fun r3 => ?_
  refine oP 36 fun r4 => ?_
  refine oT 5 r4.1 ?_
  exact oE)
@[simp] theorem n15_32_eq : evC (cx15 call) n15_32 s = some (.nrm, s) := xK
@[simp] theorem n15_30_eq : evC (cx15 call) n15_30 s = cnd (s.env.get 31) (evC (cx15 call) n15_31 s) (evC (cx15 call) n15_32 s) := xC 31 _ _
@[simp] theorem n15_29_eq : evC (cx15 call) n15_29 ⟨env, h⟩ = (bnd (pureV h (mBin .shr (env.get 5) (env.get 7))) fun r2 => bnd (pureV r2.2 (mBin .rem r2.1 (nat 2))) fun r3 => bnd (pureV r3.2 (mBin .eql r3.1 (nat 1))) fun r4 => evC (cx15 call) n15_30 ⟨(Env.put env 31 r4.1), r4.2⟩) := (xSR 10 (cOps (cL n15_29)) (cR n15_29)).trans (by
  refine opsK_0 ?_
  refine oT 27 (env.get 5) ?_
  refine oT 28 (env.get 7) ?_
  refine oP 29 fun r2 => ?_
  refine oP 30 fun r3 => ?_
  refine oP 31 fun r4 => ?_
  exact oE)
@[simp] theorem n15_28_eq : evC (cx15 call) n15_28 s = bnd (evC (cx15 call) n15_29 s) fun r => some (inBlk 3 r) := xB 3 _
@[simp] theorem n15_33_eq : evC (cx15 call) n15_33 ⟨env, h⟩ = (bnd (pureV h (mBin .sub (env.get 7) (nat 1))) fun r1 => some (.nrm, ⟨(Env.put env 7 r1.1), r1.2⟩)) := (xR 9 (cOps n15_33)).trans (by
  refine opsK_0 ?_
  refine oT 25 (env.get 7) ?_
  refine oP 26 fun r1 => ?_
  refine oT 7 r1.1 ?_
  exact oE)
@[simp] theorem n15_27_eq : evC (cx15 call) n15_27 s = bnd (evC (cx15 call) n15_28 s) (sqK (evC (cx15 call) n15_33)) := xS _ _
@[simp] theorem n15_22_eq : evC (cx15 call) n15_22 s = bnd (evC (cx15 call) n15_23 s) (sqK (evC (cx15 call) n15_27)) := xS _ _
@[simp] theorem n15_21_eq : evC (cx15 call) n15_21 s = evLoop (evC (cx15 call) n15_22) s := xL _
@[simp] theorem n15_20_eq : evC (cx15 call) n15_20 s = bnd (evC (cx15 call) n15_21 s) fun r => some (inBlk 2 r) := xB 2 _
@[simp] theorem n15_19_eq : evC (cx15 call) n15_19 ⟨env, h⟩ = ( evC (cx15 call) n15_20 ⟨(Env.put env 7 (nat 14)), h⟩) := (xSR 7 (cOps (cL n15_19)) (cR n15_19)).trans (by
  refine opsK_0 ?_
  refine oT 7 (nat 14) ?_
  exact oE)
@[simp] theorem n15_35_eq : evC (cx15 call) n15_35 s = some (.ret, s) := xE
@[simp] theorem n15_34_eq : evC (cx15 call) n15_34 ⟨env, h⟩ = (bnd (pureV h (mConv .u8 (env.get 5))) fun r1 => evC (cx15 call) n15_35 ⟨(Env.put env 4 r1.1), r1.2⟩) := (xSR 12 (cOps (cL n15_34)) (cR n15_34)).trans (by
  refine opsK_0 ?_
  refine oT 37 (env.get 5) ?_
  refine oP 38 fun r1 => ?_
  refine oT 4 r1.1 ?_
  exact oE)
@[simp] theorem n15_18_eq : evC (cx15 call) n15_18 s = bnd (evC (cx15 call) n15_19 s) (sqK (evC (cx15 call) n15_34)) := xS _ _
@[simp] theorem n15_2_eq : evC (cx15 call) n15_2 s = bnd (evC (cx15 call) n15_3 s) (sqK (evC (cx15 call) n15_18)) := xS _ _
@[simp] theorem n15_1_eq : evC (cx15 call) n15_1 ⟨env, h⟩ = ( evC (cx15 call) n15_2 ⟨(Env.put env 5 (nat 0)), h⟩) := (xSR 1 (cOps (cL n15_1)) (cR n15_1)).trans (by
  refine opsK_0 ?_
  refine oT 5 (nat 0) ?_
  exact oE)
@[simp] theorem n15_0_eq : evC (cx15 call) n15_0 ⟨env, h⟩ = ( evC (cx15 call) n15_1 ⟨(Env.put env 4 (u8 0#8)), h⟩) := (xSR 0 (cOps (cL n15_0)) (cR n15_0)).trans (by
  refine opsK_0 ?_
  refine oT 4 (u8 0#8) ?_
  exact oE)
theorem b15 (call : Calling) (a0 a1 : AV) (h : Heap) : evBody (cx15 call) Try.f15 n15_0 [a0, a1] h = bnd (evC (cx15 call) n15_0 ⟨[(0, a0), (1, a1), (2, .junk), (3, .junk), (4, .junk), (5, .junk), (6, .junk), (7, .junk), (9, .junk), (16, .junk), (24, .junk), (31, .junk)], h⟩) (retK fun s => bnd (bnd (some (s.env.get 4)) fun v => bnd (some []) fun vs => some (v :: vs)) fun vs => some (oneOrTuple vs)) := by kernel_rfl
theorem fn15 : Try.prog.funcs[15]? = some Try.f15 := by kernel_rfl
theorem k15 : Callable Try.prog 15 := ⟨Try.f15, fn15, by kernel_rfl, by kernel_rfl⟩
theorem s15 {call : Calling} (hc : CallOK Try.prog call) {args : List AV} {h h' : Heap} {v : AV} (he : evBody (cx15 call) Try.f15 n15_0 args h = some (v, h')) : Spec Try.prog 15 args h v h' := body_sound (C := cx15 call) TT_ok hc mixed_ok fn15 (by kernel_rfl) (by kernel_rfl) he
def sn15 := Y n15_9_eq (Y n15_10_eq (Y n15_8_eq (Y n15_7_eq (Y n15_15_eq (Y n15_16_eq (Y n15_14_eq (Y n15_13_eq (Y n15_12_eq (Y n15_17_eq (Y n15_11_eq (Y n15_6_eq (Y n15_5_eq (Y n15_4_eq (Y n15_3_eq (Y n15_25_eq (Y n15_26_eq (Y n15_24_eq (Y n15_23_eq (Y n15_31_eq (Y n15_32_eq (Y n15_30_eq (Y n15_29_eq (Y n15_28_eq (Y n15_33_eq (Y n15_27_eq (Y n15_22_eq (Y n15_21_eq (Y n15_20_eq (Y n15_19_eq (Y n15_35_eq (Y n15_34_eq (Y n15_18_eq (Y n15_2_eq (Y n15_1_eq (n15_0_eq)))))))))))))))))))))))))))))))))))
end
end Go.Vab

/- How the evaluator reads the functions of a seat. Printed by wip/tools/gen.py (own work). -/
namespace Go.Vab
open Go Go.Proofs
noncomputable section
variable (call : Calling) (env : Env) (h : Heap) (s : St)
/-! vestry/vestryref08.inverse -/
def cx39 (call : Calling) : Ctx := ⟨call, TT, 15, [4, 6, 7, 8, 9, 10, 11, 13, 14]⟩
def n39_0 : Code := bodyOf Try.f39
def n39_1 : Code := cR n39_0
def n39_2 : Code := cL n39_1
def n39_3 : Code := cR n39_2
def n39_4 : Code := cB n39_3
def n39_5 : Code := cB n39_4
def n39_6 : Code := cL n39_5
def n39_7 : Code := cR n39_6
def n39_8 : Code := cL n39_7
def n39_9 : Code := cR n39_7
def n39_10 : Code := cR n39_5
def n39_11 : Code := cL n39_10
def n39_12 : Code := cB n39_11
def n39_13 : Code := cR n39_12
def n39_14 : Code := cL n39_13
def n39_15 : Code := cR n39_14
def n39_16 : Code := cR n39_13
def n39_17 : Code := cR n39_10
def n39_18 : Code := cR n39_1
def n39_19 : Code := cR n39_18
@[simp] theorem n39_8_eq : evC (cx39 call) n39_8 s = some (.nrm, s) := xK
@[simp] theorem n39_9_eq : evC (cx39 call) n39_9 s = some (.exit 0, s) := xX 0
@[simp] theorem n39_7_eq : evC (cx39 call) n39_7 s = cnd (s.env.get 5) (evC (cx39 call) n39_8 s) (evC (cx39 call) n39_9 s) := xC 5 _ _
@[simp] theorem n39_6_eq : evC (cx39 call) n39_6 ⟨env, h⟩ = (bnd (pureV h (mBin .lss (env.get 3) (nat 256))) fun r1 => evC (cx39 call) n39_7 ⟨(Env.put env 5 r1.1), r1.2⟩) := (xSR 2 (cOps (cL n39_6)) (cR n39_6)).trans (by
  refine opsK_0 ?_
  refine oT 4 (env.get 3) ?_
  refine oP 5 fun r1 => ?_
  exact oE)
@[simp] theorem n39_15_eq : evC (cx39 call) n39_15 s = some (.ret, s) := xE
@[simp] theorem n39_14_eq : evC (cx39 call) n39_14 ⟨env, h⟩ = (bnd (pureV h (mConv .u8 (env.get 3))) fun r1 => evC (cx39 call) n39_15 ⟨(Env.put env 2 r1.1), r1.2⟩) := (xSR 5 (cOps (cL n39_14)) (cR n39_14)).trans (by
  refine opsK_0 ?_
  refine oT 13 (env.get 3) ?_
  refine oP 14 fun r1 => ?_
  refine oT 2 r1.1 ?_
  exact oE)
@[simp] theorem n39_16_eq : evC (cx39 call) n39_16 s = some (.nrm, s) := xK
@[simp] theorem n39_13_eq : evC (cx39 call) n39_13 s = cnd (s.env.get 12) (evC (cx39 call) n39_14 s) (evC (cx39 call) n39_16 s) := xC 12 _ _
@[simp] theorem n39_12_eq : evC (cx39 call) n39_12 ⟨env, h⟩ = (bnd (pureV h (mConv .u8 (env.get 3))) fun r2 => bnd (call 15 [(env.get 0), r2.1] r2.2) fun r3 => bnd (pureV r3.2 (mBin .eql r3.1 (u8 1#8))) fun r4 => evC (cx39 call) n39_13 ⟨(Env.put env 12 r4.1), r4.2⟩) := (xSR 4 (cOps (cL n39_12)) (cR n39_12)).trans (by
  refine opsK_0 ?_
  refine oT 8 (env.get 0) ?_
  refine oT 9 (env.get 3) ?_
  refine oP 10 fun r2 => ?_
  refine oP 11 fun r3 => ?_
  refine oP 12 fun r4 => ?_
  exact oE)
@[simp] theorem n39_11_eq : evC (cx39 call) n39_11 s = bnd (evC (cx39 call) n39_12 s) fun r => some (inBlk 1 r) := xB 1 _
@[simp] theorem n39_17_eq : evC (cx39 call) n39_17 ⟨env, h⟩ = (bnd (pureV h (mBin .add (env.get 3) (nat 1))) fun r1 => some (.nrm, ⟨(Env.put env 3 r1.1), r1.2⟩)) := (xR 3 (cOps n39_17)).trans (by
  refine opsK_0 ?_
  refine oT 6 (env.get 3) ?_
  refine oP 7 fun r1 => ?_
  refine oT 3 r1.1 ?_
  exact oE)
@[simp] theorem n39_10_eq : evC (cx39 call) n39_10 s = bnd (evC (cx39 call) n39_11 s) (sqK (evC (cx39 call) n39_17)) := xS _ _
@[simp] theorem n39_5_eq : evC (cx39 call) n39_5 s = bnd (evC (cx39 call) n39_6 s) (sqK (evC (cx39 call) n39_10)) := xS _ _
@[simp] theorem n39_4_eq : evC (cx39 call) n39_4 s = evLoop (evC (cx39 call) n39_5) s := xL _
@[simp] theorem n39_3_eq : evC (cx39 call) n39_3 s = bnd (evC (cx39 call) n39_4 s) fun r => some (inBlk 0 r) := xB 0 _
@[simp] theorem n39_2_eq : evC (cx39 call) n39_2 ⟨env, h⟩ = ( evC (cx39 call) n39_3 ⟨(Env.put env 3 (nat 0)), h⟩) := (xSR 1 (cOps (cL n39_2)) (cR n39_2)).trans (by
  refine opsK_0 ?_
  refine oT 3 (nat 0) ?_
  exact oE)
@[simp] theorem n39_19_eq : evC (cx39 call) n39_19 s = some (.ret, s) := xE
@[simp] theorem n39_18_eq : evC (cx39 call) n39_18 ⟨env, h⟩ = ( evC (cx39 call) n39_19 ⟨(Env.put env 2 (u8 0#8)), h⟩) := (xSR 6 (cOps (cL n39_18)) (cR n39_18)).trans (by
  refine opsK_0 ?_
  refine oT 2 (u8 0#8) ?_
  exact oE)
@[simp] theorem n39_1_eq : evC (cx39 call) n39_1 s = bnd (evC (cx39 call) n39_2 s) (sqK (evC (cx39 call) n39_18)) := xS _ _
@[simp] theorem n39_0_eq : evC (cx39 call) n39_0 ⟨env, h⟩ = ( evC (cx39 call) n39_1 ⟨(Env.put env 2 (u8 0#8)), h⟩) := (xSR 0 (cOps (cL n39_0)) (cR n39_0)).trans (by
  refine opsK_0 ?_
  refine oT 2 (u8 0#8) ?_
  exact oE)
theorem b39 (call : Calling) (a0 : AV) (h : Heap) : evBody (cx39 call) Try.f39 n39_0 [a0] h = bnd (evC (cx39 call) n39_0 ⟨[(0, a0), (1, .junk), (2, .junk), (3, .junk), (5, .junk), (12, .junk)], h⟩) (retK fun s => bnd (bnd (some (s.env.get 2)) fun v => bnd (some []) fun vs => some (v :: vs)) fun vs => some (oneOrTuple vs)) := by kernel_rfl
theorem fn39 : Try.prog.funcs[39]? = some Try.f39 := by kernel_rfl
theorem k39 : Callable Try.prog 39 := ⟨Try.f39, fn39, by kernel_rfl, by kernel_rfl⟩
theorem s39 {call : Calling} (hc : CallOK Try.prog call) {args : List AV} {h h' : Heap} {v : AV} (he : evBody (cx39 call) Try.f39 n39_0 args h = some (v, h')) : Spec Try.prog 39 args h v h' := body_sound (C := cx39 call) TT_ok hc mixed_ok fn39 (by kernel_rfl) (by kernel_rfl) he
def sn39 := Y n39_8_eq (Y n39_9_eq (Y n39_7_eq (Y n39_6_eq (Y n39_15_eq (Y n39_14_eq (Y n39_16_eq (Y n39_13_eq (Y n39_12_eq (Y n39_11_eq (Y n39_17_eq (Y n39_10_eq (Y n39_5_eq (Y n39_4_eq (Y n39_3_eq (Y n39_2_eq (Y n39_19_eq (Y n39_18_eq (Y n39_1_eq (n39_0_eq)))))))))))))))))))
end
end Go.Vab

/- How the evaluator reads the functions of a seat. Printed by wip/tools/gen.py (own work). -/
namespace Go.Vab
open Go Go.Proofs
noncomputable section
variable (call : Calling) (env : Env) (h : Heap) (s : St)
/-! vestry/vestryref08.Sub -/
def cx17 (call : Calling) : Ctx := ⟨call, TT, 50, [7, 8, 9, 11, 12, 13, 14, 15, 16, 17, 18, 19, 20, 21, 22, 23, 24, 25, 26, 27, 28, 29, 30, 31, 32, 33, 34, 35, 36, 37, 38, 39, 40, 41, 42, 43, 44, 45, 46, 47, 48, 49]⟩
def n17_0 : Code := bodyOf Try.f17
def n17_1 : Code := cR n17_0
def n17_2 : Code := cR n17_1
def n17_3 : Code := cR n17_2
def n17_4 : Code := cL n17_3
def n17_5 : Code := cR n17_4
def n17_6 : Code := cB n17_5
def n17_7 : Code := cB n17_6
def n17_8 : Code := cL n17_7
def n17_9 : Code := cR n17_8
def n17_10 : Code := cL n17_9
def n17_11 : Code := cR n17_9
def n17_12 : Code := cR n17_7
def n17_13 : Code := cL n17_12
def n17_14 : Code := cB n17_13
def n17_15 : Code := cR n17_14
def n17_16 : Code := cR n17_12
def n17_17 : Code := cR n17_3
def n17_18 : Code := cR n17_17
@[simp] theorem n17_10_eq : evC (cx17 call) n17_10 s = some (.nrm, s) := xK
@[simp] theorem n17_11_eq : evC (cx17 call) n17_11 s = some (.exit 0, s) := xX 0
@[simp] theorem n17_9_eq : evC (cx17 call) n17_9 s = cnd (s.env.get 10) (evC (cx17 call) n17_10 s) (evC (cx17 call) n17_11 s) := xC 10 _ _
@[simp] theorem n17_8_eq : evC (cx17 call) n17_8 ⟨env, h⟩ = (bnd (pureV h (mBin .lss (env.get 5) (nat 8))) fun r1 => evC (cx17 call) n17_9 ⟨(Env.put env 10 r1.1), r1.2⟩) := (xSR 4 (cOps (cL n17_8)) (cR n17_8)).trans (by
  refine opsK_0 ?_
  refine oT 9 (env.get 5) ?_
  refine oP 10 fun r1 => ?_
  exact oE)
@[simp] theorem n17_15_eq : evC (cx17 call) n17_15 ⟨env, h⟩ = (bnd (pureV h (mBin .rem (env.get 6) (u8 2#8))) fun r2 => bnd (pureV r2.2 (mBin .shl r2.1 (env.get 5))) fun r4 => bnd (pureV r4.2 (mBin .add (env.get 4) r4.1)) fun r5 => some (.nrm, ⟨(Env.put env 4 r5.1), r5.2⟩)) := (xR 7 (cOps n17_15)).trans (by
  refine opsK_0 ?_
  refine oT 43 (env.get 4) ?_
  refine oT 44 (env.get 6) ?_
  refine oP 45 fun r2 => ?_
  refine oT 46 (env.get 5) ?_
  refine oP 47 fun r4 => ?_
  refine oP 48 fun r5 => ?_
  refine oT 4 r5.1 ?_
  exact oE)
theorem n17_14_ok : drawOk (cOps (cL n17_14)).toList = true := by kernel_rfl
@[simp] theorem n17_14_eq : evC (cx17 call) n17_14 ⟨env, h⟩ = (bnd (pureV h (mBin .shr (env.get 3) (env.get 5))) fun r2 => bnd (pureV r2.2 (mBin .add (env.get 5) (nat 4))) fun r5 => bnd (pureV r5.2 (mBin .rem r5.1 (nat 8))) fun r6 => bnd (pureV r6.2 (mBin .shr (env.get 3) r6.1)) fun r7 => bnd (pureV r7.2 (mBin .xor r2.1 r7.1)) fun r8 => bnd (pureV r8.2 (mBin .add (env.get 5) (nat 5))) fun r11 => bnd (pureV r11.2 (mBin .rem r11.1 (nat 8))) fun r12 => bnd (pureV r12.2 (mBin .shr (env.get 3) r12.1)) fun r13 => bnd (pureV r13.2 (mBin .xor r8.1 r13.1)) fun r14 => bnd (pureV r14.2 (mBin .add (env.get 5) (nat 6))) fun r17 => bnd (pureV r17.2 (mBin .rem r17.1 (nat 8))) fun r18 => bnd (pureV r18.2 (mBin .shr (env.get 3) r18.1)) fun r19 => bnd (pureV r19.2 (mBin .xor r14.1 r19.1)) fun r20 => bnd (pureV r20.2 (mBin .add (env.get 5) (nat 7))) fun r23 => bnd (pureV r23.2 (mBin .rem r23.1 (nat 8))) fun r24 => bnd (pureV r24.2 (mBin .shr (env.get 3) r24.1)) fun r25 => bnd (pureV r25.2 (mBin .xor r20.1 r25.1)) fun r26 => bnd (pureV r26.2 (mBin .shr (u8 99#8) (env.get 5))) fun r28 => bnd (pureV r28.2 (mBin .xor r26.1 r28.1)) fun r29 => evC (cx17 call) n17_15 ⟨(Env.put env 6 r29.1), r29.2⟩) := (xSD 6 (cOps (cL n17_14)) (cR n17_14) n17_14_ok).trans (by
  refine opsK_0 ?_
  refine oT 13 (env.get 3) ?_
  refine oT 14 (env.get 5) ?_
  refine oP 15 fun r2 => ?_
  refine oT 16 (env.get 3) ?_
  refine oT 17 (env.get 5) ?_
  refine oP 18 fun r5 => ?_
  refine oP 19 fun r6 => ?_
  refine oP 20 fun r7 => ?_
  refine oP 21 fun r8 => ?_
  refine oT 22 (env.get 3) ?_
  refine oT 23 (env.get 5) ?_
  refine oP 24 fun r11 => ?_
  refine oP 25 fun r12 => ?_
  refine oP 26 fun r13 => ?_
  refine oP 27 fun r14 => ?_
  refine oT 28 (env.get 3) ?_
  refine oT 29 (env.get 5) ?_
  refine oP 30 fun r17 => ?_
  refine oP 31 fun r18 => ?_
  refine oP 32 fun r19 => ?_
  refine oP 33 fun r20 => ?_
  refine oT 34 (env.get 3) ?_
  refine oT 35 (env.get 5) ?_
  refine oP 36 fun r23 => ?_
  refine oP 37 fun r24 => ?_
  refine oP 38 fun r25 => ?_
  refine oP 39 fun r26 => ?_
  refine oT 40 (env.get 5) ?_
  refine oP 41 fun r28 => ?_
  refine oP 42 fun r29 => ?_
  refine oT 6 r29.1 ?_
  exact oE)
@[simp] theorem n17_13_eq : evC (cx17 call) n17_13 s = bnd (evC (cx17 call) n17_14 s) fun r => some (inBlk 1 r) := xB 1 _
@[simp] theorem n17_16_eq : evC (cx17 call) n17_16 ⟨env, h⟩ = (bnd (pureV h (mBin .add (env.get 5) (nat 1))) fun r1 => some (.nrm, ⟨(Env.put env 5 r1.1), r1.2⟩)) := (xR 5 (cOps n17_16)).trans (by
  refine opsK_0 ?_
  refine oT 11 (env.get 5) ?_
  refine oP 12 fun r1 => ?_
  refine oT 5 r1.1 ?_
  exact oE)
@[simp] theorem n17_12_eq : evC (cx17 call) n17_12 s = bnd (evC (cx17 call) n17_13 s) (sqK (evC (cx17 call) n17_16)) := xS _ _
@[simp] theorem n17_7_eq : evC (cx17 call) n17_7 s = bnd (evC (cx17 call) n17_8 s) (sqK (evC (cx17 call) n17_12)) := xS _ _
@[simp] theorem n17_6_eq : evC (cx17 call) n17_6 s = evLoop (evC (cx17 call) n17_7) s := xL _
@[simp] theorem n17_5_eq : evC (cx17 call) n17_5 s = bnd (evC (cx17 call) n17_6 s) fun r => some (inBlk 0 r) := xB 0 _
@[simp] theorem n17_4_eq : evC (cx17 call) n17_4 ⟨env, h⟩ = ( evC (cx17 call) n17_5 ⟨(Env.put env 5 (nat 0)), h⟩) := (xSR 3 (cOps (cL n17_4)) (cR n17_4)).trans (by
  refine opsK_0 ?_
  refine oT 5 (nat 0) ?_
  exact oE)
@[simp] theorem n17_18_eq : evC (cx17 call) n17_18 s = some (.ret, s) := xE
@[simp] theorem n17_17_eq : evC (cx17 call) n17_17 ⟨env, h⟩ = ( evC (cx17 call) n17_18 ⟨(Env.put env 2 (env.get 4)), h⟩) := (xSR 8 (cOps (cL n17_17)) (cR n17_17)).trans (by
  refine opsK_0 ?_
  refine oT 49 (env.get 4) ?_
  refine oT 2 (env.get 4) ?_
  exact oE)
@[simp] theorem n17_3_eq : evC (cx17 call) n17_3 s = bnd (evC (cx17 call) n17_4 s) (sqK (evC (cx17 call) n17_17)) := xS _ _
@[simp] theorem n17_2_eq : evC (cx17 call) n17_2 ⟨env, h⟩ = ( evC (cx17 call) n17_3 ⟨(Env.put env 4 (u8 0#8)), h⟩) := (xSR 2 (cOps (cL n17_2)) (cR n17_2)).trans (by
  refine opsK_0 ?_
  refine oT 4 (u8 0#8) ?_
  exact oE)
@[simp] theorem n17_1_eq : evC (cx17 call) n17_1 ⟨env, h⟩ = (bnd (call 39 [(env.get 0)] h) fun r1 => evC (cx17 call) n17_2 ⟨(Env.put env 3 r1.1), r1.2⟩) := (xSR 1 (cOps (cL n17_1)) (cR n17_1)).trans (by
  refine opsK_0 ?_
  refine oT 7 (env.get 0) ?_
  refine oP 8 fun r1 => ?_
  refine oT 3 r1.1 ?_
  exact oE)
@[simp] theorem n17_0_eq : evC (cx17 call) n17_0 ⟨env, h⟩ = ( evC (cx17 call) n17_1 ⟨(Env.put env 2 (u8 0#8)), h⟩) := (xSR 0 (cOps (cL n17_0)) (cR n17_0)).trans (by
  refine opsK_0 ?_
  refine oT 2 (u8 0#8) ?_
  exact oE)
theorem b17 (call : Calling) (a0 : AV) (h : Heap) : evBody (cx17 call) Try.f17 n17_0 [a0] h = bnd (evC (cx17 call) n17_0 ⟨[(0, a0), (1, .junk), (2, .junk), (3, .junk), (4, .junk), (5, .junk), (6, .junk), (10, .junk)], h⟩) (retK fun s => bnd (bnd (some (s.env.get 2)) fun v => bnd (some []) fun vs => some (v :: vs)) fun vs => some (oneOrTuple vs)) := by kernel_rfl
theorem fn17 : Try.prog.funcs[17]? = some Try.f17 := by kernel_rfl
theorem k17 : Callable Try.prog 17 := ⟨Try.f17, fn17, by kernel_rfl, by kernel_rfl⟩
theorem s17 {call : Calling} (hc : CallOK Try.prog call) {args : List AV} {h h' : Heap} {v : AV} (he : evBody (cx17 call) Try.f17 n17_0 args h = some (v, h')) : Spec Try.prog 17 args h v h' := body_sound (C := cx17 call) TT_ok hc mixed_ok fn17 (by kernel_rfl) (by kernel_rfl) he
def sn17 := Y n17_10_eq (Y n17_11_eq (Y n17_9_eq (Y n17_8_eq (Y n17_15_eq (Y n17_14_eq (Y n17_13_eq (Y n17_16_eq (Y n17_12_eq (Y n17_7_eq (Y n17_6_eq (Y n17_5_eq (Y n17_4_eq (Y n17_18_eq (Y n17_17_eq (Y n17_3_eq (Y n17_2_eq (Y n17_1_eq (n17_0_eq))))))))))))))))))
end
end Go.Vab

/- How the evaluator reads the functions of a seat. Printed by wip/tools/gen.py (own work). -/
namespace Go.Vab
open Go Go.Proofs
noncomputable section
variable (call : Calling) (env : Env) (h : Heap) (s : St)
/-! vestry/vestryref08.Table -/
def cx43 (call : Calling) : Ctx := ⟨call, TT, 13, [3, 5, 6, 7, 8, 9, 10, 11, 12]⟩
def n43_0 : Code := bodyOf Try.f43
def n43_1 : Code := cR n43_0
def n43_2 : Code := cR n43_1
def n43_3 : Code := cL n43_2
def n43_4 : Code := cR n43_3
def n43_5 : Code := cB n43_4
def n43_6 : Code := cB n43_5
def n43_7 : Code := cL n43_6
def n43_8 : Code := cR n43_7
def n43_9 : Code := cL n43_8
def n43_10 : Code := cR n43_8
def n43_11 : Code := cR n43_6
def n43_12 : Code := cL n43_11
def n43_13 : Code := cB n43_12
def n43_14 : Code := cR n43_11
def n43_15 : Code := cR n43_2
def n43_16 : Code := cR n43_15
@[simp] theorem n43_9_eq : evC (cx43 call) n43_9 s = some (.nrm, s) := xK
@[simp] theorem n43_10_eq : evC (cx43 call) n43_10 s = some (.exit 0, s) := xX 0
@[simp] theorem n43_8_eq : evC (cx43 call) n43_8 s = cnd (s.env.get 4) (evC (cx43 call) n43_9 s) (evC (cx43 call) n43_10 s) := xC 4 _ _
@[simp] theorem n43_7_eq : evC (cx43 call) n43_7 ⟨env, h⟩ = (bnd (pureV h (mBin .lss (env.get 2) (nat 256))) fun r1 => evC (cx43 call) n43_8 ⟨(Env.put env 4 r1.1), r1.2⟩) := (xSR 3 (cOps (cL n43_7)) (cR n43_7)).trans (by
  refine opsK_0 ?_
  refine oT 3 (env.get 2) ?_
  refine oP 4 fun r1 => ?_
  exact oE)
@[simp] theorem n43_13_eq : evC (cx43 call) n43_13 ⟨env, h⟩ = (bnd (pureV h (mConv .u8 (env.get 2))) fun r2 => bnd (call 17 [r2.1] r2.2) fun r3 => bnd (pureV r3.2 (mIdxA (.arr 256 (.int .u8)) (env.get 1) (env.get 2))) fun r4 => bnd (stU (.int .u8) r4.1 r3.1 r4.2) fun r5 => some (.nrm, ⟨env, r5.2⟩)) := (xR 5 (cOps n43_13)).trans (by
  refine opsK_0 ?_
  refine oT 7 (env.get 2) ?_
  refine oT 8 (env.get 2) ?_
  refine oP 9 fun r2 => ?_
  refine oP 10 fun r3 => ?_
  refine oP 11 fun r4 => ?_
  refine oN fun r5 => ?_
  exact oE)
@[simp] theorem n43_12_eq : evC (cx43 call) n43_12 s = bnd (evC (cx43 call) n43_13 s) fun r => some (inBlk 1 r) := xB 1 _
@[simp] theorem n43_14_eq : evC (cx43 call) n43_14 ⟨env, h⟩ = (bnd (pureV h (mBin .add (env.get 2) (nat 1))) fun r1 => some (.nrm, ⟨(Env.put env 2 r1.1), r1.2⟩)) := (xR 4 (cOps n43_14)).trans (by
  refine opsK_0 ?_
  refine oT 5 (env.get 2) ?_
  refine oP 6 fun r1 => ?_
  refine oT 2 r1.1 ?_
  exact oE)
@[simp] theorem n43_11_eq : evC (cx43 call) n43_11 s = bnd (evC (cx43 call) n43_12 s) (sqK (evC (cx43 call) n43_14)) := xS _ _
@[simp] theorem n43_6_eq : evC (cx43 call) n43_6 s = bnd (evC (cx43 call) n43_7 s) (sqK (evC (cx43 call) n43_11)) := xS _ _
@[simp] theorem n43_5_eq : evC (cx43 call) n43_5 s = evLoop (evC (cx43 call) n43_6) s := xL _
@[simp] theorem n43_4_eq : evC (cx43 call) n43_4 s = bnd (evC (cx43 call) n43_5 s) fun r => some (inBlk 0 r) := xB 0 _
@[simp] theorem n43_3_eq : evC (cx43 call) n43_3 ⟨env, h⟩ = ( evC (cx43 call) n43_4 ⟨(Env.put env 2 (nat 0)), h⟩) := (xSR 2 (cOps (cL n43_3)) (cR n43_3)).trans (by
  refine opsK_0 ?_
  refine oT 2 (nat 0) ?_
  exact oE)
@[simp] theorem n43_16_eq : evC (cx43 call) n43_16 s = some (.ret, s) := xE
@[simp] theorem n43_15_eq : evC (cx43 call) n43_15 ⟨env, h⟩ = (bnd (pureV h (mLoad (.arr 256 (.int .u8)) (env.get 1) h)) fun r0 => bnd (stU (.arr 256 (.int .u8)) (env.get 0) r0.1 r0.2) fun r1 => evC (cx43 call) n43_16 ⟨env, r1.2⟩) := (xSR 6 (cOps (cL n43_15)) (cR n43_15)).trans (by
  refine opsK_0 ?_
  refine oP 12 fun r0 => ?_
  refine oN fun r1 => ?_
  exact oE)
@[simp] theorem n43_2_eq : evC (cx43 call) n43_2 s = bnd (evC (cx43 call) n43_3 s) (sqK (evC (cx43 call) n43_15)) := xS _ _
@[simp] theorem n43_1_eq : evC (cx43 call) n43_1 ⟨env, h⟩ = (bnd (mNew (.arr 256 (.int .u8)) (arr 256 fun _ => 0#8) h) fun r0 => evC (cx43 call) n43_2 ⟨(Env.put env 1 r0.1), r0.2⟩) := (xSR 1 (cOps (cL n43_1)) (cR n43_1)).trans (by
  refine opsK_0 ?_
  refine oP 1 fun r0 => ?_
  exact oE)
@[simp] theorem n43_0_eq : evC (cx43 call) n43_0 ⟨env, h⟩ = (bnd (mNew (.arr 256 (.int .u8)) (arr 256 fun _ => 0#8) h) fun r0 => evC (cx43 call) n43_1 ⟨(Env.put env 0 r0.1), r0.2⟩) := (xSR 0 (cOps (cL n43_0)) (cR n43_0)).trans (by
  refine opsK_0 ?_
  refine oP 0 fun r0 => ?_
  exact oE)
theorem b43 (call : Calling) (h : Heap) : evBody (cx43 call) Try.f43 n43_0 [] h = bnd (evC (cx43 call) n43_0 ⟨[(0, .junk), (1, .junk), (2, .junk), (4, .junk)], h⟩) (retK fun s => bnd (bnd (mLoad (.arr 256 (.int .u8)) (s.env.get 0) s.heap) fun v => bnd (some []) fun vs => some (v :: vs)) fun vs => some (oneOrTuple vs)) := by kernel_rfl
theorem fn43 : Try.prog.funcs[43]? = some Try.f43 := by kernel_rfl
theorem k43 : Callable Try.prog 43 := ⟨Try.f43, fn43, by kernel_rfl, by kernel_rfl⟩
theorem s43 {call : Calling} (hc : CallOK Try.prog call) {args : List AV} {h h' : Heap} {v : AV} (he : evBody (cx43 call) Try.f43 n43_0 args h = some (v, h')) : Spec Try.prog 43 args h v h' := body_sound (C := cx43 call) TT_ok hc mixed_ok fn43 (by kernel_rfl) (by kernel_rfl) he
def sn43 := Y n43_9_eq (Y n43_10_eq (Y n43_8_eq (Y n43_7_eq (Y n43_13_eq (Y n43_12_eq (Y n43_14_eq (Y n43_11_eq (Y n43_6_eq (Y n43_5_eq (Y n43_4_eq (Y n43_3_eq (Y n43_16_eq (Y n43_15_eq (Y n43_2_eq (Y n43_1_eq (n43_0_eq))))))))))))))))
end
end Go.Vab

/-
  The document's product, inverse, substitute and table, walked.
-/
namespace Go.Vab
open Go Go.Proofs

theorem bit_u8 (b : BitVec 8) (i : Nat) : (b >>> i % 2#8 = 1#8) ↔ b.toNat.testBit i = true := by
  rw [← BitVec.toNat_inj]
  simp [Nat.testBit_eq_decide_div_mod_eq, Nat.shiftRight_eq_div_pow]
theorem bit_nat (p i : Nat) : (p >>> i % 2 = 1) ↔ p.testBit i = true := by
  simp [Nat.testBit_eq_decide_div_mod_eq, Nat.shiftRight_eq_div_pow]

theorem walk15 (call : Calling) (a b : BitVec 8) (h : Heap) : evBody (cx15 call) Try.f15 n15_0 [u8 a, u8 b] h = some (u8 (mulB a b), h) := by
  rw [b15]
  have L1 : ∃ r, evLoop (evC (cx15 call) n15_6) ⟨[(0, u8 a), (1, u8 b), (2, .junk), (3, .junk), (4, u8 0#8), (5, nat 0), (6, nat 0), (7, .junk), (9, .junk), (16, .junk), (24, .junk), (31, .junk)], h⟩ = some r ∧
      ∃ y6 y9 y16, r = (.exit 0, ⟨[(0, u8 a), (1, u8 b), (2, .junk), (3, .junk), (4, u8 0#8), (5, nat (rP a.toNat b.toNat 8)), (6, y6), (7, .junk), (9, y9), (16, y16), (24, .junk), (31, .junk)], h⟩) := by
    refine evLoop_up 8 (fun i s => ∃ y9 y16, s = ⟨[(0, u8 a), (1, u8 b), (2, .junk), (3, .junk), (4, u8 0#8), (5, nat (rP a.toNat b.toNat i)), (6, nat i), (7, .junk), (9, y9), (16, y16), (24, .junk), (31, .junk)], h⟩) ?_ ?_ ⟨_, _, rfl⟩
    · rintro i s hi ⟨y9, y16, rfl⟩
      have e1 : mBin .add (nat i) (nat 1) = some (nat (i + 1)) := nat_add (by omega)
      have e2 : mBin .rem (u8 (b >>> i)) (u8 2#8) = some (u8 (b >>> i % 2#8)) := u8_rem _ _ (by decide)
      have ha := a.isLt
      have hp : a.toNat * 2 ^ i ≤ 255 * 2 ^ 7 := Nat.mul_le_mul (by omega) (Nat.pow_le_pow_right (by decide) (by omega))
      have e3 : mBin .shl (nat a.toNat) (nat i) = some (nat (a.toNat <<< i)) := nat_shl (by omega) (by omega)
      have h4 := rP_lt a.toNat b.toNat ha i (by omega)
      have e4 : mBin .xor (nat (rP a.toNat b.toNat i)) (nat (a.toNat <<< i)) = some (nat (rP a.toNat b.toNat i ^^^ a.toNat <<< i)) := nat_xor (by omega) (by rw [Nat.shiftLeft_eq]; omega)
      by_cases hb : b.toNat.testBit i = true
      · have e5 : (b >>> i % 2#8 = 1#8) := (bit_u8 b i).2 hb
        refine ex_of (by conv => lhs; simp [Env.get, Env.put, hi, e1, e2, e3, e4, e5]) ?_
        have e9 : rP a.toNat b.toNat (i + 1) = rP a.toNat b.toNat i ^^^ a.toNat <<< i := by simp [rP, hb]
        exact ⟨rfl, _, _, by rw [e9]⟩
      · have e5 : ¬ (b >>> i % 2#8 = 1#8) := fun e => hb ((bit_u8 b i).1 e)
        refine ex_of (by conv => lhs; simp [Env.get, Env.put, hi, e1, e2, e5]) ?_
        have e9 : rP a.toNat b.toNat (i + 1) = rP a.toNat b.toNat i := by simp [rP, hb]
        exact ⟨rfl, _, _, by rw [e9]⟩
    · rintro s ⟨y9, y16, rfl⟩
      refine ex_of (by conv => lhs; simp [Env.get, Env.put]) ?_
      exact ⟨by simp, _, _, _, rfl⟩
  obtain ⟨r1, hr1, y6, y9, y16, rfl⟩ := L1
  have L2 : ∃ r, evLoop (evC (cx15 call) n15_22) ⟨[(0, u8 a), (1, u8 b), (2, .junk), (3, .junk), (4, u8 0#8), (5, nat (rP a.toNat b.toNat 8)), (6, y6), (7, nat 14), (9, y9), (16, y16), (24, .junk), (31, .junk)], h⟩ = some r ∧
      ∃ y7 y24 y31, r = (.exit 2, ⟨[(0, u8 a), (1, u8 b), (2, .junk), (3, .junk), (4, u8 0#8), (5, nat (rR (rP a.toNat b.toNat 8) 7)), (6, y6), (7, y7), (9, y9), (16, y16), (24, y24), (31, y31)], h⟩) := by
    refine evLoop_up 7 (fun n s => ∃ y24 y31, s = ⟨[(0, u8 a), (1, u8 b), (2, .junk), (3, .junk), (4, u8 0#8), (5, nat (rR (rP a.toNat b.toNat 8) n)), (6, y6), (7, nat (14 - n)), (9, y9), (16, y16), (24, y24), (31, y31)], h⟩) ?_ ?_ ⟨_, _, rfl⟩
    · rintro n s hn ⟨y24, y31, rfl⟩
      have h4 := rR_lt _ (rP_lt a.toNat b.toNat a.isLt 8 (by omega)) n (by omega)
      have e0 : 8 ≤ 14 - n := by omega
      have e1 : mBin .sub (nat (14 - n)) (nat 1) = some (nat (14 - (n + 1))) := nat_sub (by omega) (by omega)
      have e2 : mBin .shr (nat (rR (rP a.toNat b.toNat 8) n)) (nat (14 - n)) = some (nat (rR (rP a.toNat b.toNat 8) n >>> (14 - n))) := nat_shr_nat (by omega)
      have e3 : mBin .rem (nat (rR (rP a.toNat b.toNat 8) n >>> (14 - n))) (nat 2) = some (nat (rR (rP a.toNat b.toNat 8) n >>> (14 - n) % 2)) := nat_rem (by omega)
      have e6 : mBin .sub (nat (14 - n)) (nat 8) = some (nat (6 - n)) := by rw [nat_sub (by omega) (by omega), show 14 - n - 8 = 6 - n by omega]
      have hp : 283 * 2 ^ (6 - n) ≤ 283 * 2 ^ 6 := Nat.mul_le_mul (by omega) (Nat.pow_le_pow_right (by decide) (by omega))
      have e7 : mBin .shl (nat 283) (nat (6 - n)) = some (nat (283 <<< (6 - n))) := nat_shl (by omega) (by omega)
      have e8 : mBin .xor (nat (rR (rP a.toNat b.toNat 8) n)) (nat (283 <<< (6 - n))) = some (nat (rR (rP a.toNat b.toNat 8) n ^^^ 283 <<< (6 - n))) := nat_xor (by omega) (by rw [Nat.shiftLeft_eq]; omega)
      by_cases hb : (rR (rP a.toNat b.toNat 8) n).testBit (14 - n) = true
      · have e5 := (bit_nat _ _).2 hb
        refine ex_of (by conv => lhs; simp [Env.get, Env.put, e0, e1, e2, e3, e5, e6, e7, e8]) ?_
        have e9 : rR (rP a.toNat b.toNat 8) (n + 1) = rR (rP a.toNat b.toNat 8) n ^^^ 283 <<< (6 - n) := by simp [rR, hb]
        exact ⟨rfl, _, _, by rw [e9, show 14 - (n + 1) = 13 - n by omega]⟩
      · have e5 : ¬ (rR (rP a.toNat b.toNat 8) n >>> (14 - n) % 2 = 1) := fun e => hb ((bit_nat _ _).1 e)
        refine ex_of (by conv => lhs; simp [Env.get, Env.put, e0, e1, e2, e3, e5]) ?_
        have e9 : rR (rP a.toNat b.toNat 8) (n + 1) = rR (rP a.toNat b.toNat 8) n := by simp [rR, hb]
        exact ⟨rfl, _, _, by rw [e9, show 14 - (n + 1) = 13 - n by omega]⟩
    · rintro s ⟨y24, y31, rfl⟩
      refine ex_of (by conv => lhs; simp [Env.get, Env.put]) ?_
      exact ⟨by simp, _, _, _, rfl⟩
  obtain ⟨r2, hr2, y7, y24, y31, rfl⟩ := L2
  have := rMul_eq a b
  unfold rMul at this
  simp [Env.get, Env.put, hr1, hr2, oneOrTuple, this]

noncomputable def c15 := conC (fun p : BitVec 8 × BitVec 8 => [u8 p.1, u8 p.2]) (fun _ _ => True) (fun p h => (u8 (mulB p.1 p.2), h))
noncomputable def callA8 : Calling := addC callA7 15 c15
theorem c15_eq (a b : BitVec 8) (h : Heap) : c15 [u8 a, u8 b] h = some (u8 (mulB a b), h) :=
  conC_eq (enc := fun p : BitVec 8 × BitVec 8 => [u8 p.1, u8 p.2]) (a := (a, b)) (f := fun p h => (u8 (mulB p.1 p.2), h)) (fun x y h e => by simp [u8_inj] at e; rw [e.1, e.2]) trivial
theorem callA8_ok : CallOK Try.prog callA8 := addC_con callA7_ok k15 fun p h _ => s15 callA7_ok (walk15 _ p.1 p.2 h)
@[simp] theorem callA8_15 (a b : BitVec 8) (h : Heap) : callA8 15 [u8 a, u8 b] h = some (u8 (mulB a b), h) := by simp [callA8, addC, c15_eq]

theorem ofNat8_eq {i j : Nat} (hi : i < 256) (hj : j < 256) (h : BitVec.ofNat 8 i = BitVec.ofNat 8 j) : i = j := by
  have := congrArg BitVec.toNat h
  simpa [Nat.mod_eq_of_lt hi, Nat.mod_eq_of_lt hj] using this

theorem walk39 (a : BitVec 8) (h : Heap) : evBody (cx39 callA8) Try.f39 n39_0 [u8 a] h = some (u8 (invB a), h) := by
  rw [b39]
  by_cases ha : a = 0#8
  · subst ha
    have L : ∃ r, evLoop (evC (cx39 callA8) n39_5) ⟨[(0, u8 0#8), (1, .junk), (2, u8 0#8), (3, nat 0), (5, .junk), (12, .junk)], h⟩ = some r ∧
        ∃ y3 y5 y12, r = (.exit 0, ⟨[(0, u8 0#8), (1, .junk), (2, u8 0#8), (3, y3), (5, y5), (12, y12)], h⟩) := by
      refine evLoop_up 256 (fun i s => ∃ y5 y12, s = ⟨[(0, u8 0#8), (1, .junk), (2, u8 0#8), (3, nat i), (5, y5), (12, y12)], h⟩) ?_ ?_ ⟨_, _, rfl⟩
      · rintro i s hi ⟨y5, y12, rfl⟩
        have e1 : mBin .add (nat i) (nat 1) = some (nat (i + 1)) := nat_add (by omega)
        refine ex_of (by conv => lhs; simp [Env.get, Env.put, hi, e1, zero_mul]) ?_
        exact ⟨rfl, _, _, rfl⟩
      · rintro s ⟨y5, y12, rfl⟩
        refine ex_of (by conv => lhs; simp [Env.get, Env.put]) ?_
        exact ⟨by simp, _, _, _, rfl⟩
    obtain ⟨r, hr, y3, y5, y12, rfl⟩ := L
    simp [Env.get, Env.put, hr, oneOrTuple, inv_zero]
  · have L : ∃ r, evLoop (evC (cx39 callA8) n39_5) ⟨[(0, u8 a), (1, .junk), (2, u8 0#8), (3, nat 0), (5, .junk), (12, .junk)], h⟩ = some r ∧
        ∃ y3 y5 y12, r = (.ret, ⟨[(0, u8 a), (1, .junk), (2, u8 (invB a)), (3, y3), (5, y5), (12, y12)], h⟩) := by
      refine evLoop_up (invB a).toNat (fun i s => ∃ y5 y12, s = ⟨[(0, u8 a), (1, .junk), (2, u8 0#8), (3, nat i), (5, y5), (12, y12)], h⟩) ?_ ?_ ⟨_, _, rfl⟩
      · rintro i s hi ⟨y5, y12, rfl⟩
        have hl := (invB a).isLt
        have e0 : i < 256 := by omega
        have e1 : mBin .add (nat i) (nat 1) = some (nat (i + 1)) := nat_add (by omega)
        have e2 : ¬ mulB a (BitVec.ofNat 8 i) = 1#8 := fun e => by
          have := inv_unique e
          rw [← this, BitVec.toNat_ofNat] at hi
          have := Nat.mod_le i (2 ^ 8)
          omega
        refine ex_of (by conv => lhs; simp [Env.get, Env.put, e0, e1, e2]) ?_
        exact ⟨rfl, _, _, rfl⟩
      · rintro s ⟨y5, y12, rfl⟩
        have hl := (invB a).isLt
        have e3 := inv_mul' ha
        refine ex_of (by conv => lhs; simp [Env.get, Env.put, hl, e3]) ?_
        exact ⟨by simp, _, _, _, rfl⟩
    obtain ⟨r, hr, y3, y5, y12, rfl⟩ := L
    simp [Env.get, Env.put, hr, oneOrTuple]

noncomputable def c39 := conC (fun a : BitVec 8 => [u8 a]) (fun _ _ => True) (fun a h => (u8 (invB a), h))
noncomputable def callA9 : Calling := addC callA8 39 c39
theorem c39_eq (a : BitVec 8) (h : Heap) : c39 [u8 a] h = some (u8 (invB a), h) :=
  conC_eq (enc := fun a : BitVec 8 => [u8 a]) (a := a) (f := fun a h => (u8 (invB a), h)) (fun x y h e => by simp [u8_inj] at e; rw [e]) trivial
theorem callA9_ok : CallOK Try.prog callA9 := addC_con callA8_ok k39 fun p h _ => s39 callA8_ok (walk39 p h)
@[simp] theorem callA9_39 (a : BitVec 8) (h : Heap) : callA9 39 [u8 a] h = some (u8 (invB a), h) := by simp [callA9, addC, c39_eq]

theorem walk17 (a : BitVec 8) (h : Heap) : evBody (cx17 callA9) Try.f17 n17_0 [u8 a] h = some (u8 (subB a), h) := by
  rw [b17]
  have L : ∃ r, evLoop (evC (cx17 callA9) n17_7) ⟨[(0, u8 a), (1, .junk), (2, u8 0#8), (3, u8 (invB a)), (4, u8 0#8), (5, nat 0), (6, .junk), (10, .junk)], h⟩ = some r ∧
      ∃ y5 y6 y10, r = (.exit 0, ⟨[(0, u8 a), (1, .junk), (2, u8 0#8), (3, u8 (invB a)), (4, u8 (rSubF (invB a) 8)), (5, y5), (6, y6), (10, y10)], h⟩) := by
    refine evLoop_up 8 (fun i s => ∃ y6 y10, s = ⟨[(0, u8 a), (1, .junk), (2, u8 0#8), (3, u8 (invB a)), (4, u8 (rSubF (invB a) i)), (5, nat i), (6, y6), (10, y10)], h⟩) ?_ ?_ ⟨_, _, rfl⟩
    · rintro i s hi ⟨y6, y10, rfl⟩
      have e1 : mBin .add (nat i) (nat 1) = some (nat (i + 1)) := nat_add (by omega)
      have e4 : mBin .add (nat i) (nat 4) = some (nat (i + 4)) := nat_add (by omega)
      have e5 : mBin .add (nat i) (nat 5) = some (nat (i + 5)) := nat_add (by omega)
      have e6 : mBin .add (nat i) (nat 6) = some (nat (i + 6)) := nat_add (by omega)
      have e7 : mBin .add (nat i) (nat 7) = some (nat (i + 7)) := nat_add (by omega)
      have e8 : ∀ k, mBin .rem (nat k) (nat 8) = some (nat (k % 8)) := fun k => nat_rem (by omega)
      have e9 : ∀ x : BitVec 8, mBin .rem (u8 x) (u8 2#8) = some (u8 (x % 2#8)) := fun x => u8_rem _ _ (by decide)
      refine ex_of (by conv => lhs; simp [Env.get, Env.put, hi, e1, e4, e5, e6, e7, e8, e9]) ?_
      exact ⟨rfl, _, _, rfl⟩
    · rintro s ⟨y6, y10, rfl⟩
      refine ex_of (by conv => lhs; simp [Env.get, Env.put]) ?_
      exact ⟨by simp, _, _, _, rfl⟩
  obtain ⟨r, hr, y5, y6, y10, rfl⟩ := L
  have := rSub_eq a
  simp [Env.get, Env.put, hr, oneOrTuple, this]

noncomputable def c17 := conC (fun a : BitVec 8 => [u8 a]) (fun _ _ => True) (fun a h => (u8 (subB a), h))
noncomputable def callA10 : Calling := addC callA9 17 c17
theorem c17_eq (a : BitVec 8) (h : Heap) : c17 [u8 a] h = some (u8 (subB a), h) :=
  conC_eq (enc := fun a : BitVec 8 => [u8 a]) (a := a) (f := fun a h => (u8 (subB a), h)) (fun x y h e => by simp [u8_inj] at e; rw [e]) trivial
theorem callA10_ok : CallOK Try.prog callA10 := addC_con callA9_ok k17 fun p h _ => s17 callA9_ok (walk17 p h)
@[simp] theorem callA10_17 (a : BitVec 8) (h : Heap) : callA10 17 [u8 a] h = some (u8 (subB a), h) := by simp [callA10, addC, c17_eq]

end Go.Vab

/- How the evaluator reads the functions of a seat. Printed by wip/tools/gen.py (own work). -/
namespace Go.Vab
open Go Go.Proofs
noncomputable section
variable (call : Calling) (env : Env) (h : Heap) (s : St)
/-! vestry/vestryref08.words -/
def cx44 (call : Calling) : Ctx := ⟨call, TT, 82, [11, 13, 14, 15, 17, 18, 19, 21, 22, 23, 24, 25, 26, 27, 28, 29, 30, 31, 32, 33, 34, 35, 36, 37, 38, 40, 41, 42, 43, 44, 45, 46, 47, 48, 49, 50, 52, 53, 54, 56, 57, 58, 59, 60, 61, 62, 63, 64, 66, 67, 68, 69, 70, 71, 72, 73, 74, 75, 76, 77, 78, 79, 80, 81]⟩
def n44_0 : Code := bodyOf Try.f44
def n44_1 : Code := cR n44_0
def n44_2 : Code := cR n44_1
def n44_3 : Code := cL n44_2
def n44_4 : Code := cR n44_3
def n44_5 : Code := cB n44_4
def n44_6 : Code := cB n44_5
def n44_7 : Code := cL n44_6
def n44_8 : Code := cR n44_7
def n44_9 : Code := cL n44_8
def n44_10 : Code := cR n44_8
def n44_11 : Code := cR n44_6
def n44_12 : Code := cL n44_11
def n44_13 : Code := cB n44_12
def n44_14 : Code := cR n44_13
def n44_15 : Code := cB n44_14
def n44_16 : Code := cB n44_15
def n44_17 : Code := cL n44_16
def n44_18 : Code := cR n44_17
def n44_19 : Code := cL n44_18
def n44_20 : Code := cR n44_18
def n44_21 : Code := cR n44_16
def n44_22 : Code := cL n44_21
def n44_23 : Code := cB n44_22
def n44_24 : Code := cL n44_23
def n44_25 : Code := cR n44_24
def n44_26 : Code := cL n44_25
def n44_27 : Code := cR n44_26
def n44_28 : Code := cR n44_25
def n44_29 : Code := cR n44_23
def n44_30 : Code := cR n44_29
def n44_31 : Code := cL n44_30
def n44_32 : Code := cR n44_31
def n44_33 : Code := cL n44_32
def n44_34 : Code := cR n44_33
def n44_35 : Code := cR n44_34
def n44_36 : Code := cL n44_35
def n44_37 : Code := cR n44_36
def n44_38 : Code := cL n44_37
def n44_39 : Code := cR n44_38
def n44_40 : Code := cB n44_39
def n44_41 : Code := cB n44_40
def n44_42 : Code := cL n44_41
def n44_43 : Code := cR n44_42
def n44_44 : Code := cL n44_43
def n44_45 : Code := cR n44_43
def n44_46 : Code := cR n44_41
def n44_47 : Code := cL n44_46
def n44_48 : Code := cB n44_47
def n44_49 : Code := cR n44_46
def n44_50 : Code := cR n44_37
def n44_51 : Code := cR n44_35
def n44_52 : Code := cR n44_32
def n44_53 : Code := cR n44_52
def n44_54 : Code := cL n44_53
def n44_55 : Code := cR n44_53
def n44_56 : Code := cR n44_30
def n44_57 : Code := cR n44_21
def n44_58 : Code := cR n44_11
def n44_59 : Code := cR n44_2
def n44_60 : Code := cR n44_59
@[simp] theorem n44_9_eq : evC (cx44 call) n44_9 s = some (.nrm, s) := xK
@[simp] theorem n44_10_eq : evC (cx44 call) n44_10 s = some (.exit 0, s) := xX 0
@[simp] theorem n44_8_eq : evC (cx44 call) n44_8 s = cnd (s.env.get 12) (evC (cx44 call) n44_9 s) (evC (cx44 call) n44_10 s) := xC 12 _ _
@[simp] theorem n44_7_eq : evC (cx44 call) n44_7 ⟨env, h⟩ = (bnd (pureV h (mBin .lss (env.get 6) (nat 60))) fun r1 => evC (cx44 call) n44_8 ⟨(Env.put env 12 r1.1), r1.2⟩) := (xSR 3 (cOps (cL n44_7)) (cR n44_7)).trans (by
  refine opsK_0 ?_
  refine oT 11 (env.get 6) ?_
  refine oP 12 fun r1 => ?_
  exact oE)
@[simp] theorem n44_19_eq : evC (cx44 call) n44_19 s = some (.nrm, s) := xK
@[simp] theorem n44_20_eq : evC (cx44 call) n44_20 s = some (.exit 2, s) := xX 2
@[simp] theorem n44_18_eq : evC (cx44 call) n44_18 s = cnd (s.env.get 16) (evC (cx44 call) n44_19 s) (evC (cx44 call) n44_20 s) := xC 16 _ _
@[simp] theorem n44_17_eq : evC (cx44 call) n44_17 ⟨env, h⟩ = (bnd (pureV h (mBin .lss (env.get 7) (nat 4))) fun r1 => evC (cx44 call) n44_18 ⟨(Env.put env 16 r1.1), r1.2⟩) := (xSR 6 (cOps (cL n44_17)) (cR n44_17)).trans (by
  refine opsK_0 ?_
  refine oT 15 (env.get 7) ?_
  refine oP 16 fun r1 => ?_
  exact oE)
@[simp] theorem n44_27_eq : evC (cx44 call) n44_27 s = some (.exit 3, s) := xX 3
theorem n44_26_ok : drawOk (cOps (cL n44_26)).toList = true := by kernel_rfl
@[simp] theorem n44_26_eq : evC (cx44 call) n44_26 ⟨env, h⟩ = (bnd (pureV h (mBin .mul (nat 4) (env.get 6))) fun r3 => bnd (pureV r3.2 (mBin .add r3.1 (env.get 7))) fun r5 => bnd (pureV r5.2 (mIdxA (.arr 32 (.int .u8)) (env.get 2) r5.1)) fun r6 => bnd (pureV r6.2 (mLoad (.int .u8) r6.1 r6.2)) fun r7 => bnd (pureV r7.2 (mIdxA (.arr 60 (.arr 4 (.int .u8))) (env.get 5) (env.get 6))) fun r8 => bnd (pureV r8.2 (mIdxA (.arr 4 (.int .u8)) r8.1 (env.get 7))) fun r9 => bnd (stU (.int .u8) r9.1 r7.1 r9.2) fun r10 => evC (cx44 call) n44_27 ⟨env, r10.2⟩) := (xSD 9 (cOps (cL n44_26)) (cR n44_26) n44_26_ok).trans (by
  refine opsK_0 ?_
  refine oT 21 (env.get 6) ?_
  refine oT 22 (env.get 7) ?_
  refine oT 23 (env.get 6) ?_
  refine oP 24 fun r3 => ?_
  refine oT 25 (env.get 7) ?_
  refine oP 26 fun r5 => ?_
  refine oP 27 fun r6 => ?_
  refine oP 28 fun r7 => ?_
  refine oP 29 fun r8 => ?_
  refine oP 30 fun r9 => ?_
  refine oN fun r10 => ?_
  exact oE)
@[simp] theorem n44_28_eq : evC (cx44 call) n44_28 s = some (.nrm, s) := xK
@[simp] theorem n44_25_eq : evC (cx44 call) n44_25 s = cnd (s.env.get 20) (evC (cx44 call) n44_26 s) (evC (cx44 call) n44_28 s) := xC 20 _ _
@[simp] theorem n44_24_eq : evC (cx44 call) n44_24 ⟨env, h⟩ = (bnd (pureV h (mBin .lss (env.get 6) (nat 8))) fun r1 => evC (cx44 call) n44_25 ⟨(Env.put env 20 r1.1), r1.2⟩) := (xSR 8 (cOps (cL n44_24)) (cR n44_24)).trans (by
  refine opsK_0 ?_
  refine oT 19 (env.get 6) ?_
  refine oP 20 fun r1 => ?_
  exact oE)
@[simp] theorem n44_44_eq : evC (cx44 call) n44_44 s = some (.nrm, s) := xK
@[simp] theorem n44_45_eq : evC (cx44 call) n44_45 s = some (.exit 4, s) := xX 4
@[simp] theorem n44_43_eq : evC (cx44 call) n44_43 s = cnd (s.env.get 55) (evC (cx44 call) n44_44 s) (evC (cx44 call) n44_45 s) := xC 55 _ _
@[simp] theorem n44_42_eq : evC (cx44 call) n44_42 ⟨env, h⟩ = (bnd (pureV h (mBin .quo (env.get 6) (nat 8))) fun r2 => bnd (pureV r2.2 (mBin .lss (env.get 10) r2.1)) fun r3 => evC (cx44 call) n44_43 ⟨(Env.put env 55 r3.1), r3.2⟩) := (xSR 16 (cOps (cL n44_42)) (cR n44_42)).trans (by
  refine opsK_0 ?_
  refine oT 52 (env.get 10) ?_
  refine oT 53 (env.get 6) ?_
  refine oP 54 fun r2 => ?_
  refine oP 55 fun r3 => ?_
  exact oE)
@[simp] theorem n44_48_eq : evC (cx44 call) n44_48 ⟨env, h⟩ = (bnd (call 15 [(env.get 9), (u8 2#8)] h) fun r1 => some (.nrm, ⟨(Env.put env 9 r1.1), r1.2⟩)) := (xR 18 (cOps n44_48)).trans (by
  refine opsK_0 ?_
  refine oT 58 (env.get 9) ?_
  refine oP 59 fun r1 => ?_
  refine oT 9 r1.1 ?_
  exact oE)
@[simp] theorem n44_47_eq : evC (cx44 call) n44_47 s = bnd (evC (cx44 call) n44_48 s) fun r => some (inBlk 5 r) := xB 5 _
@[simp] theorem n44_49_eq : evC (cx44 call) n44_49 ⟨env, h⟩ = (bnd (pureV h (mBin .add (env.get 10) (nat 1))) fun r1 => some (.nrm, ⟨(Env.put env 10 r1.1), r1.2⟩)) := (xR 17 (cOps n44_49)).trans (by
  refine opsK_0 ?_
  refine oT 56 (env.get 10) ?_
  refine oP 57 fun r1 => ?_
  refine oT 10 r1.1 ?_
  exact oE)
@[simp] theorem n44_46_eq : evC (cx44 call) n44_46 s = bnd (evC (cx44 call) n44_47 s) (sqK (evC (cx44 call) n44_49)) := xS _ _
@[simp] theorem n44_41_eq : evC (cx44 call) n44_41 s = bnd (evC (cx44 call) n44_42 s) (sqK (evC (cx44 call) n44_46)) := xS _ _
@[simp] theorem n44_40_eq : evC (cx44 call) n44_40 s = evLoop (evC (cx44 call) n44_41) s := xL _
@[simp] theorem n44_39_eq : evC (cx44 call) n44_39 s = bnd (evC (cx44 call) n44_40 s) fun r => some (inBlk 4 r) := xB 4 _
@[simp] theorem n44_38_eq : evC (cx44 call) n44_38 ⟨env, h⟩ = ( evC (cx44 call) n44_39 ⟨(Env.put env 10 (nat 1)), h⟩) := (xSR 15 (cOps (cL n44_38)) (cR n44_38)).trans (by
  refine opsK_0 ?_
  refine oT 10 (nat 1) ?_
  exact oE)
@[simp] theorem n44_50_eq : evC (cx44 call) n44_50 ⟨env, h⟩ = (bnd (pureV h (mBin .xor (env.get 8) (env.get 9))) fun r2 => some (.nrm, ⟨(Env.put env 8 r2.1), r2.2⟩)) := (xR 19 (cOps n44_50)).trans (by
  refine opsK_0 ?_
  refine oT 60 (env.get 8) ?_
  refine oT 61 (env.get 9) ?_
  refine oP 62 fun r2 => ?_
  refine oT 8 r2.1 ?_
  exact oE)
@[simp] theorem n44_37_eq : evC (cx44 call) n44_37 s = bnd (evC (cx44 call) n44_38 s) (sqK (evC (cx44 call) n44_50)) := xS _ _
@[simp] theorem n44_36_eq : evC (cx44 call) n44_36 ⟨env, h⟩ = ( evC (cx44 call) n44_37 ⟨(Env.put env 9 (u8 1#8)), h⟩) := (xSR 14 (cOps (cL n44_36)) (cR n44_36)).trans (by
  refine opsK_0 ?_
  refine oT 9 (u8 1#8) ?_
  exact oE)
@[simp] theorem n44_51_eq : evC (cx44 call) n44_51 s = some (.nrm, s) := xK
@[simp] theorem n44_35_eq : evC (cx44 call) n44_35 s = cnd (s.env.get 51) (evC (cx44 call) n44_36 s) (evC (cx44 call) n44_51 s) := xC 51 _ _
@[simp] theorem n44_34_eq : evC (cx44 call) n44_34 ⟨env, h⟩ = (bnd (pureV h (mBin .eql (env.get 7) (nat 0))) fun r1 => evC (cx44 call) n44_35 ⟨(Env.put env 51 r1.1), r1.2⟩) := (xSR 13 (cOps (cL n44_34)) (cR n44_34)).trans (by
  refine opsK_0 ?_
  refine oT 50 (env.get 7) ?_
  refine oP 51 fun r1 => ?_
  exact oE)
@[simp] theorem n44_33_eq : evC (cx44 call) n44_33 ⟨env, h⟩ = (bnd (pureV h (mBin .sub (env.get 6) (nat 1))) fun r1 => bnd (pureV r1.2 (mBin .add (env.get 7) (nat 1))) fun r3 => bnd (pureV r3.2 (mBin .rem r3.1 (nat 4))) fun r4 => bnd (pureV r4.2 (mIdxA (.arr 60 (.arr 4 (.int .u8))) (env.get 5) r1.1)) fun r5 => bnd (pureV r5.2 (mIdxA (.arr 4 (.int .u8)) r5.1 r4.1)) fun r6 => bnd (pureV r6.2 (mLoad (.int .u8) r6.1 r6.2)) fun r7 => bnd (pureV r7.2 (mIdxA (.arr 256 (.int .u8)) (env.get 3) r7.1)) fun r8 => bnd (pureV r8.2 (mLoad (.int .u8) r8.1 r8.2)) fun r9 => evC (cx44 call) n44_34 ⟨(Env.put env 8 r9.1), r9.2⟩) := (xSR 12 (cOps (cL n44_33)) (cR n44_33)).trans (by
  refine opsK_0 ?_
  refine oT 40 (env.get 6) ?_
  refine oP 41 fun r1 => ?_
  refine oT 42 (env.get 7) ?_
  refine oP 43 fun r3 => ?_
  refine oP 44 fun r4 => ?_
  refine oP 45 fun r5 => ?_
  refine oP 46 fun r6 => ?_
  refine oP 47 fun r7 => ?_
  refine oP 48 fun r8 => ?_
  refine oP 49 fun r9 => ?_
  refine oT 8 r9.1 ?_
  exact oE)
@[simp] theorem n44_54_eq : evC (cx44 call) n44_54 ⟨env, h⟩ = (bnd (pureV h (mIdxA (.arr 256 (.int .u8)) (env.get 3) (env.get 8))) fun r1 => bnd (pureV r1.2 (mLoad (.int .u8) r1.1 r1.2)) fun r2 => some (.nrm, ⟨(Env.put env 8 r2.1), r2.2⟩)) := (xR 21 (cOps n44_54)).trans (by
  refine opsK_0 ?_
  refine oT 66 (env.get 8) ?_
  refine oP 67 fun r1 => ?_
  refine oP 68 fun r2 => ?_
  refine oT 8 r2.1 ?_
  exact oE)
@[simp] theorem n44_55_eq : evC (cx44 call) n44_55 s = some (.nrm, s) := xK
@[simp] theorem n44_53_eq : evC (cx44 call) n44_53 s = cnd (s.env.get 65) (evC (cx44 call) n44_54 s) (evC (cx44 call) n44_55 s) := xC 65 _ _
@[simp] theorem n44_52_eq : evC (cx44 call) n44_52 ⟨env, h⟩ = (bnd (pureV h (mBin .rem (env.get 6) (nat 8))) fun r1 => bnd (pureV r1.2 (mBin .eql r1.1 (nat 4))) fun r2 => evC (cx44 call) n44_53 ⟨(Env.put env 65 r2.1), r2.2⟩) := (xSR 20 (cOps (cL n44_52)) (cR n44_52)).trans (by
  refine opsK_0 ?_
  refine oT 63 (env.get 6) ?_
  refine oP 64 fun r1 => ?_
  refine oP 65 fun r2 => ?_
  exact oE)
@[simp] theorem n44_32_eq : evC (cx44 call) n44_32 s = cnd (s.env.get 39) (evC (cx44 call) n44_33 s) (evC (cx44 call) n44_52 s) := xC 39 _ _
@[simp] theorem n44_31_eq : evC (cx44 call) n44_31 ⟨env, h⟩ = (bnd (pureV h (mBin .rem (env.get 6) (nat 8))) fun r1 => bnd (pureV r1.2 (mBin .eql r1.1 (nat 0))) fun r2 => evC (cx44 call) n44_32 ⟨(Env.put env 39 r2.1), r2.2⟩) := (xSR 11 (cOps (cL n44_31)) (cR n44_31)).trans (by
  refine opsK_0 ?_
  refine oT 37 (env.get 6) ?_
  refine oP 38 fun r1 => ?_
  refine oP 39 fun r2 => ?_
  exact oE)
theorem n44_56_ok : drawOk (cOps n44_56).toList = true := by kernel_rfl
@[simp] theorem n44_56_eq : evC (cx44 call) n44_56 ⟨env, h⟩ = (bnd (pureV h (mBin .sub (env.get 6) (nat 8))) fun r3 => bnd (pureV r3.2 (mIdxA (.arr 60 (.arr 4 (.int .u8))) (env.get 5) r3.1)) fun r5 => bnd (pureV r5.2 (mIdxA (.arr 4 (.int .u8)) r5.1 (env.get 7))) fun r6 => bnd (pureV r6.2 (mLoad (.int .u8) r6.1 r6.2)) fun r7 => bnd (pureV r7.2 (mBin .xor r7.1 (env.get 8))) fun r9 => bnd (pureV r9.2 (mIdxA (.arr 60 (.arr 4 (.int .u8))) (env.get 5) (env.get 6))) fun r10 => bnd (pureV r10.2 (mIdxA (.arr 4 (.int .u8)) r10.1 (env.get 7))) fun r11 => bnd (stU (.int .u8) r11.1 r9.1 r11.2) fun r12 => some (.nrm, ⟨env, r12.2⟩)) := (xD 22 (cOps n44_56) n44_56_ok).trans (by
  refine opsK_0 ?_
  refine oT 69 (env.get 6) ?_
  refine oT 70 (env.get 7) ?_
  refine oT 71 (env.get 6) ?_
  refine oP 72 fun r3 => ?_
  refine oT 73 (env.get 7) ?_
  refine oP 74 fun r5 => ?_
  refine oP 75 fun r6 => ?_
  refine oP 76 fun r7 => ?_
  refine oT 77 (env.get 8) ?_
  refine oP 78 fun r9 => ?_
  refine oP 79 fun r10 => ?_
  refine oP 80 fun r11 => ?_
  refine oN fun r12 => ?_
  exact oE)
@[simp] theorem n44_30_eq : evC (cx44 call) n44_30 s = bnd (evC (cx44 call) n44_31 s) (sqK (evC (cx44 call) n44_56)) := xS _ _
@[simp] theorem n44_29_eq : evC (cx44 call) n44_29 ⟨env, h⟩ = (bnd (pureV h (mBin .sub (env.get 6) (nat 1))) fun r1 => bnd (pureV r1.2 (mIdxA (.arr 60 (.arr 4 (.int .u8))) (env.get 5) r1.1)) fun r3 => bnd (pureV r3.2 (mIdxA (.arr 4 (.int .u8)) r3.1 (env.get 7))) fun r4 => bnd (pureV r4.2 (mLoad (.int .u8) r4.1 r4.2)) fun r5 => evC (cx44 call) n44_30 ⟨(Env.put env 8 r5.1), r5.2⟩) := (xSR 10 (cOps (cL n44_29)) (cR n44_29)).trans (by
  refine opsK_0 ?_
  refine oT 31 (env.get 6) ?_
  refine oP 32 fun r1 => ?_
  refine oT 33 (env.get 7) ?_
  refine oP 34 fun r3 => ?_
  refine oP 35 fun r4 => ?_
  refine oP 36 fun r5 => ?_
  refine oT 8 r5.1 ?_
  exact oE)
@[simp] theorem n44_23_eq : evC (cx44 call) n44_23 s = bnd (evC (cx44 call) n44_24 s) (sqK (evC (cx44 call) n44_29)) := xS _ _
@[simp] theorem n44_22_eq : evC (cx44 call) n44_22 s = bnd (evC (cx44 call) n44_23 s) fun r => some (inBlk 3 r) := xB 3 _
@[simp] theorem n44_57_eq : evC (cx44 call) n44_57 ⟨env, h⟩ = (bnd (pureV h (mBin .add (env.get 7) (nat 1))) fun r1 => some (.nrm, ⟨(Env.put env 7 r1.1), r1.2⟩)) := (xR 7 (cOps n44_57)).trans (by
  refine opsK_0 ?_
  refine oT 17 (env.get 7) ?_
  refine oP 18 fun r1 => ?_
  refine oT 7 r1.1 ?_
  exact oE)
@[simp] theorem n44_21_eq : evC (cx44 call) n44_21 s = bnd (evC (cx44 call) n44_22 s) (sqK (evC (cx44 call) n44_57)) := xS _ _
@[simp] theorem n44_16_eq : evC (cx44 call) n44_16 s = bnd (evC (cx44 call) n44_17 s) (sqK (evC (cx44 call) n44_21)) := xS _ _
@[simp] theorem n44_15_eq : evC (cx44 call) n44_15 s = evLoop (evC (cx44 call) n44_16) s := xL _
@[simp] theorem n44_14_eq : evC (cx44 call) n44_14 s = bnd (evC (cx44 call) n44_15 s) fun r => some (inBlk 2 r) := xB 2 _
@[simp] theorem n44_13_eq : evC (cx44 call) n44_13 ⟨env, h⟩ = ( evC (cx44 call) n44_14 ⟨(Env.put env 7 (nat 0)), h⟩) := (xSR 5 (cOps (cL n44_13)) (cR n44_13)).trans (by
  refine opsK_0 ?_
  refine oT 7 (nat 0) ?_
  exact oE)
@[simp] theorem n44_12_eq : evC (cx44 call) n44_12 s = bnd (evC (cx44 call) n44_13 s) fun r => some (inBlk 1 r) := xB 1 _
@[simp] theorem n44_58_eq : evC (cx44 call) n44_58 ⟨env, h⟩ = (bnd (pureV h (mBin .add (env.get 6) (nat 1))) fun r1 => some (.nrm, ⟨(Env.put env 6 r1.1), r1.2⟩)) := (xR 4 (cOps n44_58)).trans (by
  refine opsK_0 ?_
  refine oT 13 (env.get 6) ?_
  refine oP 14 fun r1 => ?_
  refine oT 6 r1.1 ?_
  exact oE)
@[simp] theorem n44_11_eq : evC (cx44 call) n44_11 s = bnd (evC (cx44 call) n44_12 s) (sqK (evC (cx44 call) n44_58)) := xS _ _
@[simp] theorem n44_6_eq : evC (cx44 call) n44_6 s = bnd (evC (cx44 call) n44_7 s) (sqK (evC (cx44 call) n44_11)) := xS _ _
@[simp] theorem n44_5_eq : evC (cx44 call) n44_5 s = evLoop (evC (cx44 call) n44_6) s := xL _
@[simp] theorem n44_4_eq : evC (cx44 call) n44_4 s = bnd (evC (cx44 call) n44_5 s) fun r => some (inBlk 0 r) := xB 0 _
@[simp] theorem n44_3_eq : evC (cx44 call) n44_3 ⟨env, h⟩ = ( evC (cx44 call) n44_4 ⟨(Env.put env 6 (nat 0)), h⟩) := (xSR 2 (cOps (cL n44_3)) (cR n44_3)).trans (by
  refine opsK_0 ?_
  refine oT 6 (nat 0) ?_
  exact oE)
@[simp] theorem n44_60_eq : evC (cx44 call) n44_60 s = some (.ret, s) := xE
@[simp] theorem n44_59_eq : evC (cx44 call) n44_59 ⟨env, h⟩ = (bnd (pureV h (mLoad (.arr 60 (.arr 4 (.int .u8))) (env.get 5) h)) fun r0 => bnd (stU (.arr 60 (.arr 4 (.int .u8))) (env.get 4) r0.1 r0.2) fun r1 => evC (cx44 call) n44_60 ⟨env, r1.2⟩) := (xSR 23 (cOps (cL n44_59)) (cR n44_59)).trans (by
  refine opsK_0 ?_
  refine oP 81 fun r0 => ?_
  refine oN fun r1 => ?_
  exact oE)
@[simp] theorem n44_2_eq : evC (cx44 call) n44_2 s = bnd (evC (cx44 call) n44_3 s) (sqK (evC (cx44 call) n44_59)) := xS _ _
@[simp] theorem n44_1_eq : evC (cx44 call) n44_1 ⟨env, h⟩ = (bnd (mNew (.arr 60 (.arr 4 (.int .u8))) (mat 60 4 fun _ _ => 0#8) h) fun r0 => evC (cx44 call) n44_2 ⟨(Env.put env 5 r0.1), r0.2⟩) := (xSR 1 (cOps (cL n44_1)) (cR n44_1)).trans (by
  refine opsK_0 ?_
  refine oP 5 fun r0 => ?_
  exact oE)
@[simp] theorem n44_0_eq : evC (cx44 call) n44_0 ⟨env, h⟩ = (bnd (mNew (.arr 32 (.int .u8)) (env.get 0) h) fun r0 => bnd (mNew (.arr 256 (.int .u8)) (env.get 1) r0.2) fun r1 => bnd (mNew (.arr 60 (.arr 4 (.int .u8))) (mat 60 4 fun _ _ => 0#8) r1.2) fun r2 => evC (cx44 call) n44_1 ⟨(Env.put (Env.put (Env.put env 2 r0.1) 3 r1.1) 4 r2.1), r2.2⟩) := (xSR 0 (cOps (cL n44_0)) (cR n44_0)).trans (by
  refine opsK_0 ?_
  refine oP 2 fun r0 => ?_
  refine oP 3 fun r1 => ?_
  refine oP 4 fun r2 => ?_
  exact oE)
theorem b44 (call : Calling) (a0 a1 : AV) (h : Heap) : evBody (cx44 call) Try.f44 n44_0 [a0, a1] h = bnd (evC (cx44 call) n44_0 ⟨[(0, a0), (1, a1), (2, .junk), (3, .junk), (4, .junk), (5, .junk), (6, .junk), (7, .junk), (8, .junk), (9, .junk), (10, .junk), (12, .junk), (16, .junk), (20, .junk), (39, .junk), (51, .junk), (55, .junk), (65, .junk)], h⟩) (retK fun s => bnd (bnd (mLoad (.arr 60 (.arr 4 (.int .u8))) (s.env.get 4) s.heap) fun v => bnd (some []) fun vs => some (v :: vs)) fun vs => some (oneOrTuple vs)) := by kernel_rfl
theorem fn44 : Try.prog.funcs[44]? = some Try.f44 := by kernel_rfl
theorem k44 : Callable Try.prog 44 := ⟨Try.f44, fn44, by kernel_rfl, by kernel_rfl⟩
theorem s44 {call : Calling} (hc : CallOK Try.prog call) {args : List AV} {h h' : Heap} {v : AV} (he : evBody (cx44 call) Try.f44 n44_0 args h = some (v, h')) : Spec Try.prog 44 args h v h' := body_sound (C := cx44 call) TT_ok hc mixed_ok fn44 (by kernel_rfl) (by kernel_rfl) he
def sn44 := Y n44_9_eq (Y n44_10_eq (Y n44_8_eq (Y n44_7_eq (Y n44_19_eq (Y n44_20_eq (Y n44_18_eq (Y n44_17_eq (Y n44_27_eq (Y n44_26_eq (Y n44_28_eq (Y n44_25_eq (Y n44_24_eq (Y n44_44_eq (Y n44_45_eq (Y n44_43_eq (Y n44_42_eq (Y n44_48_eq (Y n44_47_eq (Y n44_49_eq (Y n44_46_eq (Y n44_41_eq (Y n44_40_eq (Y n44_39_eq (Y n44_38_eq (Y n44_50_eq (Y n44_37_eq (Y n44_36_eq (Y n44_51_eq (Y n44_35_eq (Y n44_34_eq (Y n44_33_eq (Y n44_54_eq (Y n44_55_eq (Y n44_53_eq (Y n44_52_eq (Y n44_32_eq (Y n44_31_eq (Y n44_56_eq (Y n44_30_eq (Y n44_29_eq (Y n44_23_eq (Y n44_22_eq (Y n44_57_eq (Y n44_21_eq (Y n44_16_eq (Y n44_15_eq (Y n44_14_eq (Y n44_13_eq (Y n44_12_eq (Y n44_58_eq (Y n44_11_eq (Y n44_6_eq (Y n44_5_eq (Y n44_4_eq (Y n44_3_eq (Y n44_60_eq (Y n44_59_eq (Y n44_2_eq (Y n44_1_eq (n44_0_eq))))))))))))))))))))))))))))))))))))))))))))))))))))))))))))
end
end Go.Vab

/-
  The document's table and words, walked.
-/
namespace Go.Vab
open Go Go.Proofs

theorem walk43 (h : Heap) : ∃ t, evBody (cx43 callA10) Try.f43 n43_0 [] h = some (arr 256 sbF, h ++ t) := by
  rw [b43]
  have main : Evs (evC (cx43 callA10) n43_0 ⟨[(0, .junk), (1, .junk), (2, .junk), (4, .junk)], h⟩) (fun r => ∃ env t, r = (.ret, ⟨env, h ++ ⟨arr 256 sbF, 0, .own⟩ :: t⟩) ∧ env.get 0 = .ptr h.length 0 [] (.arr 256 (.int .u8))) := by
    refine Evs.run (by conv => lhs; simp [Env.get, Env.put]) ?_
    refine Evs.bnd (Q := fun r => ∃ env, r = (.exit 0, ⟨env, h ++ [⟨arr 256 fun _ => 0#8, 0, .own⟩, ⟨arr 256 sbF, 0, .own⟩]⟩) ∧ env.get 0 = .ptr h.length 0 [] (.arr 256 (.int .u8)) ∧ env.get 1 = .ptr (h.length + 1) 0 [] (.arr 256 (.int .u8))) ?_ ?_
    · refine Evs.up 256 (fun i s => ∃ env g, s = ⟨env, h ++ [⟨arr 256 fun _ => 0#8, 0, .own⟩, ⟨arr 256 g, 0, .own⟩]⟩ ∧ env.get 0 = .ptr h.length 0 [] (.arr 256 (.int .u8)) ∧ env.get 1 = .ptr (h.length + 1) 0 [] (.arr 256 (.int .u8)) ∧ env.get 2 = nat i ∧ ∀ j, j < i → g j = sbF j) ?_ ?_
        ⟨_, _, rfl, by simp [Env.get], by simp [Env.get], by simp [Env.get], fun j hj => absurd hj (by omega)⟩
      · rintro i s hi ⟨env, g, rfl, e0, e1, e2, hg⟩
        refine Evs.run (by conv => lhs; simp (disch := omega) [e0, e1, e2]) (Evs.ret ⟨rfl, _, _, rfl, ?_⟩)
        simp only [env_get_put, e0, e1, e2]
        refine ⟨rfl, rfl, rfl, fun j hj => ?_⟩
        by_cases hji : j = i
        · subst hji; rw [upd_same]; rfl
        · rw [upd_ne _ _ hji]; exact hg j (by omega)
      · rintro s ⟨env, g, rfl, e0, e1, e2, hg⟩
        refine Evs.run (by conv => lhs; simp (disch := omega) [e0, e1, e2]) ?_
        rw [arr_congr hg]
        exact Evs.ret ⟨by simp, _, rfl, by simp [e0], by simp [e1]⟩
    · rintro r ⟨env, rfl, e0, e1⟩
      refine Evs.run (by conv => lhs; simp (disch := omega) [e0, e1]) ?_
      exact Evs.ret ⟨_, [⟨arr 256 sbF, 0, .own⟩], rfl, e0⟩
  obtain ⟨r, hr, env, t, rfl, e0⟩ := main
  refine ⟨⟨arr 256 sbF, 0, .own⟩ :: t, ?_⟩
  rw [hr]
  simp [e0, oneOrTuple]

noncomputable def c43 := conC (fun _ : Unit => []) (fun _ _ => True) (fun _ h => (arr 256 sbF, h))
noncomputable def callA11 : Calling := addC callA10 43 c43
theorem c43_eq (h : Heap) : c43 [] h = some (arr 256 sbF, h) :=
  conC_eq (enc := fun _ : Unit => []) (a := ()) (f := fun _ h => (arr 256 sbF, h)) (fun _ _ _ _ => rfl) trivial
theorem callA11_ok : CallOK Try.prog callA11 := addC_con callA10_ok k43 fun a h _ => by
  obtain ⟨t, ht⟩ := walk43 h
  exact (s43 callA10_ok ht).drop0 t rfl
@[simp] theorem callA11_43 (h : Heap) : callA11 43 [] h = some (arr 256 sbF, h) := by simp [callA11, addC, c43_eq]
@[simp] theorem callA11_15 (a b : BitVec 8) (h : Heap) : callA11 15 [u8 a, u8 b] h = some (u8 (mulB a b), h) := by simp [callA11, callA10, callA9, addC]
@[simp] theorem callA11_15s (a b : BitVec 8) (h : Heap) : still callA11 15 [u8 a, u8 b] h = some (u8 (mulB a b), h) := still_of fun t => by simp

def H44 (h : Heap) (key : Nat → BitVec 8) (g : Nat → Nat → BitVec 8) : Heap := h ++ [⟨arr 32 key, 0, .own⟩, ⟨arr 256 sbF, 0, .own⟩, ⟨mat 60 4 fun _ _ => 0#8, 0, .own⟩, ⟨mat 60 4 g, 0, .own⟩]

theorem rc44 (H : Heap) (i : Nat) (h8 : 8 ≤ i) (hi : i < 60) (env : Env) (e6 : env.get 6 = nat i) (e9 : env.get 9 = u8 1#8) (e10 : env.get 10 = nat 1) :
    Evs (evLoop (evC (cx44 callA11) n44_41) ⟨env, H⟩) (fun r => ∃ env', r = (.exit 4, ⟨env', H⟩) ∧ env'.get 9 = u8 (rcon (i / 8 - 1)) ∧ Same [2, 3, 4, 5, 6, 7, 8] env env') := by
  refine Evs.up (i / 8 - 1) (fun k s => ∃ env', s = ⟨env', H⟩ ∧ env'.get 9 = u8 (rcon k) ∧ env'.get 10 = nat (k + 1) ∧ Same [2, 3, 4, 5, 6, 7, 8] env env') ?_ ?_ ⟨env, rfl, e9, e10, Same.refl _ _⟩
  · rintro k s hk ⟨env', rfl, f9, f10, hs⟩
    have f6 := hs.get 6 rfl
    refine Evs.run (by conv => lhs; simp (disch := omega) [f6, e6, f9, f10]) ?_
    exact Evs.ret ⟨rfl, _, rfl, by simp [rcon], by simp, by repeat (first | exact hs | refine Same.put rfl ?_)⟩
  · rintro s ⟨env', rfl, f9, f10, hs⟩
    have f6 := hs.get 6 rfl
    refine Evs.run (by conv => lhs; simp (disch := omega) [f6, e6, f9, f10]) ?_
    exact Evs.ret ⟨by simp, _, rfl, by simp [f9], by repeat (first | exact hs | refine Same.put rfl ?_)⟩


def B44 (L : Nat) (env : Env) : Prop := env.get 2 = .ptr L 0 [] (.arr 32 (.int .u8)) ∧ env.get 3 = .ptr (L + 1) 0 [] (.arr 256 (.int .u8)) ∧ env.get 4 = .ptr (L + 2) 0 [] (.arr 60 (.arr 4 (.int .u8))) ∧ env.get 5 = .ptr (L + 3) 0 [] (.arr 60 (.arr 4 (.int .u8)))
theorem B44.same {L : Nat} {env env' : Env} (h : B44 L env) (hs : Same [2, 3, 4, 5] env env') : B44 L env' :=
  ⟨by rw [hs.get 2 rfl]; exact h.1, by rw [hs.get 3 rfl]; exact h.2.1, by rw [hs.get 4 rfl]; exact h.2.2.1, by rw [hs.get 5 rfl]; exact h.2.2.2⟩

set_option maxHeartbeats 1000000 in
/-- One word's byte. -/
theorem in44 (h : Heap) (key : Nat → BitVec 8) (i p : Nat) (hi : i < 60) (hp : p < 4) (g : Nat → Nat → BitVec 8) (env : Env) (hb : B44 h.length env) (e6 : env.get 6 = nat i) (e7 : env.get 7 = nat p)
    (hg : ∀ j, j < i → ∀ q, q < 4 → g j q = wd key j q) :
    Evs (evC (cx44 callA11) n44_16 ⟨env, H44 h key g⟩) (fun r => ∃ env', r = (.nrm, ⟨env', H44 h key (upd g i (upd (g i) p (wd key i p)))⟩) ∧ env'.get 7 = nat (p + 1) ∧ Same [2, 3, 4, 5, 6] env env') := by
  obtain ⟨b2, b3, b4, b5⟩ := hb
  unfold H44
  have hp' : (p + 1) % 4 < 4 := Nat.mod_lt _ (by decide)
  by_cases h8 : i < 8
  · have hw : wd key i p = key (4 * i + p) := wd_lt h8
    repeat (first | (with_reducible refine Evs.assoc ?_) | ((with_reducible refine Evs.some_bnd ?_); try dsimp only [sqK_nrm, sqK_exit, sqK_ret]) | ((with_reducible apply Evs.bcndT); (focus (simp (disch := omega) [b2, b5, e6, e7] <;> omega))) | ((with_reducible apply Evs.bcndF); (focus (simp (disch := omega) [b2, b5, e6, e7] <;> omega))) | ((with_reducible apply Evs.step); (focus ((conv => lhs; simp (disch := omega) [b2, b5, e6, e7]); done)); try dsimp only) | (simp only [sn44, snB]))
    rw [hw]
    exact Evs.ret ⟨_, rfl, by simp, by repeat (first | exact Same.refl _ _ | refine Same.put rfl ?_)⟩
  · have hw := wd_ge (key := key) (i := i) (p := p) (by omega)
    by_cases h0 : i % 8 = 0
    · rw [if_pos h0] at hw
      by_cases hp0 : p = 0
      · subst hp0
        rw [if_pos rfl] at hw
        repeat (first | (with_reducible refine Evs.assoc ?_) | ((with_reducible refine Evs.some_bnd ?_); try dsimp only [sqK_nrm, sqK_exit, sqK_ret]) | ((with_reducible apply Evs.bcndT); (focus (simp (disch := omega) [b2, b3, b5, e6, e7, h0] <;> omega))) | ((with_reducible apply Evs.bcndF); (focus (simp (disch := omega) [b2, b3, b5, e6, e7, h0] <;> omega))) | ((with_reducible apply Evs.step); (focus ((conv => lhs; simp (disch := omega) [b2, b3, b5, e6, e7, h0]); done)); try dsimp only) | (simp only [sn44, snB]))
        refine Evs.bnd (rc44 _ i (by omega) hi _ ?_ ?_ ?_) ?_
        · simp [e6]
        · simp
        · simp
        rintro r ⟨env', rfl, f9, hs⟩
        have f2 := hs.get 2 rfl
        have f3 := hs.get 3 rfl
        have f5 := hs.get 5 rfl
        have f6 := hs.get 6 rfl
        have f7 := hs.get 7 rfl
        have f8 := hs.get 8 rfl
        simp [b2, b3, b5, e6, e7] at f2 f3 f5 f6 f7 f8

        repeat (first | (with_reducible refine Evs.assoc ?_) | ((with_reducible refine Evs.some_bnd ?_); try dsimp only [sqK_nrm, sqK_exit, sqK_ret]) | ((with_reducible apply Evs.bcndT); (focus (simp (disch := omega) [f2, f3, f5, f6, f7, f8, f9] <;> omega))) | ((with_reducible apply Evs.bcndF); (focus (simp (disch := omega) [f2, f3, f5, f6, f7, f8, f9] <;> omega))) | ((with_reducible apply Evs.step); (focus ((conv => lhs; simp (disch := omega) [f2, f3, f5, f6, f7, f8, f9]); done)); try dsimp only) | (simp only [sn44, snB]))
        rw [hw, ← hg (i - 8) (by omega) 0 (by omega), ← hg (i - 1) (by omega) 1 (by omega)]
        refine Evs.ret ⟨_, rfl, by simp [f7], ?_⟩
        refine Same.put rfl (Same.put rfl (Same.trans ?_ (hs.sub rfl)))
        repeat (first | exact Same.refl _ _ | refine Same.put rfl ?_)
      · rw [if_neg hp0] at hw
        repeat (first | (with_reducible refine Evs.assoc ?_) | ((with_reducible refine Evs.some_bnd ?_); try dsimp only [sqK_nrm, sqK_exit, sqK_ret]) | ((with_reducible apply Evs.bcndT); (focus (simp (disch := omega) [b2, b3, b5, e6, e7, h0, hp0] <;> omega))) | ((with_reducible apply Evs.bcndF); (focus (simp (disch := omega) [b2, b3, b5, e6, e7, h0, hp0] <;> omega))) | ((with_reducible apply Evs.step); (focus ((conv => lhs; simp (disch := omega) [b2, b3, b5, e6, e7, h0, hp0]); done)); try dsimp only) | (simp only [sn44, snB]))
        rw [hw, ← hg (i - 8) (by omega) p hp, ← hg (i - 1) (by omega) ((p + 1) % 4) hp']
        simp only [BitVec.xor_zero]
        exact Evs.ret ⟨_, rfl, by simp [e7], by repeat (first | exact Same.refl _ _ | refine Same.put rfl ?_)⟩
    · rw [if_neg h0] at hw
      by_cases h4 : i % 8 = 4
      · rw [if_pos h4] at hw
        repeat (first | (with_reducible refine Evs.assoc ?_) | ((with_reducible refine Evs.some_bnd ?_); try dsimp only [sqK_nrm, sqK_exit, sqK_ret]) | ((with_reducible apply Evs.bcndT); (focus (simp (disch := omega) [b2, b3, b5, e6, e7, h4] <;> omega))) | ((with_reducible apply Evs.bcndF); (focus (simp (disch := omega) [b2, b3, b5, e6, e7, h4] <;> omega))) | ((with_reducible apply Evs.step); (focus ((conv => lhs; simp (disch := omega) [b2, b3, b5, e6, e7, h4]); done)); try dsimp only) | (simp only [sn44, snB]))
        rw [hw, ← hg (i - 8) (by omega) p hp, ← hg (i - 1) (by omega) p hp]
        exact Evs.ret ⟨_, rfl, by simp [e7], by repeat (first | exact Same.refl _ _ | refine Same.put rfl ?_)⟩
      · rw [if_neg h4] at hw
        repeat (first | (with_reducible refine Evs.assoc ?_) | ((with_reducible refine Evs.some_bnd ?_); try dsimp only [sqK_nrm, sqK_exit, sqK_ret]) | ((with_reducible apply Evs.bcndT); (focus (simp (disch := omega) [b2, b3, b5, e6, e7, h0, h4] <;> omega))) | ((with_reducible apply Evs.bcndF); (focus (simp (disch := omega) [b2, b3, b5, e6, e7, h0, h4] <;> omega))) | ((with_reducible apply Evs.step); (focus ((conv => lhs; simp (disch := omega) [b2, b3, b5, e6, e7, h0, h4]); done)); try dsimp only) | (simp only [sn44, snB]))
        rw [hw, ← hg (i - 8) (by omega) p hp, ← hg (i - 1) (by omega) p hp]
        exact Evs.ret ⟨_, rfl, by simp [e7], by repeat (first | exact Same.refl _ _ | refine Same.put rfl ?_)⟩

theorem walk44 (h : Heap) (key : Nat → BitVec 8) : ∃ t, evBody (cx44 callA11) Try.f44 n44_0 [arr 32 key, arr 256 sbF] h = some (mat 60 4 (wd key), h ++ t) := by
  rw [b44]
  have main : Evs (evC (cx44 callA11) n44_0 ⟨[(0, arr 32 key), (1, arr 256 sbF), (2, .junk), (3, .junk), (4, .junk), (5, .junk), (6, .junk), (7, .junk), (8, .junk), (9, .junk), (10, .junk), (12, .junk), (16, .junk), (20, .junk), (39, .junk), (51, .junk), (55, .junk), (65, .junk)], h⟩)
      (fun r => ∃ env t, r = (.ret, ⟨env, h ++ t⟩) ∧ mLoad (.arr 60 (.arr 4 (.int .u8))) (env.get 4) (h ++ t) = some (mat 60 4 (wd key))) := by
    refine Evs.run (by conv => lhs; simp [Env.get, Env.put]) ?_
    refine Evs.bnd (Q := fun r => ∃ env, r = (.exit 0, ⟨env, H44 h key (wd key)⟩) ∧ B44 h.length env) ?_ ?_
    · refine Evs.up 60 (fun i s => ∃ env g, s = ⟨env, H44 h key g⟩ ∧ B44 h.length env ∧ env.get 6 = nat i ∧ ∀ j, j < i → ∀ q, q < 4 → g j q = wd key j q) ?_ ?_
        ⟨_, _, rfl, ⟨by simp [Env.get], by simp [Env.get], by simp [Env.get], by simp [Env.get]⟩, by simp [Env.get], fun j hj => absurd hj (by omega)⟩
      · rintro i s hi ⟨env, g, rfl, hb, e6, hg⟩
        refine Evs.run (by conv => lhs; simp (disch := omega) [e6]) ?_
        refine Evs.bnd (Q := fun r => ∃ env' g', r = (.exit 2, ⟨env', H44 h key g'⟩) ∧ Same [2, 3, 4, 5, 6] env env' ∧ ∀ j, j < i + 1 → ∀ q, q < 4 → g' j q = wd key j q) ?_ ?_
        · refine Evs.up 4 (fun p s => ∃ env' g', s = ⟨env', H44 h key g'⟩ ∧ Same [2, 3, 4, 5, 6] env env' ∧ env'.get 7 = nat p ∧ (∀ j, j < i → ∀ q, q < 4 → g' j q = wd key j q) ∧ ∀ q, q < p → g' i q = wd key i q) ?_ ?_
            ⟨_, g, rfl, by repeat (first | exact Same.refl _ _ | refine Same.put rfl ?_), by simp, hg, fun q hq => absurd hq (by omega)⟩
          · rintro p s hp ⟨env', g', rfl, hs, e7, h1, h2⟩
            refine (in44 h key i p hi hp g' env' (hb.same (hs.sub rfl)) (by rw [hs.get 6 rfl, e6]) e7 h1).mono ?_
            rintro r ⟨env'', rfl, f7, hs'⟩
            refine ⟨rfl, env'', _, rfl, hs.trans hs', f7, fun j hj q hq => ?_, fun q hq => ?_⟩
            · rw [upd_ne _ _ (by omega)]; exact h1 j hj q hq
            · rw [upd_same]
              by_cases e : q = p
              · subst e; rw [upd_same]
              · rw [upd_ne _ _ e]; exact h2 q (by omega)
          · rintro s ⟨env', g', rfl, hs, e7, h1, h2⟩
            refine Evs.run (by conv => lhs; simp (disch := omega) [e7]) ?_
            refine Evs.ret ⟨by simp, _, _, rfl, Same.put rfl hs, fun j hj q hq => ?_⟩
            by_cases e : j = i
            · subst e; exact h2 q hq
            · exact h1 j (by omega) q hq
        · rintro r ⟨env', g', rfl, hs, h1⟩
          have f6 := hs.get 6 rfl
          refine Evs.run (by conv => lhs; simp (disch := omega) [f6, e6]) ?_
          exact Evs.ret ⟨rfl, _, _, rfl, hb.same (Same.put rfl (hs.sub rfl)), by simp, h1⟩
      · rintro s ⟨env, g, rfl, hb, e6, hg⟩
        refine Evs.run (by conv => lhs; simp (disch := omega) [e6]) ?_
        have e : mat 60 4 g = mat 60 4 (wd key) := mat_congr hg
        refine Evs.ret ⟨by simp, _, by unfold H44; rw [e], hb.same (Same.put rfl (Same.refl _ _))⟩
    · rintro r ⟨env, rfl, b2, b3, b4, b5⟩
      unfold H44
      refine Evs.run (by conv => lhs; simp (disch := omega) [b2, b3, b4, b5]) ?_
      refine Evs.ret ⟨_, _, rfl, ?_⟩
      simp [b4]
  obtain ⟨r, hr, env, t, rfl, e0⟩ := main
  refine ⟨t, ?_⟩
  rw [hr]
  simp [e0, oneOrTuple]

noncomputable def c44 := conC (fun x : Nat → BitVec 8 => [arr 32 x, arr 256 sbF]) (fun _ _ => True) (fun x h => (mat 60 4 (wd x), h))
noncomputable def callA12 : Calling := addC callA11 44 c44
theorem c44_eq (key : Nat → BitVec 8) (h : Heap) : c44 [arr 32 key, arr 256 sbF] h = some (mat 60 4 (wd key), h) :=
  conC_eq (enc := fun x : Nat → BitVec 8 => [arr 32 x, arr 256 sbF]) (a := key) (f := fun x h => (mat 60 4 (wd x), h))
    (fun x y h e => by
      have e1 := arr_inj.1 (List.cons.inj e).1
      simp only [Prod.mk.injEq, and_true]
      exact mat_congr fun i _ p hp => wd_congr e1 i p hp) trivial
theorem callA12_ok : CallOK Try.prog callA12 := addC_con callA11_ok k44 fun x h _ => by
  obtain ⟨t, ht⟩ := walk44 h x
  exact (s44 callA11_ok ht).drop0 t (mat_under _ _ _ _)
@[simp] theorem callA12_44 (key : Nat → BitVec 8) (h : Heap) : callA12 44 [arr 32 key, arr 256 sbF] h = some (mat 60 4 (wd key), h) := by simp [callA12, addC, c44_eq]
@[simp] theorem callA12_43 (h : Heap) : callA12 43 [] h = some (arr 256 sbF, h) := by simp [callA12, addC]
@[simp] theorem callA12_15 (a b : BitVec 8) (h : Heap) : callA12 15 [u8 a, u8 b] h = some (u8 (mulB a b), h) := by simp [callA12, addC]
@[simp] theorem callA12_15s (a b : BitVec 8) (h : Heap) : still callA12 15 [u8 a, u8 b] h = some (u8 (mulB a b), h) := still_of fun t => by simp

end Go.Vab

/- How the evaluator reads the functions of a seat. Printed by wip/tools/gen.py (own work). -/
namespace Go.Vab
open Go Go.Proofs
noncomputable section
variable (call : Calling) (env : Env) (h : Heap) (s : St)
/-! vestry/vestryref08.EncryptBy -/
def cx42 (call : Calling) : Ctx := ⟨call, TT, 128, [19, 20, 21, 22, 23, 24, 25, 26, 27, 29, 30, 31, 32, 33, 34, 35, 36, 37, 38, 39, 40, 41, 42, 43, 44, 46, 47, 48, 50, 51, 52, 54, 55, 56, 57, 58, 59, 60, 61, 62, 63, 64, 65, 66, 67, 68, 69, 70, 71, 72, 73, 75, 77, 78, 79, 81, 82, 83, 85, 86, 87, 88, 89, 90, 91, 92, 93, 94, 95, 96, 97, 98, 99, 100, 101, 102, 103, 104, 105, 106, 107, 109, 110, 111, 112, 113, 114, 115, 116, 117, 118, 119, 120, 121, 122, 123, 124, 125, 126, 127]⟩
def n42_0 : Code := bodyOf Try.f42
def n42_1 : Code := cR n42_0
def n42_2 : Code := cR n42_1
def n42_3 : Code := cR n42_2
def n42_4 : Code := cL n42_3
def n42_5 : Code := cR n42_4
def n42_6 : Code := cB n42_5
def n42_7 : Code := cB n42_6
def n42_8 : Code := cL n42_7
def n42_9 : Code := cR n42_8
def n42_10 : Code := cL n42_9
def n42_11 : Code := cR n42_9
def n42_12 : Code := cR n42_7
def n42_13 : Code := cL n42_12
def n42_14 : Code := cB n42_13
def n42_15 : Code := cR n42_12
def n42_16 : Code := cR n42_3
def n42_17 : Code := cL n42_16
def n42_18 : Code := cR n42_17
def n42_19 : Code := cB n42_18
def n42_20 : Code := cB n42_19
def n42_21 : Code := cL n42_20
def n42_22 : Code := cR n42_21
def n42_23 : Code := cL n42_22
def n42_24 : Code := cR n42_22
def n42_25 : Code := cR n42_20
def n42_26 : Code := cL n42_25
def n42_27 : Code := cB n42_26
def n42_28 : Code := cR n42_27
def n42_29 : Code := cL n42_28
def n42_30 : Code := cR n42_29
def n42_31 : Code := cB n42_30
def n42_32 : Code := cB n42_31
def n42_33 : Code := cL n42_32
def n42_34 : Code := cR n42_33
def n42_35 : Code := cL n42_34
def n42_36 : Code := cR n42_34
def n42_37 : Code := cR n42_32
def n42_38 : Code := cL n42_37
def n42_39 : Code := cB n42_38
def n42_40 : Code := cR n42_39
def n42_41 : Code := cB n42_40
def n42_42 : Code := cB n42_41
def n42_43 : Code := cL n42_42
def n42_44 : Code := cR n42_43
def n42_45 : Code := cL n42_44
def n42_46 : Code := cR n42_44
def n42_47 : Code := cR n42_42
def n42_48 : Code := cL n42_47
def n42_49 : Code := cB n42_48
def n42_50 : Code := cR n42_47
def n42_51 : Code := cR n42_37
def n42_52 : Code := cR n42_28
def n42_53 : Code := cR n42_52
def n42_54 : Code := cL n42_53
def n42_55 : Code := cR n42_54
def n42_56 : Code := cL n42_55
def n42_57 : Code := cR n42_56
def n42_58 : Code := cB n42_57
def n42_59 : Code := cB n42_58
def n42_60 : Code := cL n42_59
def n42_61 : Code := cR n42_60
def n42_62 : Code := cL n42_61
def n42_63 : Code := cR n42_61
def n42_64 : Code := cR n42_59
def n42_65 : Code := cL n42_64
def n42_66 : Code := cB n42_65
def n42_67 : Code := cR n42_66
def n42_68 : Code := cB n42_67
def n42_69 : Code := cB n42_68
def n42_70 : Code := cL n42_69
def n42_71 : Code := cR n42_70
def n42_72 : Code := cL n42_71
def n42_73 : Code := cR n42_71
def n42_74 : Code := cR n42_69
def n42_75 : Code := cL n42_74
def n42_76 : Code := cB n42_75
def n42_77 : Code := cR n42_76
def n42_78 : Code := cL n42_77
def n42_79 : Code := cR n42_78
def n42_80 : Code := cB n42_79
def n42_81 : Code := cB n42_80
def n42_82 : Code := cL n42_81
def n42_83 : Code := cR n42_82
def n42_84 : Code := cL n42_83
def n42_85 : Code := cR n42_83
def n42_86 : Code := cR n42_81
def n42_87 : Code := cL n42_86
def n42_88 : Code := cB n42_87
def n42_89 : Code := cR n42_86
def n42_90 : Code := cR n42_77
def n42_91 : Code := cR n42_74
def n42_92 : Code := cR n42_64
def n42_93 : Code := cR n42_55
def n42_94 : Code := cR n42_53
def n42_95 : Code := cR n42_94
def n42_96 : Code := cB n42_95
def n42_97 : Code := cB n42_96
def n42_98 : Code := cL n42_97
def n42_99 : Code := cR n42_98
def n42_100 : Code := cL n42_99
def n42_101 : Code := cR n42_99
def n42_102 : Code := cR n42_97
def n42_103 : Code := cL n42_102
def n42_104 : Code := cB n42_103
def n42_105 : Code := cR n42_102
def n42_106 : Code := cR n42_25
def n42_107 : Code := cR n42_16
def n42_108 : Code := cR n42_107
@[simp] theorem n42_10_eq : evC (cx42 call) n42_10 s = some (.nrm, s) := xK
@[simp] theorem n42_11_eq : evC (cx42 call) n42_11 s = some (.exit 0, s) := xX 0
@[simp] theorem n42_9_eq : evC (cx42 call) n42_9 s = cnd (s.env.get 28) (evC (cx42 call) n42_10 s) (evC (cx42 call) n42_11 s) := xC 28 _ _
@[simp] theorem n42_8_eq : evC (cx42 call) n42_8 ⟨env, h⟩ = (bnd (pureV h (mBin .lss (env.get 9) (nat 16))) fun r1 => evC (cx42 call) n42_9 ⟨(Env.put env 28 r1.1), r1.2⟩) := (xSR 4 (cOps (cL n42_8)) (cR n42_8)).trans (by
  refine opsK_0 ?_
  refine oT 27 (env.get 9) ?_
  refine oP 28 fun r1 => ?_
  exact oE)
theorem n42_14_ok : drawOk (cOps n42_14).toList = true := by kernel_rfl
@[simp] theorem n42_14_eq : evC (cx42 call) n42_14 ⟨env, h⟩ = (bnd (pureV h (mIdxA (.arr 16 (.int .u8)) (env.get 4) (env.get 9))) fun r2 => bnd (pureV r2.2 (mLoad (.int .u8) r2.1 r2.2)) fun r3 => bnd (pureV r3.2 (mBin .quo (env.get 9) (nat 4))) fun r5 => bnd (pureV r5.2 (mBin .rem (env.get 9) (nat 4))) fun r7 => bnd (pureV r7.2 (mIdxA (.arr 60 (.arr 4 (.int .u8))) (env.get 7) r5.1)) fun r8 => bnd (pureV r8.2 (mIdxA (.arr 4 (.int .u8)) r8.1 r7.1)) fun r9 => bnd (pureV r9.2 (mLoad (.int .u8) r9.1 r9.2)) fun r10 => bnd (pureV r10.2 (mBin .xor r3.1 r10.1)) fun r11 => bnd (pureV r11.2 (mIdxA (.arr 16 (.int .u8)) (env.get 4) (env.get 9))) fun r12 => bnd (stU (.int .u8) r12.1 r11.1 r12.2) fun r13 => some (.nrm, ⟨env, r13.2⟩)) := (xD 6 (cOps n42_14) n42_14_ok).trans (by
  refine opsK_0 ?_
  refine oT 31 (env.get 9) ?_
  refine oT 32 (env.get 9) ?_
  refine oP 33 fun r2 => ?_
  refine oP 34 fun r3 => ?_
  refine oT 35 (env.get 9) ?_
  refine oP 36 fun r5 => ?_
  refine oT 37 (env.get 9) ?_
  refine oP 38 fun r7 => ?_
  refine oP 39 fun r8 => ?_
  refine oP 40 fun r9 => ?_
  refine oP 41 fun r10 => ?_
  refine oP 42 fun r11 => ?_
  refine oP 43 fun r12 => ?_
  refine oN fun r13 => ?_
  exact oE)
@[simp] theorem n42_13_eq : evC (cx42 call) n42_13 s = bnd (evC (cx42 call) n42_14 s) fun r => some (inBlk 1 r) := xB 1 _
@[simp] theorem n42_15_eq : evC (cx42 call) n42_15 ⟨env, h⟩ = (bnd (pureV h (mBin .add (env.get 9) (nat 1))) fun r1 => some (.nrm, ⟨(Env.put env 9 r1.1), r1.2⟩)) := (xR 5 (cOps n42_15)).trans (by
  refine opsK_0 ?_
  refine oT 29 (env.get 9) ?_
  refine oP 30 fun r1 => ?_
  refine oT 9 r1.1 ?_
  exact oE)
@[simp] theorem n42_12_eq : evC (cx42 call) n42_12 s = bnd (evC (cx42 call) n42_13 s) (sqK (evC (cx42 call) n42_15)) := xS _ _
@[simp] theorem n42_7_eq : evC (cx42 call) n42_7 s = bnd (evC (cx42 call) n42_8 s) (sqK (evC (cx42 call) n42_12)) := xS _ _
@[simp] theorem n42_6_eq : evC (cx42 call) n42_6 s = evLoop (evC (cx42 call) n42_7) s := xL _
@[simp] theorem n42_5_eq : evC (cx42 call) n42_5 s = bnd (evC (cx42 call) n42_6 s) fun r => some (inBlk 0 r) := xB 0 _
@[simp] theorem n42_4_eq : evC (cx42 call) n42_4 ⟨env, h⟩ = ( evC (cx42 call) n42_5 ⟨(Env.put env 9 (nat 0)), h⟩) := (xSR 3 (cOps (cL n42_4)) (cR n42_4)).trans (by
  refine opsK_0 ?_
  refine oT 9 (nat 0) ?_
  exact oE)
@[simp] theorem n42_23_eq : evC (cx42 call) n42_23 s = some (.nrm, s) := xK
@[simp] theorem n42_24_eq : evC (cx42 call) n42_24 s = some (.exit 2, s) := xX 2
@[simp] theorem n42_22_eq : evC (cx42 call) n42_22 s = cnd (s.env.get 45) (evC (cx42 call) n42_23 s) (evC (cx42 call) n42_24 s) := xC 45 _ _
@[simp] theorem n42_21_eq : evC (cx42 call) n42_21 ⟨env, h⟩ = (bnd (pureV h (mBin .leq (env.get 10) (nat 14))) fun r1 => evC (cx42 call) n42_22 ⟨(Env.put env 45 r1.1), r1.2⟩) := (xSR 8 (cOps (cL n42_21)) (cR n42_21)).trans (by
  refine opsK_0 ?_
  refine oT 44 (env.get 10) ?_
  refine oP 45 fun r1 => ?_
  exact oE)
@[simp] theorem n42_35_eq : evC (cx42 call) n42_35 s = some (.nrm, s) := xK
@[simp] theorem n42_36_eq : evC (cx42 call) n42_36 s = some (.exit 4, s) := xX 4
@[simp] theorem n42_34_eq : evC (cx42 call) n42_34 s = cnd (s.env.get 49) (evC (cx42 call) n42_35 s) (evC (cx42 call) n42_36 s) := xC 49 _ _
@[simp] theorem n42_33_eq : evC (cx42 call) n42_33 ⟨env, h⟩ = (bnd (pureV h (mBin .lss (env.get 12) (nat 4))) fun r1 => evC (cx42 call) n42_34 ⟨(Env.put env 49 r1.1), r1.2⟩) := (xSR 12 (cOps (cL n42_33)) (cR n42_33)).trans (by
  refine opsK_0 ?_
  refine oT 48 (env.get 12) ?_
  refine oP 49 fun r1 => ?_
  exact oE)
@[simp] theorem n42_45_eq : evC (cx42 call) n42_45 s = some (.nrm, s) := xK
@[simp] theorem n42_46_eq : evC (cx42 call) n42_46 s = some (.exit 6, s) := xX 6
@[simp] theorem n42_44_eq : evC (cx42 call) n42_44 s = cnd (s.env.get 53) (evC (cx42 call) n42_45 s) (evC (cx42 call) n42_46 s) := xC 53 _ _
@[simp] theorem n42_43_eq : evC (cx42 call) n42_43 ⟨env, h⟩ = (bnd (pureV h (mBin .lss (env.get 13) (nat 4))) fun r1 => evC (cx42 call) n42_44 ⟨(Env.put env 53 r1.1), r1.2⟩) := (xSR 15 (cOps (cL n42_43)) (cR n42_43)).trans (by
  refine opsK_0 ?_
  refine oT 52 (env.get 13) ?_
  refine oP 53 fun r1 => ?_
  exact oE)
@[simp] theorem n42_49_eq : evC (cx42 call) n42_49 ⟨env, h⟩ = (bnd (pureV h (mBin .mul (nat 4) (env.get 12))) fun r1 => bnd (pureV r1.2 (mBin .add r1.1 (env.get 13))) fun r3 => bnd (pureV r3.2 (mBin .add (env.get 12) (env.get 13))) fun r6 => bnd (pureV r6.2 (mBin .rem r6.1 (nat 4))) fun r7 => bnd (pureV r7.2 (mBin .mul (nat 4) r7.1)) fun r8 => bnd (pureV r8.2 (mBin .add r8.1 (env.get 13))) fun r10 => bnd (pureV r10.2 (mIdxA (.arr 16 (.int .u8)) (env.get 4) r10.1)) fun r11 => bnd (pureV r11.2 (mLoad (.int .u8) r11.1 r11.2)) fun r12 => bnd (pureV r12.2 (mIdxA (.arr 256 (.int .u8)) (env.get 5) r12.1)) fun r13 => bnd (pureV r13.2 (mLoad (.int .u8) r13.1 r13.2)) fun r14 => bnd (pureV r14.2 (mIdxA (.arr 16 (.int .u8)) (env.get 11) r3.1)) fun r15 => bnd (stU (.int .u8) r15.1 r14.1 r15.2) fun r16 => some (.nrm, ⟨env, r16.2⟩)) := (xR 17 (cOps n42_49)).trans (by
  refine opsK_0 ?_
  refine oT 56 (env.get 12) ?_
  refine oP 57 fun r1 => ?_
  refine oT 58 (env.get 13) ?_
  refine oP 59 fun r3 => ?_
  refine oT 60 (env.get 12) ?_
  refine oT 61 (env.get 13) ?_
  refine oP 62 fun r6 => ?_
  refine oP 63 fun r7 => ?_
  refine oP 64 fun r8 => ?_
  refine oT 65 (env.get 13) ?_
  refine oP 66 fun r10 => ?_
  refine oP 67 fun r11 => ?_
  refine oP 68 fun r12 => ?_
  refine oP 69 fun r13 => ?_
  refine oP 70 fun r14 => ?_
  refine oP 71 fun r15 => ?_
  refine oN fun r16 => ?_
  exact oE)
@[simp] theorem n42_48_eq : evC (cx42 call) n42_48 s = bnd (evC (cx42 call) n42_49 s) fun r => some (inBlk 7 r) := xB 7 _
@[simp] theorem n42_50_eq : evC (cx42 call) n42_50 ⟨env, h⟩ = (bnd (pureV h (mBin .add (env.get 13) (nat 1))) fun r1 => some (.nrm, ⟨(Env.put env 13 r1.1), r1.2⟩)) := (xR 16 (cOps n42_50)).trans (by
  refine opsK_0 ?_
  refine oT 54 (env.get 13) ?_
  refine oP 55 fun r1 => ?_
  refine oT 13 r1.1 ?_
  exact oE)
@[simp] theorem n42_47_eq : evC (cx42 call) n42_47 s = bnd (evC (cx42 call) n42_48 s) (sqK (evC (cx42 call) n42_50)) := xS _ _
@[simp] theorem n42_42_eq : evC (cx42 call) n42_42 s = bnd (evC (cx42 call) n42_43 s) (sqK (evC (cx42 call) n42_47)) := xS _ _
@[simp] theorem n42_41_eq : evC (cx42 call) n42_41 s = evLoop (evC (cx42 call) n42_42) s := xL _
@[simp] theorem n42_40_eq : evC (cx42 call) n42_40 s = bnd (evC (cx42 call) n42_41 s) fun r => some (inBlk 6 r) := xB 6 _
@[simp] theorem n42_39_eq : evC (cx42 call) n42_39 ⟨env, h⟩ = ( evC (cx42 call) n42_40 ⟨(Env.put env 13 (nat 0)), h⟩) := (xSR 14 (cOps (cL n42_39)) (cR n42_39)).trans (by
  refine opsK_0 ?_
  refine oT 13 (nat 0) ?_
  exact oE)
@[simp] theorem n42_38_eq : evC (cx42 call) n42_38 s = bnd (evC (cx42 call) n42_39 s) fun r => some (inBlk 5 r) := xB 5 _
@[simp] theorem n42_51_eq : evC (cx42 call) n42_51 ⟨env, h⟩ = (bnd (pureV h (mBin .add (env.get 12) (nat 1))) fun r1 => some (.nrm, ⟨(Env.put env 12 r1.1), r1.2⟩)) := (xR 13 (cOps n42_51)).trans (by
  refine opsK_0 ?_
  refine oT 50 (env.get 12) ?_
  refine oP 51 fun r1 => ?_
  refine oT 12 r1.1 ?_
  exact oE)
@[simp] theorem n42_37_eq : evC (cx42 call) n42_37 s = bnd (evC (cx42 call) n42_38 s) (sqK (evC (cx42 call) n42_51)) := xS _ _
@[simp] theorem n42_32_eq : evC (cx42 call) n42_32 s = bnd (evC (cx42 call) n42_33 s) (sqK (evC (cx42 call) n42_37)) := xS _ _
@[simp] theorem n42_31_eq : evC (cx42 call) n42_31 s = evLoop (evC (cx42 call) n42_32) s := xL _
@[simp] theorem n42_30_eq : evC (cx42 call) n42_30 s = bnd (evC (cx42 call) n42_31 s) fun r => some (inBlk 4 r) := xB 4 _
@[simp] theorem n42_29_eq : evC (cx42 call) n42_29 ⟨env, h⟩ = ( evC (cx42 call) n42_30 ⟨(Env.put env 12 (nat 0)), h⟩) := (xSR 11 (cOps (cL n42_29)) (cR n42_29)).trans (by
  refine opsK_0 ?_
  refine oT 12 (nat 0) ?_
  exact oE)
@[simp] theorem n42_62_eq : evC (cx42 call) n42_62 s = some (.nrm, s) := xK
@[simp] theorem n42_63_eq : evC (cx42 call) n42_63 s = some (.exit 8, s) := xX 8
@[simp] theorem n42_61_eq : evC (cx42 call) n42_61 s = cnd (s.env.get 76) (evC (cx42 call) n42_62 s) (evC (cx42 call) n42_63 s) := xC 76 _ _
@[simp] theorem n42_60_eq : evC (cx42 call) n42_60 ⟨env, h⟩ = (bnd (pureV h (mBin .lss (env.get 14) (nat 4))) fun r1 => evC (cx42 call) n42_61 ⟨(Env.put env 76 r1.1), r1.2⟩) := (xSR 21 (cOps (cL n42_60)) (cR n42_60)).trans (by
  refine opsK_0 ?_
  refine oT 75 (env.get 14) ?_
  refine oP 76 fun r1 => ?_
  exact oE)
@[simp] theorem n42_72_eq : evC (cx42 call) n42_72 s = some (.nrm, s) := xK
@[simp] theorem n42_73_eq : evC (cx42 call) n42_73 s = some (.exit 10, s) := xX 10
@[simp] theorem n42_71_eq : evC (cx42 call) n42_71 s = cnd (s.env.get 80) (evC (cx42 call) n42_72 s) (evC (cx42 call) n42_73 s) := xC 80 _ _
@[simp] theorem n42_70_eq : evC (cx42 call) n42_70 ⟨env, h⟩ = (bnd (pureV h (mBin .lss (env.get 15) (nat 4))) fun r1 => evC (cx42 call) n42_71 ⟨(Env.put env 80 r1.1), r1.2⟩) := (xSR 24 (cOps (cL n42_70)) (cR n42_70)).trans (by
  refine opsK_0 ?_
  refine oT 79 (env.get 15) ?_
  refine oP 80 fun r1 => ?_
  exact oE)
@[simp] theorem n42_84_eq : evC (cx42 call) n42_84 s = some (.nrm, s) := xK
@[simp] theorem n42_85_eq : evC (cx42 call) n42_85 s = some (.exit 12, s) := xX 12
@[simp] theorem n42_83_eq : evC (cx42 call) n42_83 s = cnd (s.env.get 84) (evC (cx42 call) n42_84 s) (evC (cx42 call) n42_85 s) := xC 84 _ _
@[simp] theorem n42_82_eq : evC (cx42 call) n42_82 ⟨env, h⟩ = (bnd (pureV h (mBin .lss (env.get 17) (nat 4))) fun r1 => evC (cx42 call) n42_83 ⟨(Env.put env 84 r1.1), r1.2⟩) := (xSR 28 (cOps (cL n42_82)) (cR n42_82)).trans (by
  refine opsK_0 ?_
  refine oT 83 (env.get 17) ?_
  refine oP 84 fun r1 => ?_
  exact oE)
theorem n42_88_ok : drawOk (cOps n42_88).toList = true := by kernel_rfl
@[simp] theorem n42_88_eq : evC (cx42 call) n42_88 ⟨env, h⟩ = (bnd (pureV h (mIdxA (.arr 4 (.arr 4 (.int .u8))) (env.get 8) (env.get 15))) fun r3 => bnd (pureV r3.2 (mIdxA (.arr 4 (.int .u8)) r3.1 (env.get 17))) fun r4 => bnd (pureV r4.2 (mLoad (.int .u8) r4.1 r4.2)) fun r5 => bnd (pureV r5.2 (mBin .mul (nat 4) (env.get 14))) fun r7 => bnd (pureV r7.2 (mBin .add r7.1 (env.get 17))) fun r9 => bnd (pureV r9.2 (mIdxA (.arr 16 (.int .u8)) (env.get 11) r9.1)) fun r10 => bnd (pureV r10.2 (mLoad (.int .u8) r10.1 r10.2)) fun r11 => bnd (still call 15 [r5.1, r11.1] r11.2) fun r12 => bnd (pureV r12.2 (mBin .xor (env.get 16) r12.1)) fun r13 => some (.nrm, ⟨(Env.put env 16 r13.1), r13.2⟩)) := (xD 30 (cOps n42_88) n42_88_ok).trans (by
  refine opsK_0 ?_
  refine oT 87 (env.get 16) ?_
  refine oT 88 (env.get 15) ?_
  refine oT 89 (env.get 17) ?_
  refine oP 90 fun r3 => ?_
  refine oP 91 fun r4 => ?_
  refine oP 92 fun r5 => ?_
  refine oT 93 (env.get 14) ?_
  refine oP 94 fun r7 => ?_
  refine oT 95 (env.get 17) ?_
  refine oP 96 fun r9 => ?_
  refine oP 97 fun r10 => ?_
  refine oP 98 fun r11 => ?_
  refine oP 99 fun r12 => ?_
  refine oP 100 fun r13 => ?_
  refine oT 16 r13.1 ?_
  exact oE)
@[simp] theorem n42_87_eq : evC (cx42 call) n42_87 s = bnd (evC (cx42 call) n42_88 s) fun r => some (inBlk 13 r) := xB 13 _
@[simp] theorem n42_89_eq : evC (cx42 call) n42_89 ⟨env, h⟩ = (bnd (pureV h (mBin .add (env.get 17) (nat 1))) fun r1 => some (.nrm, ⟨(Env.put env 17 r1.1), r1.2⟩)) := (xR 29 (cOps n42_89)).trans (by
  refine opsK_0 ?_
  refine oT 85 (env.get 17) ?_
  refine oP 86 fun r1 => ?_
  refine oT 17 r1.1 ?_
  exact oE)
@[simp] theorem n42_86_eq : evC (cx42 call) n42_86 s = bnd (evC (cx42 call) n42_87 s) (sqK (evC (cx42 call) n42_89)) := xS _ _
@[simp] theorem n42_81_eq : evC (cx42 call) n42_81 s = bnd (evC (cx42 call) n42_82 s) (sqK (evC (cx42 call) n42_86)) := xS _ _
@[simp] theorem n42_80_eq : evC (cx42 call) n42_80 s = evLoop (evC (cx42 call) n42_81) s := xL _
@[simp] theorem n42_79_eq : evC (cx42 call) n42_79 s = bnd (evC (cx42 call) n42_80 s) fun r => some (inBlk 12 r) := xB 12 _
@[simp] theorem n42_78_eq : evC (cx42 call) n42_78 ⟨env, h⟩ = ( evC (cx42 call) n42_79 ⟨(Env.put env 17 (nat 0)), h⟩) := (xSR 27 (cOps (cL n42_78)) (cR n42_78)).trans (by
  refine opsK_0 ?_
  refine oT 17 (nat 0) ?_
  exact oE)
@[simp] theorem n42_90_eq : evC (cx42 call) n42_90 ⟨env, h⟩ = (bnd (pureV h (mBin .mul (nat 4) (env.get 14))) fun r1 => bnd (pureV r1.2 (mBin .add r1.1 (env.get 15))) fun r3 => bnd (pureV r3.2 (mIdxA (.arr 16 (.int .u8)) (env.get 4) r3.1)) fun r5 => bnd (stU (.int .u8) r5.1 (env.get 16) r5.2) fun r6 => some (.nrm, ⟨env, r6.2⟩)) := (xR 31 (cOps n42_90)).trans (by
  refine opsK_0 ?_
  refine oT 101 (env.get 14) ?_
  refine oP 102 fun r1 => ?_
  refine oT 103 (env.get 15) ?_
  refine oP 104 fun r3 => ?_
  refine oT 105 (env.get 16) ?_
  refine oP 106 fun r5 => ?_
  refine oN fun r6 => ?_
  exact oE)
@[simp] theorem n42_77_eq : evC (cx42 call) n42_77 s = bnd (evC (cx42 call) n42_78 s) (sqK (evC (cx42 call) n42_90)) := xS _ _
@[simp] theorem n42_76_eq : evC (cx42 call) n42_76 ⟨env, h⟩ = ( evC (cx42 call) n42_77 ⟨(Env.put env 16 (u8 0#8)), h⟩) := (xSR 26 (cOps (cL n42_76)) (cR n42_76)).trans (by
  refine opsK_0 ?_
  refine oT 16 (u8 0#8) ?_
  exact oE)
@[simp] theorem n42_75_eq : evC (cx42 call) n42_75 s = bnd (evC (cx42 call) n42_76 s) fun r => some (inBlk 11 r) := xB 11 _
@[simp] theorem n42_91_eq : evC (cx42 call) n42_91 ⟨env, h⟩ = (bnd (pureV h (mBin .add (env.get 15) (nat 1))) fun r1 => some (.nrm, ⟨(Env.put env 15 r1.1), r1.2⟩)) := (xR 25 (cOps n42_91)).trans (by
  refine opsK_0 ?_
  refine oT 81 (env.get 15) ?_
  refine oP 82 fun r1 => ?_
  refine oT 15 r1.1 ?_
  exact oE)
@[simp] theorem n42_74_eq : evC (cx42 call) n42_74 s = bnd (evC (cx42 call) n42_75 s) (sqK (evC (cx42 call) n42_91)) := xS _ _
@[simp] theorem n42_69_eq : evC (cx42 call) n42_69 s = bnd (evC (cx42 call) n42_70 s) (sqK (evC (cx42 call) n42_74)) := xS _ _
@[simp] theorem n42_68_eq : evC (cx42 call) n42_68 s = evLoop (evC (cx42 call) n42_69) s := xL _
@[simp] theorem n42_67_eq : evC (cx42 call) n42_67 s = bnd (evC (cx42 call) n42_68 s) fun r => some (inBlk 10 r) := xB 10 _
@[simp] theorem n42_66_eq : evC (cx42 call) n42_66 ⟨env, h⟩ = ( evC (cx42 call) n42_67 ⟨(Env.put env 15 (nat 0)), h⟩) := (xSR 23 (cOps (cL n42_66)) (cR n42_66)).trans (by
  refine opsK_0 ?_
  refine oT 15 (nat 0) ?_
  exact oE)
@[simp] theorem n42_65_eq : evC (cx42 call) n42_65 s = bnd (evC (cx42 call) n42_66 s) fun r => some (inBlk 9 r) := xB 9 _
@[simp] theorem n42_92_eq : evC (cx42 call) n42_92 ⟨env, h⟩ = (bnd (pureV h (mBin .add (env.get 14) (nat 1))) fun r1 => some (.nrm, ⟨(Env.put env 14 r1.1), r1.2⟩)) := (xR 22 (cOps n42_92)).trans (by
  refine opsK_0 ?_
  refine oT 77 (env.get 14) ?_
  refine oP 78 fun r1 => ?_
  refine oT 14 r1.1 ?_
  exact oE)
@[simp] theorem n42_64_eq : evC (cx42 call) n42_64 s = bnd (evC (cx42 call) n42_65 s) (sqK (evC (cx42 call) n42_92)) := xS _ _
@[simp] theorem n42_59_eq : evC (cx42 call) n42_59 s = bnd (evC (cx42 call) n42_60 s) (sqK (evC (cx42 call) n42_64)) := xS _ _
@[simp] theorem n42_58_eq : evC (cx42 call) n42_58 s = evLoop (evC (cx42 call) n42_59) s := xL _
@[simp] theorem n42_57_eq : evC (cx42 call) n42_57 s = bnd (evC (cx42 call) n42_58 s) fun r => some (inBlk 8 r) := xB 8 _
@[simp] theorem n42_56_eq : evC (cx42 call) n42_56 ⟨env, h⟩ = ( evC (cx42 call) n42_57 ⟨(Env.put env 14 (nat 0)), h⟩) := (xSR 20 (cOps (cL n42_56)) (cR n42_56)).trans (by
  refine opsK_0 ?_
  refine oT 14 (nat 0) ?_
  exact oE)
@[simp] theorem n42_93_eq : evC (cx42 call) n42_93 s = some (.nrm, s) := xK
@[simp] theorem n42_55_eq : evC (cx42 call) n42_55 s = cnd (s.env.get 74) (evC (cx42 call) n42_56 s) (evC (cx42 call) n42_93 s) := xC 74 _ _
@[simp] theorem n42_54_eq : evC (cx42 call) n42_54 ⟨env, h⟩ = (bnd (pureV h (mBin .lss (env.get 10) (nat 14))) fun r1 => evC (cx42 call) n42_55 ⟨(Env.put env 74 r1.1), r1.2⟩) := (xSR 19 (cOps (cL n42_54)) (cR n42_54)).trans (by
  refine opsK_0 ?_
  refine oT 73 (env.get 10) ?_
  refine oP 74 fun r1 => ?_
  exact oE)
@[simp] theorem n42_100_eq : evC (cx42 call) n42_100 s = some (.nrm, s) := xK
@[simp] theorem n42_101_eq : evC (cx42 call) n42_101 s = some (.exit 14, s) := xX 14
@[simp] theorem n42_99_eq : evC (cx42 call) n42_99 s = cnd (s.env.get 108) (evC (cx42 call) n42_100 s) (evC (cx42 call) n42_101 s) := xC 108 _ _
@[simp] theorem n42_98_eq : evC (cx42 call) n42_98 ⟨env, h⟩ = (bnd (pureV h (mBin .lss (env.get 18) (nat 16))) fun r1 => evC (cx42 call) n42_99 ⟨(Env.put env 108 r1.1), r1.2⟩) := (xSR 33 (cOps (cL n42_98)) (cR n42_98)).trans (by
  refine opsK_0 ?_
  refine oT 107 (env.get 18) ?_
  refine oP 108 fun r1 => ?_
  exact oE)
theorem n42_104_ok : drawOk (cOps n42_104).toList = true := by kernel_rfl
@[simp] theorem n42_104_eq : evC (cx42 call) n42_104 ⟨env, h⟩ = (bnd (pureV h (mIdxA (.arr 16 (.int .u8)) (env.get 4) (env.get 18))) fun r2 => bnd (pureV r2.2 (mLoad (.int .u8) r2.1 r2.2)) fun r3 => bnd (pureV r3.2 (mBin .mul (nat 4) (env.get 10))) fun r5 => bnd (pureV r5.2 (mBin .quo (env.get 18) (nat 4))) fun r7 => bnd (pureV r7.2 (mBin .add r5.1 r7.1)) fun r8 => bnd (pureV r8.2 (mBin .rem (env.get 18) (nat 4))) fun r10 => bnd (pureV r10.2 (mIdxA (.arr 60 (.arr 4 (.int .u8))) (env.get 7) r8.1)) fun r11 => bnd (pureV r11.2 (mIdxA (.arr 4 (.int .u8)) r11.1 r10.1)) fun r12 => bnd (pureV r12.2 (mLoad (.int .u8) r12.1 r12.2)) fun r13 => bnd (pureV r13.2 (mBin .xor r3.1 r13.1)) fun r14 => bnd (pureV r14.2 (mIdxA (.arr 16 (.int .u8)) (env.get 4) (env.get 18))) fun r15 => bnd (stU (.int .u8) r15.1 r14.1 r15.2) fun r16 => some (.nrm, ⟨env, r16.2⟩)) := (xD 35 (cOps n42_104) n42_104_ok).trans (by
  refine opsK_0 ?_
  refine oT 111 (env.get 18) ?_
  refine oT 112 (env.get 18) ?_
  refine oP 113 fun r2 => ?_
  refine oP 114 fun r3 => ?_
  refine oT 115 (env.get 10) ?_
  refine oP 116 fun r5 => ?_
  refine oT 117 (env.get 18) ?_
  refine oP 118 fun r7 => ?_
  refine oP 119 fun r8 => ?_
  refine oT 120 (env.get 18) ?_
  refine oP 121 fun r10 => ?_
  refine oP 122 fun r11 => ?_
  refine oP 123 fun r12 => ?_
  refine oP 124 fun r13 => ?_
  refine oP 125 fun r14 => ?_
  refine oP 126 fun r15 => ?_
  refine oN fun r16 => ?_
  exact oE)
@[simp] theorem n42_103_eq : evC (cx42 call) n42_103 s = bnd (evC (cx42 call) n42_104 s) fun r => some (inBlk 15 r) := xB 15 _
@[simp] theorem n42_105_eq : evC (cx42 call) n42_105 ⟨env, h⟩ = (bnd (pureV h (mBin .add (env.get 18) (nat 1))) fun r1 => some (.nrm, ⟨(Env.put env 18 r1.1), r1.2⟩)) := (xR 34 (cOps n42_105)).trans (by
  refine opsK_0 ?_
  refine oT 109 (env.get 18) ?_
  refine oP 110 fun r1 => ?_
  refine oT 18 r1.1 ?_
  exact oE)
@[simp] theorem n42_102_eq : evC (cx42 call) n42_102 s = bnd (evC (cx42 call) n42_103 s) (sqK (evC (cx42 call) n42_105)) := xS _ _
@[simp] theorem n42_97_eq : evC (cx42 call) n42_97 s = bnd (evC (cx42 call) n42_98 s) (sqK (evC (cx42 call) n42_102)) := xS _ _
@[simp] theorem n42_96_eq : evC (cx42 call) n42_96 s = evLoop (evC (cx42 call) n42_97) s := xL _
@[simp] theorem n42_95_eq : evC (cx42 call) n42_95 s = bnd (evC (cx42 call) n42_96 s) fun r => some (inBlk 14 r) := xB 14 _
@[simp] theorem n42_94_eq : evC (cx42 call) n42_94 ⟨env, h⟩ = ( evC (cx42 call) n42_95 ⟨(Env.put env 18 (nat 0)), h⟩) := (xSR 32 (cOps (cL n42_94)) (cR n42_94)).trans (by
  refine opsK_0 ?_
  refine oT 18 (nat 0) ?_
  exact oE)
@[simp] theorem n42_53_eq : evC (cx42 call) n42_53 s = bnd (evC (cx42 call) n42_54 s) (sqK (evC (cx42 call) n42_94)) := xS _ _
@[simp] theorem n42_52_eq : evC (cx42 call) n42_52 ⟨env, h⟩ = (bnd (pureV h (mLoad (.arr 16 (.int .u8)) (env.get 11) h)) fun r0 => bnd (stU (.arr 16 (.int .u8)) (env.get 4) r0.1 r0.2) fun r1 => evC (cx42 call) n42_53 ⟨env, r1.2⟩) := (xSR 18 (cOps (cL n42_52)) (cR n42_52)).trans (by
  refine opsK_0 ?_
  refine oP 72 fun r0 => ?_
  refine oN fun r1 => ?_
  exact oE)
@[simp] theorem n42_28_eq : evC (cx42 call) n42_28 s = bnd (evC (cx42 call) n42_29 s) (sqK (evC (cx42 call) n42_52)) := xS _ _
@[simp] theorem n42_27_eq : evC (cx42 call) n42_27 ⟨env, h⟩ = (bnd (mNew (.arr 16 (.int .u8)) (arr 16 fun _ => 0#8) h) fun r0 => evC (cx42 call) n42_28 ⟨(Env.put env 11 r0.1), r0.2⟩) := (xSR 10 (cOps (cL n42_27)) (cR n42_27)).trans (by
  refine opsK_0 ?_
  refine oP 11 fun r0 => ?_
  exact oE)
@[simp] theorem n42_26_eq : evC (cx42 call) n42_26 s = bnd (evC (cx42 call) n42_27 s) fun r => some (inBlk 3 r) := xB 3 _
@[simp] theorem n42_106_eq : evC (cx42 call) n42_106 ⟨env, h⟩ = (bnd (pureV h (mBin .add (env.get 10) (nat 1))) fun r1 => some (.nrm, ⟨(Env.put env 10 r1.1), r1.2⟩)) := (xR 9 (cOps n42_106)).trans (by
  refine opsK_0 ?_
  refine oT 46 (env.get 10) ?_
  refine oP 47 fun r1 => ?_
  refine oT 10 r1.1 ?_
  exact oE)
@[simp] theorem n42_25_eq : evC (cx42 call) n42_25 s = bnd (evC (cx42 call) n42_26 s) (sqK (evC (cx42 call) n42_106)) := xS _ _
@[simp] theorem n42_20_eq : evC (cx42 call) n42_20 s = bnd (evC (cx42 call) n42_21 s) (sqK (evC (cx42 call) n42_25)) := xS _ _
@[simp] theorem n42_19_eq : evC (cx42 call) n42_19 s = evLoop (evC (cx42 call) n42_20) s := xL _
@[simp] theorem n42_18_eq : evC (cx42 call) n42_18 s = bnd (evC (cx42 call) n42_19 s) fun r => some (inBlk 2 r) := xB 2 _
@[simp] theorem n42_17_eq : evC (cx42 call) n42_17 ⟨env, h⟩ = ( evC (cx42 call) n42_18 ⟨(Env.put env 10 (nat 1)), h⟩) := (xSR 7 (cOps (cL n42_17)) (cR n42_17)).trans (by
  refine opsK_0 ?_
  refine oT 10 (nat 1) ?_
  exact oE)
@[simp] theorem n42_108_eq : evC (cx42 call) n42_108 s = some (.ret, s) := xE
@[simp] theorem n42_107_eq : evC (cx42 call) n42_107 ⟨env, h⟩ = (bnd (pureV h (mLoad (.arr 16 (.int .u8)) (env.get 4) h)) fun r0 => bnd (stU (.arr 16 (.int .u8)) (env.get 6) r0.1 r0.2) fun r1 => evC (cx42 call) n42_108 ⟨env, r1.2⟩) := (xSR 36 (cOps (cL n42_107)) (cR n42_107)).trans (by
  refine opsK_0 ?_
  refine oP 127 fun r0 => ?_
  refine oN fun r1 => ?_
  exact oE)
@[simp] theorem n42_16_eq : evC (cx42 call) n42_16 s = bnd (evC (cx42 call) n42_17 s) (sqK (evC (cx42 call) n42_107)) := xS _ _
@[simp] theorem n42_3_eq : evC (cx42 call) n42_3 s = bnd (evC (cx42 call) n42_4 s) (sqK (evC (cx42 call) n42_16)) := xS _ _
@[simp] theorem n42_2_eq : evC (cx42 call) n42_2 ⟨env, h⟩ = (bnd (pureV h (fillRow (.arr 4 (.int .u8)) (arr 4 fun _ => 0#8) [(0, (u8 2#8)), (1, (u8 3#8)), (2, (u8 1#8)), (3, (u8 1#8))])) fun r0 => bnd (pureV r0.2 (fillRow (.arr 4 (.int .u8)) (arr 4 fun _ => 0#8) [(0, (u8 1#8)), (1, (u8 2#8)), (2, (u8 3#8)), (3, (u8 1#8))])) fun r1 => bnd (pureV r1.2 (fillRow (.arr 4 (.int .u8)) (arr 4 fun _ => 0#8) [(0, (u8 1#8)), (1, (u8 1#8)), (2, (u8 2#8)), (3, (u8 3#8))])) fun r2 => bnd (pureV r2.2 (fillRow (.arr 4 (.int .u8)) (arr 4 fun _ => 0#8) [(0, (u8 3#8)), (1, (u8 1#8)), (2, (u8 1#8)), (3, (u8 2#8))])) fun r3 => bnd (pureV r3.2 (fillRow (.arr 4 (.arr 4 (.int .u8))) (mat 4 4 fun _ _ => 0#8) [(0, r0.1), (1, r1.1), (2, r2.1), (3, r3.1)])) fun r4 => bnd (mNew (.arr 4 (.arr 4 (.int .u8))) (mat 4 4 fun _ _ => 0#8) r4.2) fun r5 => bnd (stU (.arr 4 (.arr 4 (.int .u8))) r5.1 r4.1 r5.2) fun r6 => evC (cx42 call) n42_3 ⟨(Env.put env 8 r5.1), r6.2⟩) := (xSR 2 (cOps (cL n42_2)) (cR n42_2)).trans (by
  refine opsK_0 ?_
  refine oP 22 fun r0 => ?_
  refine oP 23 fun r1 => ?_
  refine oP 24 fun r2 => ?_
  refine oP 25 fun r3 => ?_
  refine oP 26 fun r4 => ?_
  refine oP 8 fun r5 => ?_
  refine oN fun r6 => ?_
  exact oE)
@[simp] theorem n42_1_eq : evC (cx42 call) n42_1 ⟨env, h⟩ = (bnd (pureV h (mLoad (.arr 32 (.int .u8)) (env.get 3) h)) fun r0 => bnd (pureV r0.2 (mLoad (.arr 256 (.int .u8)) (env.get 5) r0.2)) fun r1 => bnd (call 44 [r0.1, r1.1] r1.2) fun r2 => bnd (mNew (.arr 60 (.arr 4 (.int .u8))) (mat 60 4 fun _ _ => 0#8) r2.2) fun r3 => bnd (stU (.arr 60 (.arr 4 (.int .u8))) r3.1 r2.1 r3.2) fun r4 => evC (cx42 call) n42_2 ⟨(Env.put env 7 r3.1), r4.2⟩) := (xSR 1 (cOps (cL n42_1)) (cR n42_1)).trans (by
  refine opsK_0 ?_
  refine oP 19 fun r0 => ?_
  refine oP 20 fun r1 => ?_
  refine oP 21 fun r2 => ?_
  refine oP 7 fun r3 => ?_
  refine oN fun r4 => ?_
  exact oE)
@[simp] theorem n42_0_eq : evC (cx42 call) n42_0 ⟨env, h⟩ = (bnd (mNew (.arr 32 (.int .u8)) (env.get 0) h) fun r0 => bnd (mNew (.arr 16 (.int .u8)) (env.get 1) r0.2) fun r1 => bnd (mNew (.arr 256 (.int .u8)) (env.get 2) r1.2) fun r2 => bnd (mNew (.arr 16 (.int .u8)) (arr 16 fun _ => 0#8) r2.2) fun r3 => evC (cx42 call) n42_1 ⟨(Env.put (Env.put (Env.put (Env.put env 3 r0.1) 4 r1.1) 5 r2.1) 6 r3.1), r3.2⟩) := (xSR 0 (cOps (cL n42_0)) (cR n42_0)).trans (by
  refine opsK_0 ?_
  refine oP 3 fun r0 => ?_
  refine oP 4 fun r1 => ?_
  refine oP 5 fun r2 => ?_
  refine oP 6 fun r3 => ?_
  exact oE)
theorem b42 (call : Calling) (a0 a1 a2 : AV) (h : Heap) : evBody (cx42 call) Try.f42 n42_0 [a0, a1, a2] h = bnd (evC (cx42 call) n42_0 ⟨[(0, a0), (1, a1), (2, a2), (3, .junk), (4, .junk), (5, .junk), (6, .junk), (7, .junk), (8, .junk), (9, .junk), (10, .junk), (11, .junk), (12, .junk), (13, .junk), (14, .junk), (15, .junk), (16, .junk), (17, .junk), (18, .junk), (28, .junk), (45, .junk), (49, .junk), (53, .junk), (74, .junk), (76, .junk), (80, .junk), (84, .junk), (108, .junk)], h⟩) (retK fun s => bnd (bnd (mLoad (.arr 16 (.int .u8)) (s.env.get 6) s.heap) fun v => bnd (some []) fun vs => some (v :: vs)) fun vs => some (oneOrTuple vs)) := by kernel_rfl
theorem fn42 : Try.prog.funcs[42]? = some Try.f42 := by kernel_rfl
theorem k42 : Callable Try.prog 42 := ⟨Try.f42, fn42, by kernel_rfl, by kernel_rfl⟩
theorem s42 {call : Calling} (hc : CallOK Try.prog call) {args : List AV} {h h' : Heap} {v : AV} (he : evBody (cx42 call) Try.f42 n42_0 args h = some (v, h')) : Spec Try.prog 42 args h v h' := body_sound (C := cx42 call) TT_ok hc mixed_ok fn42 (by kernel_rfl) (by kernel_rfl) he
def sn42 := Y n42_10_eq (Y n42_11_eq (Y n42_9_eq (Y n42_8_eq (Y n42_14_eq (Y n42_13_eq (Y n42_15_eq (Y n42_12_eq (Y n42_7_eq (Y n42_6_eq (Y n42_5_eq (Y n42_4_eq (Y n42_23_eq (Y n42_24_eq (Y n42_22_eq (Y n42_21_eq (Y n42_35_eq (Y n42_36_eq (Y n42_34_eq (Y n42_33_eq (Y n42_45_eq (Y n42_46_eq (Y n42_44_eq (Y n42_43_eq (Y n42_49_eq (Y n42_48_eq (Y n42_50_eq (Y n42_47_eq (Y n42_42_eq (Y n42_41_eq (Y n42_40_eq (Y n42_39_eq (Y n42_38_eq (Y n42_51_eq (Y n42_37_eq (Y n42_32_eq (Y n42_31_eq (Y n42_30_eq (Y n42_29_eq (Y n42_62_eq (Y n42_63_eq (Y n42_61_eq (Y n42_60_eq (Y n42_72_eq (Y n42_73_eq (Y n42_71_eq (Y n42_70_eq (Y n42_84_eq (Y n42_85_eq (Y n42_83_eq (Y n42_82_eq (Y n42_88_eq (Y n42_87_eq (Y n42_89_eq (Y n42_86_eq (Y n42_81_eq (Y n42_80_eq (Y n42_79_eq (Y n42_78_eq (Y n42_90_eq (Y n42_77_eq (Y n42_76_eq (Y n42_75_eq (Y n42_91_eq (Y n42_74_eq (Y n42_69_eq (Y n42_68_eq (Y n42_67_eq (Y n42_66_eq (Y n42_65_eq (Y n42_92_eq (Y n42_64_eq (Y n42_59_eq (Y n42_58_eq (Y n42_57_eq (Y n42_56_eq (Y n42_93_eq (Y n42_55_eq (Y n42_54_eq (Y n42_100_eq (Y n42_101_eq (Y n42_99_eq (Y n42_98_eq (Y n42_104_eq (Y n42_103_eq (Y n42_105_eq (Y n42_102_eq (Y n42_97_eq (Y n42_96_eq (Y n42_95_eq (Y n42_94_eq (Y n42_53_eq (Y n42_52_eq (Y n42_28_eq (Y n42_27_eq (Y n42_26_eq (Y n42_106_eq (Y n42_25_eq (Y n42_20_eq (Y n42_19_eq (Y n42_18_eq (Y n42_17_eq (Y n42_108_eq (Y n42_107_eq (Y n42_16_eq (Y n42_3_eq (Y n42_2_eq (Y n42_1_eq (n42_0_eq))))))))))))))))))))))))))))))))))))))))))))))))))))))))))))))))))))))))))))))))))))))))))))))))))))))))))))
end
end Go.Vab

/-
  The document's block under a key.
-/
namespace Go.Vab
open Go Go.Proofs

def rowsL : List (List Nat) := [[2, 3, 1, 1], [1, 2, 3, 1], [1, 1, 2, 3], [3, 1, 1, 2]]
def rowsF (p k : Nat) : BitVec 8 := BitVec.ofNat 8 ((rowsL.getD p []).getD k 0)

theorem rows_fill0 : fillRow (.arr 4 (.int .u8)) (arr 4 fun _ => 0#8) [(0, (u8 2#8)), (1, (u8 3#8)), (2, (u8 1#8)), (3, (u8 1#8))] = some (arr 4 (rowsF 0)) := by kernel_rfl
theorem rows_fill1 : fillRow (.arr 4 (.int .u8)) (arr 4 fun _ => 0#8) [(0, (u8 1#8)), (1, (u8 2#8)), (2, (u8 3#8)), (3, (u8 1#8))] = some (arr 4 (rowsF 1)) := by kernel_rfl
theorem rows_fill2 : fillRow (.arr 4 (.int .u8)) (arr 4 fun _ => 0#8) [(0, (u8 1#8)), (1, (u8 1#8)), (2, (u8 2#8)), (3, (u8 3#8))] = some (arr 4 (rowsF 2)) := by kernel_rfl
theorem rows_fill3 : fillRow (.arr 4 (.int .u8)) (arr 4 fun _ => 0#8) [(0, (u8 3#8)), (1, (u8 1#8)), (2, (u8 1#8)), (3, (u8 2#8))] = some (arr 4 (rowsF 3)) := by kernel_rfl
theorem rows_fill : fillRow (.arr 4 (.arr 4 (.int .u8))) (mat 4 4 fun _ _ => 0#8) [(0, arr 4 (rowsF 0)), (1, arr 4 (rowsF 1)), (2, arr 4 (rowsF 2)), (3, arr 4 (rowsF 3))] = some (mat 4 4 rowsF) := by kernel_rfl

/-- The column's product is what the program reckons. -/
theorem mul_three (x : BitVec 8) : mulB 3#8 x = mulB x 2#8 ^^^ x := by
  have := mul_addL x 2#8 1#8
  rw [show (2#8 ^^^ 1#8 : BitVec 8) = 3#8 from rfl] at this
  simp only at this
  rw [this, mul_comm 2#8 x, mul_comm 1#8 x, mul_one]
theorem one_mul (x : BitVec 8) : mulB 1#8 x = x := by rw [mul_comm, mul_one]
theorem two_mul (x : BitVec 8) : mulB 2#8 x = mulB x 2#8 := mul_comm _ _
theorem mul2_add (x y : BitVec 8) : mulB (x ^^^ y) 2#8 = mulB x 2#8 ^^^ mulB y 2#8 := mul_addL 2#8 x y

theorem bits6 (f g : Bool → Bool → Bool → Bool → Bool → Bool → Bool) (h : (∀ a b d e x y, f a b d e x y = g a b d e x y)) (a b d e x y : BitVec 8) (l r : BitVec 8) (hl : ∀ i, l.getLsbD i = f (a.getLsbD i) (b.getLsbD i) (d.getLsbD i) (e.getLsbD i) (x.getLsbD i) (y.getLsbD i))
    (hr : ∀ i, r.getLsbD i = g (a.getLsbD i) (b.getLsbD i) (d.getLsbD i) (e.getLsbD i) (x.getLsbD i) (y.getLsbD i)) : l = r :=
  BitVec.eq_of_getLsbD_eq fun i _ => by rw [hl, hr, h]

theorem col_xor (a b d e x y : BitVec 8) : x ^^^ (y ^^^ b) ^^^ d ^^^ e = a ^^^ (a ^^^ b ^^^ d ^^^ e) ^^^ (x ^^^ y) :=
  bits6 (fun _ b d e x y => ((x ^^ (y ^^ b)) ^^ d) ^^ e) (fun a b d e x y => (a ^^ (((a ^^ b) ^^ d) ^^ e)) ^^ (x ^^ y)) (by decide) a b d e x y _ _ (fun i => by simp only [BitVec.getLsbD_xor]) (fun i => by simp only [BitVec.getLsbD_xor])

def colF (c : Nat → BitVec 8) (q p : Nat) : Nat → BitVec 8
  | 0 => 0#8
  | k + 1 => colF c q p k ^^^ mulB (rowsF p k) (c (4 * q + k))

theorem col_eq (c : Nat → BitVec 8) (q p : Nat) (hp : p < 4) : colF c q p 4 = mixC c (4 * q + p) := by
  have e1 : (4 * q + p) / 4 = q := by omega
  have e2 : (4 * q + p) % 4 = p := by omega
  unfold mixC
  rw [e1, e2]
  simp only [colF, Nat.add_zero]
  match p, hp with
  | 0, _ =>
    show 0#8 ^^^ mulB 2#8 (c (4 * q)) ^^^ mulB 3#8 (c (4 * q + 1)) ^^^ mulB 1#8 (c (4 * q + 2)) ^^^ mulB 1#8 (c (4 * q + 3)) = c (4 * q) ^^^ (c (4 * q) ^^^ c (4 * q + 1) ^^^ c (4 * q + 2) ^^^ c (4 * q + 3)) ^^^ mulB (c (4 * q) ^^^ c (4 * q + 1)) 2#8
    rw [two_mul, mul_three, one_mul, one_mul, mul2_add, BitVec.zero_xor]
    exact col_xor _ _ _ _ _ _
  | 1, _ =>
    show 0#8 ^^^ mulB 1#8 (c (4 * q)) ^^^ mulB 2#8 (c (4 * q + 1)) ^^^ mulB 3#8 (c (4 * q + 2)) ^^^ mulB 1#8 (c (4 * q + 3)) = c (4 * q + 1) ^^^ (c (4 * q) ^^^ c (4 * q + 1) ^^^ c (4 * q + 2) ^^^ c (4 * q + 3)) ^^^ mulB (c (4 * q + 1) ^^^ c (4 * q + 2)) 2#8
    rw [two_mul, mul_three, one_mul, one_mul, mul2_add, BitVec.zero_xor]
    exact bits6 (fun a _ d e x y => ((a ^^ x) ^^ (y ^^ d)) ^^ e) (fun a b d e x y => (b ^^ (((a ^^ b) ^^ d) ^^ e)) ^^ (x ^^ y)) (by decide) (c (4 * q)) (c (4 * q + 1)) (c (4 * q + 2)) (c (4 * q + 3)) (mulB (c (4 * q + 1)) 2#8) (mulB (c (4 * q + 2)) 2#8) _ _ (fun i => by simp only [BitVec.getLsbD_xor]) (fun i => by simp only [BitVec.getLsbD_xor])
  | 2, _ =>
    show 0#8 ^^^ mulB 1#8 (c (4 * q)) ^^^ mulB 1#8 (c (4 * q + 1)) ^^^ mulB 2#8 (c (4 * q + 2)) ^^^ mulB 3#8 (c (4 * q + 3)) = c (4 * q + 2) ^^^ (c (4 * q) ^^^ c (4 * q + 1) ^^^ c (4 * q + 2) ^^^ c (4 * q + 3)) ^^^ mulB (c (4 * q + 2) ^^^ c (4 * q + 3)) 2#8
    rw [two_mul, mul_three, one_mul, one_mul, mul2_add, BitVec.zero_xor]
    exact bits6 (fun a b _ e x y => ((a ^^ b) ^^ x) ^^ (y ^^ e)) (fun a b d e x y => (d ^^ (((a ^^ b) ^^ d) ^^ e)) ^^ (x ^^ y)) (by decide) (c (4 * q)) (c (4 * q + 1)) (c (4 * q + 2)) (c (4 * q + 3)) (mulB (c (4 * q + 2)) 2#8) (mulB (c (4 * q + 3)) 2#8) _ _ (fun i => by simp only [BitVec.getLsbD_xor]) (fun i => by simp only [BitVec.getLsbD_xor])
  | 3, _ =>
    show 0#8 ^^^ mulB 3#8 (c (4 * q)) ^^^ mulB 1#8 (c (4 * q + 1)) ^^^ mulB 1#8 (c (4 * q + 2)) ^^^ mulB 2#8 (c (4 * q + 3)) = c (4 * q + 3) ^^^ (c (4 * q) ^^^ c (4 * q + 1) ^^^ c (4 * q + 2) ^^^ c (4 * q + 3)) ^^^ mulB (c (4 * q + 3) ^^^ c (4 * q)) 2#8
    rw [two_mul, mul_three, one_mul, one_mul, mul2_add, BitVec.zero_xor]
    exact bits6 (fun a b d _ x y => (((y ^^ a) ^^ b) ^^ d) ^^ x) (fun a b d e x y => (e ^^ (((a ^^ b) ^^ d) ^^ e)) ^^ (x ^^ y)) (by decide) (c (4 * q)) (c (4 * q + 1)) (c (4 * q + 2)) (c (4 * q + 3)) (mulB (c (4 * q + 3)) 2#8) (mulB (c (4 * q)) 2#8) _ _ (fun i => by simp only [BitVec.getLsbD_xor]) (fun i => by simp only [BitVec.getLsbD_xor])

theorem subSh_at (b : Nat → BitVec 8) (q p : Nat) (hp : p < 4) (hq : q < 4) : subSh b (4 * q + p) = subB (b (4 * ((q + p) % 4) + p)) := by
  unfold subSh
  congr 2
  omega

def H42 (h : Heap) (key b res : Nat → BitVec 8) (w : Nat → Nat → BitVec 8) (tr : Heap) : Heap :=
  h ++ (⟨arr 32 key, 0, .own⟩ :: ⟨arr 16 b, 0, .own⟩ :: ⟨arr 256 sbF, 0, .own⟩ :: ⟨arr 16 res, 0, .own⟩ :: ⟨mat 60 4 w, 0, .own⟩ :: ⟨mat 4 4 rowsF, 0, .own⟩ :: tr)
abbrev P42 (h tr : Heap) : AV := .ptr (h.length + (tr.length + 1 + 1 + 1 + 1 + 1 + 1)) 0 [] (.arr 16 (.int .u8))
def B42 (L : Nat) (env : Env) : Prop := env.get 4 = .ptr (L + 1) 0 [] (.arr 16 (.int .u8)) ∧ env.get 5 = .ptr (L + 2) 0 [] (.arr 256 (.int .u8)) ∧ env.get 6 = .ptr (L + 3) 0 [] (.arr 16 (.int .u8)) ∧ env.get 7 = .ptr (L + 4) 0 [] (.arr 60 (.arr 4 (.int .u8))) ∧ env.get 8 = .ptr (L + 5) 0 [] (.arr 4 (.arr 4 (.int .u8)))
theorem B42.same {L : Nat} {env env' : Env} (h : B42 L env) (hs : Same [4, 5, 6, 7, 8] env env') : B42 L env' :=
  ⟨by rw [hs.get 4 rfl]; exact h.1, by rw [hs.get 5 rfl]; exact h.2.1, by rw [hs.get 6 rfl]; exact h.2.2.1, by rw [hs.get 7 rfl]; exact h.2.2.2.1, by rw [hs.get 8 rfl]; exact h.2.2.2.2⟩

section
variable (h tr : Heap) (key res : Nat → BitVec 8) (w : Nat → Nat → BitVec 8)

/-- The first words are added. -/
theorem addA42 (b : Nat → BitVec 8) (env : Env) (hb : B42 h.length env) (e9 : env.get 9 = nat 0) :
    Evs (evLoop (evC (cx42 callA12) n42_7) ⟨env, H42 h key b res w tr⟩) (fun r => ∃ env', r = (.exit 0, ⟨env', H42 h key (addK w 0 b) res w tr⟩) ∧ Same [4, 5, 6, 7, 8] env env') := by
  refine Evs.up 16 (fun i s => ∃ env' g, s = ⟨env', H42 h key g res w tr⟩ ∧ env'.get 9 = nat i ∧ Same [4, 5, 6, 7, 8] env env' ∧ ∀ k, g k = if k < i then addK w 0 b k else b k) ?_ ?_ ⟨_, _, rfl, e9, Same.refl _ _, fun k => by simp⟩
  · rintro i s hi ⟨env', g, rfl, f9, hs, hg⟩
    obtain ⟨b4, b5, b6, b7, b8⟩ := hb.same hs
    have e7 : i % 4 < 4 := Nat.mod_lt _ (by decide)
    unfold H42
    repeat (first | (with_reducible refine Evs.assoc ?_) | ((with_reducible refine Evs.some_bnd ?_); try dsimp only [sqK_nrm, sqK_exit, sqK_ret]) | ((with_reducible apply Evs.bcndT); (focus (simp (disch := omega) [b4, b7, f9] <;> omega))) | ((with_reducible apply Evs.bcndF); (focus (simp (disch := omega) [b4, b7, f9] <;> omega))) | ((with_reducible apply Evs.step); (focus ((conv => lhs; simp (disch := omega) [b4, b7, f9]); done)); try dsimp only) | (simp only [sn42, snB]))
    refine Evs.ret ⟨rfl, _, _, rfl, by simp, by repeat (first | exact hs | refine Same.put rfl ?_), fun k => ?_⟩
    by_cases hk : k = i
    · subst hk; rw [upd_same, hg k, if_neg (by omega), if_pos (by omega)]; simp [addK]
    · rw [upd_ne _ _ hk, hg k]
      by_cases hlt : k < i
      · rw [if_pos hlt, if_pos (by omega)]
      · rw [if_neg hlt, if_neg (by omega)]
  · rintro s ⟨env', g, rfl, f9, hs, hg⟩
    repeat (first | (with_reducible refine Evs.assoc ?_) | ((with_reducible refine Evs.some_bnd ?_); try dsimp only [sqK_nrm, sqK_exit, sqK_ret]) | ((with_reducible apply Evs.bcndT); (focus (simp (disch := omega) [f9] <;> omega))) | ((with_reducible apply Evs.bcndF); (focus (simp (disch := omega) [f9] <;> omega))) | ((with_reducible apply Evs.step); (focus ((conv => lhs; simp (disch := omega) [f9]); done)); try dsimp only) | (simp only [sn42, snB]))
    have : arr 16 g = arr 16 (addK w 0 b) := arr_congr fun k hk => by rw [hg k, if_pos hk]
    unfold H42
    rw [this]
    exact Evs.ret ⟨by simp, _, rfl, by repeat (first | exact hs | refine Same.put rfl ?_)⟩

/-- A round's words are added. -/
theorem addB42 (j : Nat) (hj : j ≤ 14) (b : Nat → BitVec 8) (env : Env) (hb : B42 h.length env) (e10 : env.get 10 = nat j) (e18 : env.get 18 = nat 0) :
    Evs (evLoop (evC (cx42 callA12) n42_97) ⟨env, H42 h key b res w tr⟩) (fun r => ∃ env', r = (.exit 14, ⟨env', H42 h key (addK w j b) res w tr⟩) ∧ Same [4, 5, 6, 7, 8, 10] env env') := by
  refine Evs.up 16 (fun i s => ∃ env' g, s = ⟨env', H42 h key g res w tr⟩ ∧ env'.get 18 = nat i ∧ Same [4, 5, 6, 7, 8, 10] env env' ∧ ∀ k, g k = if k < i then addK w j b k else b k) ?_ ?_ ⟨_, _, rfl, e18, Same.refl _ _, fun k => by simp⟩
  · rintro i s hi ⟨env', g, rfl, f18, hs, hg⟩
    obtain ⟨b4, b5, b6, b7, b8⟩ := hb.same (hs.sub rfl)
    have e7 : i % 4 < 4 := Nat.mod_lt _ (by decide)
    have f10 := hs.get 10 rfl
    rw [e10] at f10
    unfold H42
    repeat (first | (with_reducible refine Evs.assoc ?_) | ((with_reducible refine Evs.some_bnd ?_); try dsimp only [sqK_nrm, sqK_exit, sqK_ret]) | ((with_reducible apply Evs.bcndT); (focus (simp (disch := omega) [b4, b7, f18, f10] <;> omega))) | ((with_reducible apply Evs.bcndF); (focus (simp (disch := omega) [b4, b7, f18, f10] <;> omega))) | ((with_reducible apply Evs.step); (focus ((conv => lhs; simp (disch := omega) [b4, b7, f18, f10]); done)); try dsimp only) | (simp only [sn42, snB]))
    refine Evs.ret ⟨rfl, _, _, rfl, by simp, by repeat (first | exact hs | refine Same.put rfl ?_), fun k => ?_⟩
    by_cases hk : k = i
    · subst hk; rw [upd_same, hg k, if_neg (by omega), if_pos (by omega)]; simp [addK]
    · rw [upd_ne _ _ hk, hg k]
      by_cases hlt : k < i
      · rw [if_pos hlt, if_pos (by omega)]
      · rw [if_neg hlt, if_neg (by omega)]
  · rintro s ⟨env', g, rfl, f18, hs, hg⟩
    repeat (first | (with_reducible refine Evs.assoc ?_) | ((with_reducible refine Evs.some_bnd ?_); try dsimp only [sqK_nrm, sqK_exit, sqK_ret]) | ((with_reducible apply Evs.bcndT); (focus (simp (disch := omega) [f18] <;> omega))) | ((with_reducible apply Evs.bcndF); (focus (simp (disch := omega) [f18] <;> omega))) | ((with_reducible apply Evs.step); (focus ((conv => lhs; simp (disch := omega) [f18]); done)); try dsimp only) | (simp only [sn42, snB]))
    have : arr 16 g = arr 16 (addK w j b) := arr_congr fun k hk => by rw [hg k, if_pos hk]
    unfold H42
    rw [this]
    exact Evs.ret ⟨by simp, _, rfl, by repeat (first | exact hs | refine Same.put rfl ?_)⟩

/-- The substitutes, shifted. -/
theorem sub42 (b : Nat → BitVec 8) (env : Env) (hb : B42 h.length env) (e11 : env.get 11 = P42 h tr) (e12 : env.get 12 = nat 0) :
    Evs (evLoop (evC (cx42 callA12) n42_32) ⟨env, H42 h key b res w (tr ++ [⟨arr 16 fun _ => 0#8, 0, .own⟩])⟩) (fun r => ∃ env', r = (.exit 4, ⟨env', H42 h key b res w (tr ++ [⟨arr 16 (subSh b), 0, .own⟩])⟩) ∧ Same [4, 5, 6, 7, 8, 10, 11] env env') := by
  refine Evs.up 4 (fun q s => ∃ env' g, s = ⟨env', H42 h key b res w (tr ++ [⟨arr 16 g, 0, .own⟩])⟩ ∧ env'.get 12 = nat q ∧ Same [4, 5, 6, 7, 8, 10, 11] env env' ∧ ∀ k, k < 4 * q → g k = subSh b k) ?_ ?_ ⟨_, _, rfl, e12, Same.refl _ _, fun k hk => absurd hk (by omega)⟩
  · rintro q s hq ⟨env', g, rfl, f12, hs, hg⟩
    repeat (first | (with_reducible refine Evs.assoc ?_) | ((with_reducible refine Evs.some_bnd ?_); try dsimp only [sqK_nrm, sqK_exit, sqK_ret]) | ((with_reducible apply Evs.bcndT); (focus (simp (disch := omega) [f12] <;> omega))) | ((with_reducible apply Evs.bcndF); (focus (simp (disch := omega) [f12] <;> omega))) | ((with_reducible apply Evs.step); (focus ((conv => lhs; simp (disch := omega) [f12]); done)); try dsimp only) | (simp only [sn42, snB]))
    refine Evs.bnd (Q := fun r => ∃ env2 g2, r = (.exit 6, ⟨env2, H42 h key b res w (tr ++ [⟨arr 16 g2, 0, .own⟩])⟩) ∧ Same [4, 5, 6, 7, 8, 10, 11, 12] env' env2 ∧ ∀ k, k < 4 * (q + 1) → g2 k = subSh b k) ?_ ?_
    · refine Evs.up 4 (fun p s => ∃ env2 g2, s = ⟨env2, H42 h key b res w (tr ++ [⟨arr 16 g2, 0, .own⟩])⟩ ∧ env2.get 13 = nat p ∧ Same [4, 5, 6, 7, 8, 10, 11, 12] env' env2 ∧ ∀ k, k < 4 * q + p → g2 k = subSh b k) ?_ ?_ ⟨_, g, rfl, by simp, by repeat (first | exact Same.refl _ _ | refine Same.put rfl ?_), fun k hk => hg k (by omega)⟩
      · rintro p s hp ⟨env2, g2, rfl, f13, hs2, hg2⟩
        obtain ⟨b4, b5, b6, b7, b8⟩ := (hb.same (hs.sub rfl)).same (hs2.sub rfl)
        have g12 := (hs2.get 12 rfl).trans f12
        have g11 := ((hs2.get 11 rfl).trans (hs.get 11 rfl)).trans e11
        have e7 : (q + p) % 4 < 4 := Nat.mod_lt _ (by decide)
        unfold H42
        repeat (first | (with_reducible refine Evs.assoc ?_) | ((with_reducible refine Evs.some_bnd ?_); try dsimp only [sqK_nrm, sqK_exit, sqK_ret]) | ((with_reducible apply Evs.bcndT); (focus (simp (disch := omega) [b4, b5, f13, g12, g11] <;> omega))) | ((with_reducible apply Evs.bcndF); (focus (simp (disch := omega) [b4, b5, f13, g12, g11] <;> omega))) | ((with_reducible apply Evs.step); (focus ((conv => lhs; simp (disch := omega) [b4, b5, f13, g12, g11]); done)); try dsimp only) | (simp only [sn42, snB]))
        refine Evs.ret ⟨rfl, _, _, rfl, by simp, by repeat (first | exact hs2 | refine Same.put rfl ?_), fun k hk => ?_⟩
        by_cases hki : k = 4 * q + p
        · subst hki; rw [upd_same, subSh_at b q p hp hq]
        · rw [upd_ne _ _ hki]; exact hg2 k (by omega)
      · rintro s ⟨env2, g2, rfl, f13, hs2, hg2⟩
        repeat (first | (with_reducible refine Evs.assoc ?_) | ((with_reducible refine Evs.some_bnd ?_); try dsimp only [sqK_nrm, sqK_exit, sqK_ret]) | ((with_reducible apply Evs.bcndT); (focus (simp (disch := omega) [f13] <;> omega))) | ((with_reducible apply Evs.bcndF); (focus (simp (disch := omega) [f13] <;> omega))) | ((with_reducible apply Evs.step); (focus ((conv => lhs; simp (disch := omega) [f13]); done)); try dsimp only) | (simp only [sn42, snB]))
        exact Evs.ret ⟨by simp, _, _, rfl, by repeat (first | exact hs2 | refine Same.put rfl ?_), fun k hk => hg2 k (by omega)⟩
    · rintro r ⟨env2, g2, rfl, hs2, hg2⟩
      have g12 := (hs2.get 12 rfl).trans f12
      repeat (first | (with_reducible refine Evs.assoc ?_) | ((with_reducible refine Evs.some_bnd ?_); try dsimp only [sqK_nrm, sqK_exit, sqK_ret]) | ((with_reducible apply Evs.bcndT); (focus (simp (disch := omega) [g12] <;> omega))) | ((with_reducible apply Evs.bcndF); (focus (simp (disch := omega) [g12] <;> omega))) | ((with_reducible apply Evs.step); (focus ((conv => lhs; simp (disch := omega) [g12]); done)); try dsimp only) | (simp only [sn42, snB]))
      refine Evs.ret ⟨rfl, _, _, rfl, by simp, ?_, hg2⟩
      exact Same.put rfl (hs.trans (hs2.sub rfl))
  · rintro s ⟨env', g, rfl, f12, hs, hg⟩
    repeat (first | (with_reducible refine Evs.assoc ?_) | ((with_reducible refine Evs.some_bnd ?_); try dsimp only [sqK_nrm, sqK_exit, sqK_ret]) | ((with_reducible apply Evs.bcndT); (focus (simp (disch := omega) [f12] <;> omega))) | ((with_reducible apply Evs.bcndF); (focus (simp (disch := omega) [f12] <;> omega))) | ((with_reducible apply Evs.step); (focus ((conv => lhs; simp (disch := omega) [f12]); done)); try dsimp only) | (simp only [sn42, snB]))
    have : arr 16 g = arr 16 (subSh b) := arr_congr fun k hk => hg k (by omega)
    rw [this]
    exact Evs.ret ⟨by simp, _, rfl, Same.put rfl hs⟩

/-- The columns' products. -/
theorem mix42 (b c : Nat → BitVec 8) (env : Env) (hb : B42 h.length env) (e11 : env.get 11 = P42 h tr) (e14 : env.get 14 = nat 0) :
    Evs (evLoop (evC (cx42 callA12) n42_59) ⟨env, H42 h key b res w (tr ++ [⟨arr 16 c, 0, .own⟩])⟩) (fun r => ∃ env', r = (.exit 8, ⟨env', H42 h key (mixC c) res w (tr ++ [⟨arr 16 c, 0, .own⟩])⟩) ∧ Same [4, 5, 6, 7, 8, 10, 11] env env') := by
  refine Evs.up 4 (fun q s => ∃ env' g, s = ⟨env', H42 h key g res w (tr ++ [⟨arr 16 c, 0, .own⟩])⟩ ∧ env'.get 14 = nat q ∧ Same [4, 5, 6, 7, 8, 10, 11] env env' ∧ ∀ k, k < 4 * q → g k = mixC c k) ?_ ?_ ⟨_, _, rfl, e14, Same.refl _ _, fun k hk => absurd hk (by omega)⟩
  · rintro q s hq ⟨env', g, rfl, f14, hs, hg⟩
    repeat (first | (with_reducible refine Evs.assoc ?_) | ((with_reducible refine Evs.some_bnd ?_); try dsimp only [sqK_nrm, sqK_exit, sqK_ret]) | ((with_reducible apply Evs.bcndT); (focus (simp (disch := omega) [f14] <;> omega))) | ((with_reducible apply Evs.bcndF); (focus (simp (disch := omega) [f14] <;> omega))) | ((with_reducible apply Evs.step); (focus ((conv => lhs; simp (disch := omega) [f14]); done)); try dsimp only) | (simp only [sn42, snB]))
    refine Evs.bnd (Q := fun r => ∃ env2 g2, r = (.exit 10, ⟨env2, H42 h key g2 res w (tr ++ [⟨arr 16 c, 0, .own⟩])⟩) ∧ Same [4, 5, 6, 7, 8, 10, 11, 14] env' env2 ∧ ∀ k, k < 4 * (q + 1) → g2 k = mixC c k) ?_ ?_
    · refine Evs.up 4 (fun p s => ∃ env2 g2, s = ⟨env2, H42 h key g2 res w (tr ++ [⟨arr 16 c, 0, .own⟩])⟩ ∧ env2.get 15 = nat p ∧ Same [4, 5, 6, 7, 8, 10, 11, 14] env' env2 ∧ ∀ k, k < 4 * q + p → g2 k = mixC c k) ?_ ?_ ⟨_, g, rfl, by simp, by repeat (first | exact Same.refl _ _ | refine Same.put rfl ?_), fun k hk => hg k (by omega)⟩
      · rintro p s hp ⟨env2, g2, rfl, f15, hs2, hg2⟩
        have g14 := (hs2.get 14 rfl).trans f14
        repeat (first | (with_reducible refine Evs.assoc ?_) | ((with_reducible refine Evs.some_bnd ?_); try dsimp only [sqK_nrm, sqK_exit, sqK_ret]) | ((with_reducible apply Evs.bcndT); (focus (simp (disch := omega) [f15, g14] <;> omega))) | ((with_reducible apply Evs.bcndF); (focus (simp (disch := omega) [f15, g14] <;> omega))) | ((with_reducible apply Evs.step); (focus ((conv => lhs; simp (disch := omega) [f15, g14]); done)); try dsimp only) | (simp only [sn42, snB]))
        refine Evs.bnd (Q := fun r => ∃ env3, r = (.exit 12, ⟨env3, H42 h key g2 res w (tr ++ [⟨arr 16 c, 0, .own⟩])⟩) ∧ env3.get 16 = u8 (mixC c (4 * q + p)) ∧ Same [4, 5, 6, 7, 8, 10, 11, 14, 15] env2 env3) ?_ ?_
        · refine Evs.up 4 (fun k s => ∃ env3, s = ⟨env3, H42 h key g2 res w (tr ++ [⟨arr 16 c, 0, .own⟩])⟩ ∧ env3.get 17 = nat k ∧ env3.get 16 = u8 (colF c q p k) ∧ Same [4, 5, 6, 7, 8, 10, 11, 14, 15] env2 env3) ?_ ?_ ⟨_, rfl, by simp, by simp [colF], by repeat (first | exact Same.refl _ _ | refine Same.put rfl ?_)⟩
          · rintro k s hk ⟨env3, rfl, f17, f16, hs3⟩
            obtain ⟨b4, b5, b6, b7, b8⟩ := ((hb.same (hs.sub rfl)).same (hs2.sub rfl)).same (hs3.sub rfl)
            have k11 := (((hs3.get 11 rfl).trans (hs2.get 11 rfl)).trans (hs.get 11 rfl)).trans e11
            have k14 := (hs3.get 14 rfl).trans g14
            have k15 := (hs3.get 15 rfl).trans f15
            unfold H42
            repeat (first | (with_reducible refine Evs.assoc ?_) | ((with_reducible refine Evs.some_bnd ?_); try dsimp only [sqK_nrm, sqK_exit, sqK_ret]) | ((with_reducible apply Evs.bcndT); (focus (simp (disch := omega) [b8, f16, f17, k11, k14, k15] <;> omega))) | ((with_reducible apply Evs.bcndF); (focus (simp (disch := omega) [b8, f16, f17, k11, k14, k15] <;> omega))) | ((with_reducible apply Evs.step); (focus ((conv => lhs; simp (disch := omega) [b8, f16, f17, k11, k14, k15]); done)); try dsimp only) | (simp only [sn42, snB]))
            exact Evs.ret ⟨rfl, _, rfl, by simp, by simp [colF], by repeat (first | exact hs3 | refine Same.put rfl ?_)⟩
          · rintro s ⟨env3, rfl, f17, f16, hs3⟩
            repeat (first | (with_reducible refine Evs.assoc ?_) | ((with_reducible refine Evs.some_bnd ?_); try dsimp only [sqK_nrm, sqK_exit, sqK_ret]) | ((with_reducible apply Evs.bcndT); (focus (simp (disch := omega) [f17] <;> omega))) | ((with_reducible apply Evs.bcndF); (focus (simp (disch := omega) [f17] <;> omega))) | ((with_reducible apply Evs.step); (focus ((conv => lhs; simp (disch := omega) [f17]); done)); try dsimp only) | (simp only [sn42, snB]))
            rw [col_eq c q p hp] at f16
            exact Evs.ret ⟨by simp, _, rfl, by simp [f16], by repeat (first | exact hs3 | refine Same.put rfl ?_)⟩
        · rintro r ⟨env3, rfl, f16, hs3⟩
          obtain ⟨b4, b5, b6, b7, b8⟩ := ((hb.same (hs.sub rfl)).same (hs2.sub rfl)).same (hs3.sub rfl)
          have k14 := (hs3.get 14 rfl).trans g14
          have k15 := (hs3.get 15 rfl).trans f15
          unfold H42
          repeat (first | (with_reducible refine Evs.assoc ?_) | ((with_reducible refine Evs.some_bnd ?_); try dsimp only [sqK_nrm, sqK_exit, sqK_ret]) | ((with_reducible apply Evs.bcndT); (focus (simp (disch := omega) [b4, f16, k14, k15] <;> omega))) | ((with_reducible apply Evs.bcndF); (focus (simp (disch := omega) [b4, f16, k14, k15] <;> omega))) | ((with_reducible apply Evs.step); (focus ((conv => lhs; simp (disch := omega) [b4, f16, k14, k15]); done)); try dsimp only) | (simp only [sn42, snB]))
          refine Evs.ret ⟨rfl, _, _, rfl, by simp, ?_, fun k hk => ?_⟩
          · exact Same.put rfl (hs2.trans (hs3.sub rfl))
          · by_cases hki : k = 4 * q + p
            · subst hki; rw [upd_same]
            · rw [upd_ne _ _ hki]; exact hg2 k (by omega)
      · rintro s ⟨env2, g2, rfl, f15, hs2, hg2⟩
        repeat (first | (with_reducible refine Evs.assoc ?_) | ((with_reducible refine Evs.some_bnd ?_); try dsimp only [sqK_nrm, sqK_exit, sqK_ret]) | ((with_reducible apply Evs.bcndT); (focus (simp (disch := omega) [f15] <;> omega))) | ((with_reducible apply Evs.bcndF); (focus (simp (disch := omega) [f15] <;> omega))) | ((with_reducible apply Evs.step); (focus ((conv => lhs; simp (disch := omega) [f15]); done)); try dsimp only) | (simp only [sn42, snB]))
        exact Evs.ret ⟨by simp, _, _, rfl, by repeat (first | exact hs2 | refine Same.put rfl ?_), fun k hk => hg2 k (by omega)⟩
    · rintro r ⟨env2, g2, rfl, hs2, hg2⟩
      have g14 := (hs2.get 14 rfl).trans f14
      repeat (first | (with_reducible refine Evs.assoc ?_) | ((with_reducible refine Evs.some_bnd ?_); try dsimp only [sqK_nrm, sqK_exit, sqK_ret]) | ((with_reducible apply Evs.bcndT); (focus (simp (disch := omega) [g14] <;> omega))) | ((with_reducible apply Evs.bcndF); (focus (simp (disch := omega) [g14] <;> omega))) | ((with_reducible apply Evs.step); (focus ((conv => lhs; simp (disch := omega) [g14]); done)); try dsimp only) | (simp only [sn42, snB]))
      refine Evs.ret ⟨rfl, _, _, rfl, by simp, ?_, hg2⟩
      exact Same.put rfl (hs.trans (hs2.sub rfl))
  · rintro s ⟨env', g, rfl, f14, hs, hg⟩
    repeat (first | (with_reducible refine Evs.assoc ?_) | ((with_reducible refine Evs.some_bnd ?_); try dsimp only [sqK_nrm, sqK_exit, sqK_ret]) | ((with_reducible apply Evs.bcndT); (focus (simp (disch := omega) [f14] <;> omega))) | ((with_reducible apply Evs.bcndF); (focus (simp (disch := omega) [f14] <;> omega))) | ((with_reducible apply Evs.step); (focus ((conv => lhs; simp (disch := omega) [f14]); done)); try dsimp only) | (simp only [sn42, snB]))
    have : arr 16 g = arr 16 (mixC c) := arr_congr fun k hk => hg k (by omega)
    unfold H42
    rw [this]
    exact Evs.ret ⟨by simp, _, rfl, Same.put rfl hs⟩
end

theorem pre_lt {w : Nat → Nat → BitVec 8} {b : Nat → BitVec 8} {j : Nat} (h : j ≠ 13) : pre w b (j + 1) = mixC (subSh (addK w j (pre w b j))) := by simp [pre, h]
theorem pre_13 {w : Nat → Nat → BitVec 8} {b : Nat → BitVec 8} : pre w b 14 = subSh (addK w 13 (pre w b 13)) := by simp [pre]

/-- The rounds. -/
theorem rounds42 (h : Heap) (key res b : Nat → BitVec 8) (w : Nat → Nat → BitVec 8) (env : Env) (hb : B42 h.length env) (e10 : env.get 10 = nat 1) :
    Evs (evLoop (evC (cx42 callA12) n42_20) ⟨env, H42 h key (addK w 0 b) res w []⟩) (fun r => ∃ env' tr, r = (.exit 2, ⟨env', H42 h key (encF w b) res w tr⟩) ∧ Same [4, 5, 6, 7, 8] env env') := by
  refine Evs.up 14 (fun j s => ∃ env' tr, s = ⟨env', H42 h key (addK w j (pre w b j)) res w tr⟩ ∧ env'.get 10 = nat (j + 1) ∧ Same [4, 5, 6, 7, 8] env env') ?_ ?_ ⟨_, _, rfl, e10, Same.refl _ _⟩
  · rintro j s hj ⟨env', tr, rfl, f10, hs⟩
    have hb' := hb.same hs
    obtain ⟨b4, b5, b6, b7, b8⟩ := hb.same hs
    unfold H42
    repeat (first | (with_reducible refine Evs.assoc ?_) | ((with_reducible refine Evs.some_bnd ?_); try dsimp only [sqK_nrm, sqK_exit, sqK_ret]) | ((with_reducible apply Evs.bcndT); (focus (simp (disch := omega) [f10] <;> omega))) | ((with_reducible apply Evs.bcndF); (focus (simp (disch := omega) [f10] <;> omega))) | ((with_reducible apply Evs.step); (focus ((conv => lhs; simp (disch := omega) [f10]); done)); try dsimp only) | (simp only [sn42, snB]))
    refine Evs.bnd (sub42 h tr key res w (addK w j (pre w b j)) _ ?_ ?_ ?_) ?_
    · exact hb'.same (by repeat (first | exact Same.refl _ _ | refine Same.put rfl ?_))
    · simp
    · simp
    rintro r ⟨env2, rfl, hs2⟩
    have q4 := hs2.get 4 rfl
    have q10 := hs2.get 10 rfl
    have q11 := hs2.get 11 rfl
    simp [b4, f10] at q4 q10 q11
    unfold H42
    have hs3 : Same [4, 5, 6, 7, 8] env env2 := by
      refine Same.trans ?_ (hs2.sub rfl)
      repeat (first | exact hs | refine Same.put rfl ?_)
    by_cases h13 : j = 13
    · subst h13
      repeat (first | (with_reducible refine Evs.assoc ?_) | ((with_reducible refine Evs.some_bnd ?_); try dsimp only [sqK_nrm, sqK_exit, sqK_ret]) | ((with_reducible apply Evs.bcndT); (focus (simp (disch := omega) [q4, q10, q11] <;> omega))) | ((with_reducible apply Evs.bcndF); (focus (simp (disch := omega) [q4, q10, q11] <;> omega))) | ((with_reducible apply Evs.step); (focus ((conv => lhs; simp (disch := omega) [q4, q10, q11]); done)); try dsimp only) | (simp only [sn42, snB]))
      refine Evs.bnd (addB42 h _ key res w 14 (by omega) (subSh (addK w 13 (pre w b 13))) _ ?_ ?_ ?_) ?_
      · exact hb.same (by repeat (first | exact hs3 | refine Same.put rfl ?_))
      · simp [q10]
      · simp
      rintro r ⟨env4, rfl, hs4⟩
      have p10 := hs4.get 10 rfl
      simp [q10] at p10
      rw [← pre_13]
      repeat (first | (with_reducible refine Evs.assoc ?_) | ((with_reducible refine Evs.some_bnd ?_); try dsimp only [sqK_nrm, sqK_exit, sqK_ret]) | ((with_reducible apply Evs.bcndT); (focus (simp (disch := omega) [p10] <;> omega))) | ((with_reducible apply Evs.bcndF); (focus (simp (disch := omega) [p10] <;> omega))) | ((with_reducible apply Evs.step); (focus ((conv => lhs; simp (disch := omega) [p10]); done)); try dsimp only) | (simp only [sn42, snB]))
      refine Evs.ret ⟨rfl, _, _, rfl, by simp, ?_⟩
      refine Same.put rfl (Same.trans ?_ (hs4.sub rfl))
      repeat (first | exact hs3 | refine Same.put rfl ?_)
    · repeat (first | (with_reducible refine Evs.assoc ?_) | ((with_reducible refine Evs.some_bnd ?_); try dsimp only [sqK_nrm, sqK_exit, sqK_ret]) | ((with_reducible apply Evs.bcndT); (focus (simp (disch := omega) [q4, q10, q11] <;> omega))) | ((with_reducible apply Evs.bcndF); (focus (simp (disch := omega) [q4, q10, q11] <;> omega))) | ((with_reducible apply Evs.step); (focus ((conv => lhs; simp (disch := omega) [q4, q10, q11]); done)); try dsimp only) | (simp only [sn42, snB]))
      refine Evs.bnd (mix42 h tr key res w _ (subSh (addK w j (pre w b j))) _ ?_ ?_ ?_) ?_
      · exact hb.same (by repeat (first | exact hs3 | refine Same.put rfl ?_))
      · simp [q11]
      · simp
      rintro r ⟨env4, rfl, hs4⟩
      have p10 := hs4.get 10 rfl
      simp [q10] at p10
      rw [← pre_lt h13]
      have hs5 : Same [4, 5, 6, 7, 8] env env4 := by
        refine Same.trans ?_ (hs4.sub rfl)
        repeat (first | exact hs3 | refine Same.put rfl ?_)
      repeat (first | (with_reducible refine Evs.assoc ?_) | ((with_reducible refine Evs.some_bnd ?_); try dsimp only [sqK_nrm, sqK_exit, sqK_ret]) | ((with_reducible apply Evs.bcndT); (focus (simp (disch := omega) [p10] <;> omega))) | ((with_reducible apply Evs.bcndF); (focus (simp (disch := omega) [p10] <;> omega))) | ((with_reducible apply Evs.step); (focus ((conv => lhs; simp (disch := omega) [p10]); done)); try dsimp only) | (simp only [sn42, snB]))
      refine Evs.bnd (addB42 h _ key res w (j + 1) (by omega) (pre w b (j + 1)) _ ?_ ?_ ?_) ?_
      · exact hb.same (by repeat (first | exact hs5 | refine Same.put rfl ?_))
      · simp [p10]
      · simp
      rintro r ⟨env6, rfl, hs6⟩
      have t10 := hs6.get 10 rfl
      simp [p10] at t10
      repeat (first | (with_reducible refine Evs.assoc ?_) | ((with_reducible refine Evs.some_bnd ?_); try dsimp only [sqK_nrm, sqK_exit, sqK_ret]) | ((with_reducible apply Evs.bcndT); (focus (simp (disch := omega) [t10] <;> omega))) | ((with_reducible apply Evs.bcndF); (focus (simp (disch := omega) [t10] <;> omega))) | ((with_reducible apply Evs.step); (focus ((conv => lhs; simp (disch := omega) [t10]); done)); try dsimp only) | (simp only [sn42, snB]))
      refine Evs.ret ⟨rfl, _, _, rfl, by simp, ?_⟩
      refine Same.put rfl (Same.trans ?_ (hs6.sub rfl))
      repeat (first | exact hs5 | refine Same.put rfl ?_)
  · rintro s ⟨env', tr, rfl, f10, hs⟩
    repeat (first | (with_reducible refine Evs.assoc ?_) | ((with_reducible refine Evs.some_bnd ?_); try dsimp only [sqK_nrm, sqK_exit, sqK_ret]) | ((with_reducible apply Evs.bcndT); (focus (simp (disch := omega) [f10] <;> omega))) | ((with_reducible apply Evs.bcndF); (focus (simp (disch := omega) [f10] <;> omega))) | ((with_reducible apply Evs.step); (focus ((conv => lhs; simp (disch := omega) [f10]); done)); try dsimp only) | (simp only [sn42, snB]))
    exact Evs.ret ⟨by simp, _, _, rfl, by repeat (first | exact hs | refine Same.put rfl ?_)⟩

theorem walk42 (h : Heap) (key b : Nat → BitVec 8) : ∃ t, evBody (cx42 callA12) Try.f42 n42_0 [arr 32 key, arr 16 b, arr 256 sbF] h = some (arr 16 (encF (wd key) b), h ++ t) := by
  rw [b42]
  have main : Evs (evC (cx42 callA12) n42_0 ⟨[(0, arr 32 key), (1, arr 16 b), (2, arr 256 sbF), (3, .junk), (4, .junk), (5, .junk), (6, .junk), (7, .junk), (8, .junk), (9, .junk), (10, .junk), (11, .junk), (12, .junk), (13, .junk), (14, .junk), (15, .junk), (16, .junk), (17, .junk), (18, .junk), (28, .junk), (45, .junk), (49, .junk), (53, .junk), (74, .junk), (76, .junk), (80, .junk), (84, .junk), (108, .junk)], h⟩)
      (fun r => ∃ env t, r = (.ret, ⟨env, h ++ t⟩) ∧ mLoad (.arr 16 (.int .u8)) (env.get 6) (h ++ t) = some (arr 16 (encF (wd key) b))) := by
    obtain ⟨env, he⟩ : ∃ env : Env, env = [(0, arr 32 key), (1, arr 16 b), (2, arr 256 sbF), (3, .junk), (4, .junk), (5, .junk), (6, .junk), (7, .junk), (8, .junk), (9, .junk), (10, .junk), (11, .junk), (12, .junk), (13, .junk), (14, .junk), (15, .junk), (16, .junk), (17, .junk), (18, .junk), (28, .junk), (45, .junk), (49, .junk), (53, .junk), (74, .junk), (76, .junk), (80, .junk), (84, .junk), (108, .junk)] := ⟨_, rfl⟩
    rw [← he]
    have g0 : env.get 0 = arr 32 key := by rw [he]; rfl
    have g1 : env.get 1 = arr 16 b := by rw [he]; rfl
    have g2 : env.get 2 = arr 256 sbF := by rw [he]; rfl
    clear he
    repeat (first | (with_reducible refine Evs.assoc ?_) | ((with_reducible refine Evs.some_bnd ?_); try dsimp only [sqK_nrm, sqK_exit, sqK_ret]) | ((with_reducible apply Evs.bcndT); (focus (simp (disch := omega) [g0, g1, g2, rows_fill0, rows_fill1, rows_fill2, rows_fill3, rows_fill] <;> omega))) | ((with_reducible apply Evs.bcndF); (focus (simp (disch := omega) [g0, g1, g2, rows_fill0, rows_fill1, rows_fill2, rows_fill3, rows_fill] <;> omega))) | ((with_reducible apply Evs.step); (focus ((conv => lhs; simp (disch := omega) [g0, g1, g2, rows_fill0, rows_fill1, rows_fill2, rows_fill3, rows_fill]); done)); try dsimp only) | (simp only [sn42, snB]))
    refine Evs.bnd (addA42 h [] key (fun _ => 0#8) (wd key) b _ ?_ ?_) ?_
    · exact ⟨by simp, by simp, by simp, by simp, by simp⟩
    · simp
    rintro r ⟨env2, rfl, hs2⟩
    have hb : B42 h.length env2 := B42.same ⟨by simp, by simp, by simp, by simp, by simp⟩ hs2
    repeat (first | (with_reducible refine Evs.assoc ?_) | ((with_reducible refine Evs.some_bnd ?_); try dsimp only [sqK_nrm, sqK_exit, sqK_ret]) | ((with_reducible apply Evs.bcndT); (focus (simp (disch := omega) [g0] <;> omega))) | ((with_reducible apply Evs.bcndF); (focus (simp (disch := omega) [g0] <;> omega))) | ((with_reducible apply Evs.step); (focus ((conv => lhs; simp (disch := omega) [g0]); done)); try dsimp only) | (simp only [sn42, snB]))
    refine Evs.bnd (rounds42 h key (fun _ => 0#8) b (wd key) _ ?_ ?_) ?_
    · exact hb.same (by repeat (first | exact Same.refl _ _ | refine Same.put rfl ?_))
    · simp
    rintro r ⟨env3, tr, rfl, hs3⟩
    have hb3 : B42 h.length env3 := B42.same (hb.same (by repeat (first | exact Same.refl _ _ | refine Same.put rfl ?_))) hs3
    obtain ⟨b4, b5, b6, b7, b8⟩ := hb3
    unfold H42
    repeat (first | (with_reducible refine Evs.assoc ?_) | ((with_reducible refine Evs.some_bnd ?_); try dsimp only [sqK_nrm, sqK_exit, sqK_ret]) | ((with_reducible apply Evs.bcndT); (focus (simp (disch := omega) [b4, b6] <;> omega))) | ((with_reducible apply Evs.bcndF); (focus (simp (disch := omega) [b4, b6] <;> omega))) | ((with_reducible apply Evs.step); (focus ((conv => lhs; simp (disch := omega) [b4, b6]); done)); try dsimp only) | (simp only [sn42, snB]))
    refine Evs.ret ⟨_, _, rfl, ?_⟩
    simp [b6]
  obtain ⟨r, hr, env, t, rfl, e0⟩ := main
  refine ⟨t, ?_⟩
  rw [hr]
  simp [e0, oneOrTuple]

noncomputable def c42 := conC (fun x : (Nat → BitVec 8) × (Nat → BitVec 8) => [arr 32 x.1, arr 16 x.2, arr 256 sbF]) (fun _ _ => True) (fun x h => (arr 16 (encF (wd x.1) x.2), h))
noncomputable def callA13 : Calling := addC callA12 42 c42
theorem c42_eq (key b : Nat → BitVec 8) (h : Heap) : c42 [arr 32 key, arr 16 b, arr 256 sbF] h = some (arr 16 (encF (wd key) b), h) :=
  conC_eq (enc := fun x : (Nat → BitVec 8) × (Nat → BitVec 8) => [arr 32 x.1, arr 16 x.2, arr 256 sbF]) (a := (key, b)) (f := fun x h => (arr 16 (encF (wd x.1) x.2), h))
    (fun x y h e => by
      have e1 := arr_inj.1 (List.cons.inj e).1
      have e2 := arr_inj.1 (List.cons.inj (List.cons.inj e).2).1
      simp only [Prod.mk.injEq, and_true]
      exact arr_congr (encF_congr (fun i _ p hp => wd_congr e1 i p hp) e2)) trivial
theorem callA13_ok : CallOK Try.prog callA13 := addC_con callA12_ok k42 fun x h _ => by
  obtain ⟨t, ht⟩ := walk42 h x.1 x.2
  exact (s42 callA12_ok ht).drop0 t rfl
@[simp] theorem callA13_42 (key b : Nat → BitVec 8) (h : Heap) : callA13 42 [arr 32 key, arr 16 b, arr 256 sbF] h = some (arr 16 (encF (wd key) b), h) := by simp [callA13, addC, c42_eq]
@[simp] theorem callA13_43 (h : Heap) : callA13 43 [] h = some (arr 256 sbF, h) := by simp [callA13, addC]
@[simp] theorem callA13_44 (key : Nat → BitVec 8) (h : Heap) : callA13 44 [arr 32 key, arr 256 sbF] h = some (mat 60 4 (wd key), h) := by simp [callA13, addC]
@[simp] theorem callA13_42s (key b : Nat → BitVec 8) (h : Heap) : still callA13 42 [arr 32 key, arr 16 b, arr 256 sbF] h = some (arr 16 (encF (wd key) b), h) := still_of fun t => by simp
@[simp] theorem callA13_43s (h : Heap) : still callA13 43 [] h = some (arr 256 sbF, h) := still_of fun t => by simp
@[simp] theorem callA13_44s (key : Nat → BitVec 8) (h : Heap) : still callA13 44 [arr 32 key, arr 256 sbF] h = some (mat 60 4 (wd key), h) := still_of fun t => by simp

end Go.Vab

/- How the evaluator reads the functions of a seat. Printed by wip/tools/gen.py (own work). -/
namespace Go.Vab
open Go Go.Proofs
noncomputable section
variable (call : Calling) (env : Env) (h : Heap) (s : St)
/-! vestry/vestryref08.Encrypt -/
def cx20 (call : Calling) : Ctx := ⟨call, TT, 9, [5, 6, 7, 8]⟩
def n20_0 : Code := bodyOf Try.f20
def n20_1 : Code := cR n20_0
def n20_2 : Code := cR n20_1
@[simp] theorem n20_2_eq : evC (cx20 call) n20_2 s = some (.ret, s) := xE
theorem n20_1_ok : drawOk (cOps (cL n20_1)).toList = true := by kernel_rfl
@[simp] theorem n20_1_eq : evC (cx20 call) n20_1 ⟨env, h⟩ = (bnd (pureV h (mLoad (.arr 32 (.int .u8)) (env.get 2) h)) fun r0 => bnd (pureV r0.2 (mLoad (.arr 16 (.int .u8)) (env.get 3) r0.2)) fun r1 => bnd (still call 43 [] r1.2) fun r2 => bnd (still call 42 [r0.1, r1.1, r2.1] r2.2) fun r3 => bnd (stU (.arr 16 (.int .u8)) (env.get 4) r3.1 r3.2) fun r4 => evC (cx20 call) n20_2 ⟨env, r4.2⟩) := (xSD 1 (cOps (cL n20_1)) (cR n20_1) n20_1_ok).trans (by
  refine opsK_0 ?_
  refine oP 5 fun r0 => ?_
  refine oP 6 fun r1 => ?_
  refine oP 7 fun r2 => ?_
  refine oP 8 fun r3 => ?_
  refine oN fun r4 => ?_
  exact oE)
@[simp] theorem n20_0_eq : evC (cx20 call) n20_0 ⟨env, h⟩ = (bnd (mNew (.arr 32 (.int .u8)) (env.get 0) h) fun r0 => bnd (mNew (.arr 16 (.int .u8)) (env.get 1) r0.2) fun r1 => bnd (mNew (.arr 16 (.int .u8)) (arr 16 fun _ => 0#8) r1.2) fun r2 => evC (cx20 call) n20_1 ⟨(Env.put (Env.put (Env.put env 2 r0.1) 3 r1.1) 4 r2.1), r2.2⟩) := (xSR 0 (cOps (cL n20_0)) (cR n20_0)).trans (by
  refine opsK_0 ?_
  refine oP 2 fun r0 => ?_
  refine oP 3 fun r1 => ?_
  refine oP 4 fun r2 => ?_
  exact oE)
theorem b20 (call : Calling) (a0 a1 : AV) (h : Heap) : evBody (cx20 call) Try.f20 n20_0 [a0, a1] h = bnd (evC (cx20 call) n20_0 ⟨[(0, a0), (1, a1), (2, .junk), (3, .junk), (4, .junk)], h⟩) (retK fun s => bnd (bnd (mLoad (.arr 16 (.int .u8)) (s.env.get 4) s.heap) fun v => bnd (some []) fun vs => some (v :: vs)) fun vs => some (oneOrTuple vs)) := by kernel_rfl
theorem fn20 : Try.prog.funcs[20]? = some Try.f20 := by kernel_rfl
theorem k20 : Callable Try.prog 20 := ⟨Try.f20, fn20, by kernel_rfl, by kernel_rfl⟩
theorem s20 {call : Calling} (hc : CallOK Try.prog call) {args : List AV} {h h' : Heap} {v : AV} (he : evBody (cx20 call) Try.f20 n20_0 args h = some (v, h')) : Spec Try.prog 20 args h v h' := body_sound (C := cx20 call) TT_ok hc mixed_ok fn20 (by kernel_rfl) (by kernel_rfl) he
def sn20 := Y n20_2_eq (Y n20_1_eq (n20_0_eq))
end
end Go.Vab

/-
  The document's block, whole.
-/
namespace Go.Vab
open Go Go.Proofs

theorem walk20 (h : Heap) (key b : Nat → BitVec 8) : ∃ t, evBody (cx20 callA13) Try.f20 n20_0 [arr 32 key, arr 16 b] h = some (arr 16 (encF (wd key) b), h ++ t) := by
  rw [b20]
  have main : Evs (evC (cx20 callA13) n20_0 ⟨[(0, arr 32 key), (1, arr 16 b), (2, .junk), (3, .junk), (4, .junk)], h⟩) (fun r => ∃ env t, r = (.ret, ⟨env, h ++ t⟩) ∧ mLoad (.arr 16 (.int .u8)) (env.get 4) (h ++ t) = some (arr 16 (encF (wd key) b))) := by
    obtain ⟨env, he⟩ : ∃ env : Env, env = [(0, arr 32 key), (1, arr 16 b), (2, .junk), (3, .junk), (4, .junk)] := ⟨_, rfl⟩
    rw [← he]
    have g0 : env.get 0 = arr 32 key := by rw [he]; rfl
    have g1 : env.get 1 = arr 16 b := by rw [he]; rfl
    clear he
    repeat (first | (with_reducible refine Evs.assoc ?_) | ((with_reducible refine Evs.some_bnd ?_); try dsimp only [sqK_nrm, sqK_exit, sqK_ret]) | ((with_reducible apply Evs.bcndT); (focus (simp (disch := omega) [g0, g1] <;> omega))) | ((with_reducible apply Evs.bcndF); (focus (simp (disch := omega) [g0, g1] <;> omega))) | ((with_reducible apply Evs.step); (focus ((conv => lhs; simp (disch := omega) [g0, g1]); done)); try dsimp only) | (simp only [sn20, snB]))
    exact Evs.ret ⟨_, _, rfl, by simp⟩
  obtain ⟨r, hr, env, t, rfl, e0⟩ := main
  refine ⟨t, ?_⟩
  rw [hr]
  simp [e0, oneOrTuple]

noncomputable def c20 := conC (fun x : (Nat → BitVec 8) × (Nat → BitVec 8) => [arr 32 x.1, arr 16 x.2]) (fun _ _ => True) (fun x h => (arr 16 (encF (wd x.1) x.2), h))
noncomputable def callA14 : Calling := addC callA13 20 c20
theorem c20_eq (key b : Nat → BitVec 8) (h : Heap) : c20 [arr 32 key, arr 16 b] h = some (arr 16 (encF (wd key) b), h) :=
  conC_eq (enc := fun x : (Nat → BitVec 8) × (Nat → BitVec 8) => [arr 32 x.1, arr 16 x.2]) (a := (key, b)) (f := fun x h => (arr 16 (encF (wd x.1) x.2), h))
    (fun x y h e => by
      have e1 := arr_inj.1 (List.cons.inj e).1
      have e2 := arr_inj.1 (List.cons.inj (List.cons.inj e).2).1
      simp only [Prod.mk.injEq, and_true]
      exact arr_congr (encF_congr (fun i _ p hp => wd_congr e1 i p hp) e2)) trivial
theorem callA14_ok : CallOK Try.prog callA14 := addC_con callA13_ok k20 fun x h _ => by
  obtain ⟨t, ht⟩ := walk20 h x.1 x.2
  exact (s20 callA13_ok ht).drop0 t rfl

@[simp] theorem callA14_20 (key b : Nat → BitVec 8) (h : Heap) : callA14 20 [arr 32 key, arr 16 b] h = some (arr 16 (encF (wd key) b), h) := by simp [callA14, addC, c20_eq]
@[simp] theorem callA14_19 (key b : Nat → BitVec 8) (h : Heap) : callA14 19 [arr 32 key, arr 16 b] h = some (arr 16 (encF (wd key) b), h) := by simp [callA14, callA13, callA12, callA11, callA10, callA9, callA8, callA7, callA6, addC]
@[simp] theorem callA14_42 (key b : Nat → BitVec 8) (h : Heap) : callA14 42 [arr 32 key, arr 16 b, arr 256 sbF] h = some (arr 16 (encF (wd key) b), h) := by simp [callA14, addC]
@[simp] theorem callA14_43 (h : Heap) : callA14 43 [] h = some (arr 256 sbF, h) := by simp [callA14, addC]
@[simp] theorem callA14_20s (key b : Nat → BitVec 8) (h : Heap) : still callA14 20 [arr 32 key, arr 16 b] h = some (arr 16 (encF (wd key) b), h) := still_of fun t => by simp
@[simp] theorem callA14_19s (key b : Nat → BitVec 8) (h : Heap) : still callA14 19 [arr 32 key, arr 16 b] h = some (arr 16 (encF (wd key) b), h) := still_of fun t => by simp
@[simp] theorem callA14_42s (key b : Nat → BitVec 8) (h : Heap) : still callA14 42 [arr 32 key, arr 16 b, arr 256 sbF] h = some (arr 16 (encF (wd key) b), h) := still_of fun t => by simp
@[simp] theorem callA14_43s (h : Heap) : still callA14 43 [] h = some (arr 256 sbF, h) := still_of fun t => by simp

end Go.Vab

/- How the evaluator reads the functions of a seat. Printed by wip/tools/gen.py (own work). -/
namespace Go.Vab
open Go Go.Proofs
noncomputable section
variable (call : Calling) (env : Env) (h : Heap) (s : St)
/-! vestry/siv.of -/
def cx50 (call : Calling) : Ctx := ⟨call, TT, 28, [4, 6, 7, 8, 9, 10, 11, 12, 13, 14, 15, 16, 17, 18, 19, 20, 21, 22, 23, 24, 25, 26, 27]⟩
def n50_0 : Code := bodyOf Try.f50
def n50_1 : Code := cR n50_0
def n50_2 : Code := cL n50_1
def n50_3 : Code := cR n50_2
def n50_4 : Code := cB n50_3
def n50_5 : Code := cB n50_4
def n50_6 : Code := cL n50_5
def n50_7 : Code := cR n50_6
def n50_8 : Code := cL n50_7
def n50_9 : Code := cR n50_7
def n50_10 : Code := cR n50_5
def n50_11 : Code := cL n50_10
def n50_12 : Code := cB n50_11
def n50_13 : Code := cR n50_12
def n50_14 : Code := cR n50_10
def n50_15 : Code := cR n50_1
def n50_16 : Code := cR n50_15
@[simp] theorem n50_8_eq : evC (cx50 call) n50_8 s = some (.nrm, s) := xK
@[simp] theorem n50_9_eq : evC (cx50 call) n50_9 s = some (.exit 0, s) := xX 0
@[simp] theorem n50_7_eq : evC (cx50 call) n50_7 s = cnd (s.env.get 5) (evC (cx50 call) n50_8 s) (evC (cx50 call) n50_9 s) := xC 5 _ _
@[simp] theorem n50_6_eq : evC (cx50 call) n50_6 ⟨env, h⟩ = (bnd (pureV h (mBin .geq (env.get 3) (nat 0))) fun r1 => evC (cx50 call) n50_7 ⟨(Env.put env 5 r1.1), r1.2⟩) := (xSR 2 (cOps (cL n50_6)) (cR n50_6)).trans (by
  refine opsK_0 ?_
  refine oT 4 (env.get 3) ?_
  refine oP 5 fun r1 => ?_
  exact oE)
theorem n50_13_ok : drawOk (cOps n50_13).toList = true := by kernel_rfl
@[simp] theorem n50_13_eq : evC (cx50 call) n50_13 ⟨env, h⟩ = (bnd (pureV h (mFieldAddr ty66 (env.get 2) 1)) fun r0 => bnd (pureV r0.2 (mLoad (.int .u64) r0.1 r0.2)) fun r1 => bnd (pureV r1.2 (mBin .shl r1.1 (u64 8#64))) fun r2 => bnd (pureV r2.2 (mBin .add (env.get 3) (nat 8))) fun r4 => bnd (pureV r4.2 (mIdxA (.arr 16 (.int .u8)) (env.get 1) r4.1)) fun r5 => bnd (pureV r5.2 (mLoad (.int .u8) r5.1 r5.2)) fun r6 => bnd (pureV r6.2 (mConv .u64 r6.1)) fun r7 => bnd (pureV r7.2 (mBin .or r2.1 r7.1)) fun r8 => bnd (pureV r8.2 (mFieldAddr ty66 (env.get 2) 1)) fun r9 => bnd (stU (.int .u64) r9.1 r8.1 r9.2) fun r10 => some (.nrm, ⟨env, r10.2⟩)) := (xD 5 (cOps n50_13) n50_13_ok).trans (by
  refine opsK_0 ?_
  refine oP 17 fun r0 => ?_
  refine oP 18 fun r1 => ?_
  refine oP 19 fun r2 => ?_
  refine oT 20 (env.get 3) ?_
  refine oP 21 fun r4 => ?_
  refine oP 22 fun r5 => ?_
  refine oP 23 fun r6 => ?_
  refine oP 24 fun r7 => ?_
  refine oP 25 fun r8 => ?_
  refine oP 26 fun r9 => ?_
  refine oN fun r10 => ?_
  exact oE)
theorem n50_12_ok : drawOk (cOps (cL n50_12)).toList = true := by kernel_rfl
@[simp] theorem n50_12_eq : evC (cx50 call) n50_12 ⟨env, h⟩ = (bnd (pureV h (mFieldAddr ty66 (env.get 2) 0)) fun r0 => bnd (pureV r0.2 (mLoad (.int .u64) r0.1 r0.2)) fun r1 => bnd (pureV r1.2 (mBin .shl r1.1 (u64 8#64))) fun r2 => bnd (pureV r2.2 (mIdxA (.arr 16 (.int .u8)) (env.get 1) (env.get 3))) fun r4 => bnd (pureV r4.2 (mLoad (.int .u8) r4.1 r4.2)) fun r5 => bnd (pureV r5.2 (mConv .u64 r5.1)) fun r6 => bnd (pureV r6.2 (mBin .or r2.1 r6.1)) fun r7 => bnd (pureV r7.2 (mFieldAddr ty66 (env.get 2) 0)) fun r8 => bnd (stU (.int .u64) r8.1 r7.1 r8.2) fun r9 => evC (cx50 call) n50_13 ⟨env, r9.2⟩) := (xSD 4 (cOps (cL n50_12)) (cR n50_12) n50_12_ok).trans (by
  refine opsK_0 ?_
  refine oP 8 fun r0 => ?_
  refine oP 9 fun r1 => ?_
  refine oP 10 fun r2 => ?_
  refine oT 11 (env.get 3) ?_
  refine oP 12 fun r4 => ?_
  refine oP 13 fun r5 => ?_
  refine oP 14 fun r6 => ?_
  refine oP 15 fun r7 => ?_
  refine oP 16 fun r8 => ?_
  refine oN fun r9 => ?_
  exact oE)
@[simp] theorem n50_11_eq : evC (cx50 call) n50_11 s = bnd (evC (cx50 call) n50_12 s) fun r => some (inBlk 1 r) := xB 1 _
@[simp] theorem n50_14_eq : evC (cx50 call) n50_14 ⟨env, h⟩ = (bnd (pureV h (mBin .sub (env.get 3) (nat 1))) fun r1 => some (.nrm, ⟨(Env.put env 3 r1.1), r1.2⟩)) := (xR 3 (cOps n50_14)).trans (by
  refine opsK_0 ?_
  refine oT 6 (env.get 3) ?_
  refine oP 7 fun r1 => ?_
  refine oT 3 r1.1 ?_
  exact oE)
@[simp] theorem n50_10_eq : evC (cx50 call) n50_10 s = bnd (evC (cx50 call) n50_11 s) (sqK (evC (cx50 call) n50_14)) := xS _ _
@[simp] theorem n50_5_eq : evC (cx50 call) n50_5 s = bnd (evC (cx50 call) n50_6 s) (sqK (evC (cx50 call) n50_10)) := xS _ _
@[simp] theorem n50_4_eq : evC (cx50 call) n50_4 s = evLoop (evC (cx50 call) n50_5) s := xL _
@[simp] theorem n50_3_eq : evC (cx50 call) n50_3 s = bnd (evC (cx50 call) n50_4 s) fun r => some (inBlk 0 r) := xB 0 _
@[simp] theorem n50_2_eq : evC (cx50 call) n50_2 ⟨env, h⟩ = ( evC (cx50 call) n50_3 ⟨(Env.put env 3 (nat 7)), h⟩) := (xSR 1 (cOps (cL n50_2)) (cR n50_2)).trans (by
  refine opsK_0 ?_
  refine oT 3 (nat 7) ?_
  exact oE)
@[simp] theorem n50_16_eq : evC (cx50 call) n50_16 s = some (.ret, s) := xE
@[simp] theorem n50_15_eq : evC (cx50 call) n50_15 ⟨env, h⟩ = (bnd (pureV h (mLoad ty66 (env.get 2) h)) fun r0 => bnd (stU ty66 (env.get 2) r0.1 r0.2) fun r1 => evC (cx50 call) n50_16 ⟨env, r1.2⟩) := (xSR 6 (cOps (cL n50_15)) (cR n50_15)).trans (by
  refine opsK_0 ?_
  refine oP 27 fun r0 => ?_
  refine oN fun r1 => ?_
  exact oE)
@[simp] theorem n50_1_eq : evC (cx50 call) n50_1 s = bnd (evC (cx50 call) n50_2 s) (sqK (evC (cx50 call) n50_15)) := xS _ _
@[simp] theorem n50_0_eq : evC (cx50 call) n50_0 ⟨env, h⟩ = (bnd (mNew (.arr 16 (.int .u8)) (env.get 0) h) fun r0 => bnd (mNew ty66 (.node [(u64 0#64), (u64 0#64)]) r0.2) fun r1 => evC (cx50 call) n50_1 ⟨(Env.put (Env.put env 1 r0.1) 2 r1.1), r1.2⟩) := (xSR 0 (cOps (cL n50_0)) (cR n50_0)).trans (by
  refine opsK_0 ?_
  refine oP 1 fun r0 => ?_
  refine oP 2 fun r1 => ?_
  exact oE)
theorem b50 (call : Calling) (a0 : AV) (h : Heap) : evBody (cx50 call) Try.f50 n50_0 [a0] h = bnd (evC (cx50 call) n50_0 ⟨[(0, a0), (1, .junk), (2, .junk), (3, .junk), (5, .junk)], h⟩) (retK fun s => bnd (bnd (mLoad ty66 (s.env.get 2) s.heap) fun v => bnd (some []) fun vs => some (v :: vs)) fun vs => some (oneOrTuple vs)) := by kernel_rfl
theorem fn50 : Try.prog.funcs[50]? = some Try.f50 := by kernel_rfl
theorem k50 : Callable Try.prog 50 := ⟨Try.f50, fn50, by kernel_rfl, by kernel_rfl⟩
theorem s50 {call : Calling} (hc : CallOK Try.prog call) {args : List AV} {h h' : Heap} {v : AV} (he : evBody (cx50 call) Try.f50 n50_0 args h = some (v, h')) : Spec Try.prog 50 args h v h' := body_sound (C := cx50 call) TT_ok hc mixed_ok fn50 (by kernel_rfl) (by kernel_rfl) he
def sn50 := Y n50_8_eq (Y n50_9_eq (Y n50_7_eq (Y n50_6_eq (Y n50_13_eq (Y n50_12_eq (Y n50_11_eq (Y n50_14_eq (Y n50_10_eq (Y n50_5_eq (Y n50_4_eq (Y n50_3_eq (Y n50_2_eq (Y n50_16_eq (Y n50_15_eq (Y n50_1_eq (n50_0_eq))))))))))))))))
end
end Go.Vab

/- How the evaluator reads the functions of a seat. Printed by wip/tools/gen.py (own work). -/
namespace Go.Vab
open Go Go.Proofs
noncomputable section
variable (call : Calling) (env : Env) (h : Heap) (s : St)
/-! (vestry/siv.element).bytes -/
def cx52 (call : Calling) : Ctx := ⟨call, TT, 26, [6, 7, 8, 9, 10, 11, 12, 13, 14, 15, 16, 17, 18, 19, 20, 21, 22, 23, 24, 25]⟩
def n52_0 : Code := bodyOf Try.f52
def n52_1 : Code := cR n52_0
def n52_2 : Code := cL n52_1
def n52_3 : Code := cR n52_2
def n52_4 : Code := cB n52_3
def n52_5 : Code := cB n52_4
def n52_6 : Code := cR n52_5
def n52_7 : Code := cL n52_6
def n52_8 : Code := cL n52_7
def n52_9 : Code := cR n52_7
def n52_10 : Code := cR n52_6
def n52_11 : Code := cL n52_10
def n52_12 : Code := cB n52_11
def n52_13 : Code := cR n52_12
def n52_14 : Code := cR n52_13
def n52_15 : Code := cR n52_10
def n52_16 : Code := cR n52_1
def n52_17 : Code := cR n52_16
@[simp] theorem n52_8_eq : evC (cx52 call) n52_8 s = some (.nrm, s) := xK
@[simp] theorem n52_9_eq : evC (cx52 call) n52_9 s = some (.exit 0, s) := xX 0
@[simp] theorem n52_7_eq : evC (cx52 call) n52_7 s = cnd (s.env.get 5) (evC (cx52 call) n52_8 s) (evC (cx52 call) n52_9 s) := xC 5 _ _
@[simp] theorem n52_14_eq : evC (cx52 call) n52_14 ⟨env, h⟩ = (bnd (pureV h (mBin .add (env.get 3) (nat 8))) fun r1 => bnd (pureV r1.2 (mFieldAddr ty66 (env.get 1) 1)) fun r2 => bnd (pureV r2.2 (mLoad (.int .u64) r2.1 r2.2)) fun r3 => bnd (pureV r3.2 (mBin .mul (nat 8) (env.get 3))) fun r5 => bnd (pureV r5.2 (mBin .shr r3.1 r5.1)) fun r6 => bnd (pureV r6.2 (mConv .u8 r6.1)) fun r7 => bnd (pureV r7.2 (mIdxA (.arr 16 (.int .u8)) (env.get 2) r1.1)) fun r8 => bnd (stU (.int .u8) r8.1 r7.1 r8.2) fun r9 => some (.nrm, ⟨env, r9.2⟩)) := (xR 5 (cOps n52_14)).trans (by
  refine opsK_0 ?_
  refine oT 15 (env.get 3) ?_
  refine oP 16 fun r1 => ?_
  refine oP 17 fun r2 => ?_
  refine oP 18 fun r3 => ?_
  refine oT 19 (env.get 3) ?_
  refine oP 20 fun r5 => ?_
  refine oP 21 fun r6 => ?_
  refine oP 22 fun r7 => ?_
  refine oP 23 fun r8 => ?_
  refine oN fun r9 => ?_
  exact oE)
@[simp] theorem n52_13_eq : evC (cx52 call) n52_13 ⟨env, h⟩ = (bnd (pureV h (mFieldAddr ty66 (env.get 1) 0)) fun r1 => bnd (pureV r1.2 (mLoad (.int .u64) r1.1 r1.2)) fun r2 => bnd (pureV r2.2 (mBin .mul (nat 8) (env.get 3))) fun r4 => bnd (pureV r4.2 (mBin .shr r2.1 r4.1)) fun r5 => bnd (pureV r5.2 (mConv .u8 r5.1)) fun r6 => bnd (pureV r6.2 (mIdxA (.arr 16 (.int .u8)) (env.get 2) (env.get 3))) fun r7 => bnd (stU (.int .u8) r7.1 r6.1 r7.2) fun r8 => evC (cx52 call) n52_14 ⟨env, r8.2⟩) := (xSR 4 (cOps (cL n52_13)) (cR n52_13)).trans (by
  refine opsK_0 ?_
  refine oT 7 (env.get 3) ?_
  refine oP 8 fun r1 => ?_
  refine oP 9 fun r2 => ?_
  refine oT 10 (env.get 3) ?_
  refine oP 11 fun r4 => ?_
  refine oP 12 fun r5 => ?_
  refine oP 13 fun r6 => ?_
  refine oP 14 fun r7 => ?_
  refine oN fun r8 => ?_
  exact oE)
@[simp] theorem n52_12_eq : evC (cx52 call) n52_12 ⟨env, h⟩ = ( evC (cx52 call) n52_13 ⟨(Env.put env 3 (env.get 4)), h⟩) := (xSR 3 (cOps (cL n52_12)) (cR n52_12)).trans (by
  refine opsK_0 ?_
  refine oT 6 (env.get 4) ?_
  refine oT 3 (env.get 4) ?_
  exact oE)
@[simp] theorem n52_11_eq : evC (cx52 call) n52_11 s = bnd (evC (cx52 call) n52_12 s) fun r => some (inBlk 1 r) := xB 1 _
@[simp] theorem n52_15_eq : evC (cx52 call) n52_15 ⟨env, h⟩ = (bnd (pureV h (mBin .add (env.get 4) (nat 1))) fun r0 => some (.nrm, ⟨(Env.put env 4 r0.1), r0.2⟩)) := (xR 6 (cOps n52_15)).trans (by
  refine opsK_0 ?_
  refine oP 24 fun r0 => ?_
  refine oT 4 r0.1 ?_
  exact oE)
@[simp] theorem n52_10_eq : evC (cx52 call) n52_10 s = bnd (evC (cx52 call) n52_11 s) (sqK (evC (cx52 call) n52_15)) := xS _ _
@[simp] theorem n52_6_eq : evC (cx52 call) n52_6 s = bnd (evC (cx52 call) n52_7 s) (sqK (evC (cx52 call) n52_10)) := xS _ _
@[simp] theorem n52_5_eq : evC (cx52 call) n52_5 ⟨env, h⟩ = (bnd (pureV h (mBin .lss (env.get 4) (nat 8))) fun r0 => evC (cx52 call) n52_6 ⟨(Env.put env 5 r0.1), r0.2⟩) := (xSR 2 (cOps (cL n52_5)) (cR n52_5)).trans (by
  refine opsK_0 ?_
  refine oP 5 fun r0 => ?_
  exact oE)
@[simp] theorem n52_4_eq : evC (cx52 call) n52_4 s = evLoop (evC (cx52 call) n52_5) s := xL _
@[simp] theorem n52_3_eq : evC (cx52 call) n52_3 s = bnd (evC (cx52 call) n52_4 s) fun r => some (inBlk 0 r) := xB 0 _
@[simp] theorem n52_2_eq : evC (cx52 call) n52_2 ⟨env, h⟩ = ( evC (cx52 call) n52_3 ⟨(Env.put env 4 (nat 0)), h⟩) := (xSR 1 (cOps (cL n52_2)) (cR n52_2)).trans (by
  refine opsK_0 ?_
  refine oT 4 (nat 0) ?_
  exact oE)
@[simp] theorem n52_17_eq : evC (cx52 call) n52_17 s = some (.ret, s) := xE
@[simp] theorem n52_16_eq : evC (cx52 call) n52_16 ⟨env, h⟩ = (bnd (pureV h (mLoad (.arr 16 (.int .u8)) (env.get 2) h)) fun r0 => bnd (stU (.arr 16 (.int .u8)) (env.get 2) r0.1 r0.2) fun r1 => evC (cx52 call) n52_17 ⟨env, r1.2⟩) := (xSR 7 (cOps (cL n52_16)) (cR n52_16)).trans (by
  refine opsK_0 ?_
  refine oP 25 fun r0 => ?_
  refine oN fun r1 => ?_
  exact oE)
@[simp] theorem n52_1_eq : evC (cx52 call) n52_1 s = bnd (evC (cx52 call) n52_2 s) (sqK (evC (cx52 call) n52_16)) := xS _ _
@[simp] theorem n52_0_eq : evC (cx52 call) n52_0 ⟨env, h⟩ = (bnd (mNew ty66 (env.get 0) h) fun r0 => bnd (mNew (.arr 16 (.int .u8)) (arr 16 fun _ => 0#8) r0.2) fun r1 => evC (cx52 call) n52_1 ⟨(Env.put (Env.put env 1 r0.1) 2 r1.1), r1.2⟩) := (xSR 0 (cOps (cL n52_0)) (cR n52_0)).trans (by
  refine opsK_0 ?_
  refine oP 1 fun r0 => ?_
  refine oP 2 fun r1 => ?_
  exact oE)
theorem b52 (call : Calling) (a0 : AV) (h : Heap) : evBody (cx52 call) Try.f52 n52_0 [a0] h = bnd (evC (cx52 call) n52_0 ⟨[(0, a0), (1, .junk), (2, .junk), (3, .junk), (4, .junk), (5, .junk)], h⟩) (retK fun s => bnd (bnd (mLoad (.arr 16 (.int .u8)) (s.env.get 2) s.heap) fun v => bnd (some []) fun vs => some (v :: vs)) fun vs => some (oneOrTuple vs)) := by kernel_rfl
theorem fn52 : Try.prog.funcs[52]? = some Try.f52 := by kernel_rfl
theorem k52 : Callable Try.prog 52 := ⟨Try.f52, fn52, by kernel_rfl, by kernel_rfl⟩
theorem s52 {call : Calling} (hc : CallOK Try.prog call) {args : List AV} {h h' : Heap} {v : AV} (he : evBody (cx52 call) Try.f52 n52_0 args h = some (v, h')) : Spec Try.prog 52 args h v h' := body_sound (C := cx52 call) TT_ok hc mixed_ok fn52 (by kernel_rfl) (by kernel_rfl) he
def sn52 := Y n52_8_eq (Y n52_9_eq (Y n52_7_eq (Y n52_14_eq (Y n52_13_eq (Y n52_12_eq (Y n52_11_eq (Y n52_15_eq (Y n52_10_eq (Y n52_6_eq (Y n52_5_eq (Y n52_4_eq (Y n52_3_eq (Y n52_2_eq (Y n52_17_eq (Y n52_16_eq (Y n52_1_eq (n52_0_eq)))))))))))))))))
end
end Go.Vab

/- How the evaluator reads the functions of a seat. Printed by wip/tools/gen.py (own work). -/
namespace Go.Vab
open Go Go.Proofs
noncomputable section
variable (call : Calling) (env : Env) (h : Heap) (s : St)
/-! (vestry/siv.element).plus -/
def cx59 (call : Calling) : Ctx := ⟨call, TT, 16, [5, 6, 7, 8, 9, 10, 11, 12, 13, 14, 15]⟩
def n59_0 : Code := bodyOf Try.f59
def n59_1 : Code := cR n59_0
def n59_2 : Code := cR n59_1
@[simp] theorem n59_2_eq : evC (cx59 call) n59_2 s = some (.ret, s) := xE
@[simp] theorem n59_1_eq : evC (cx59 call) n59_1 ⟨env, h⟩ = (bnd (pureV h (mFieldAddr ty66 (env.get 2) 0)) fun r0 => bnd (pureV r0.2 (mLoad (.int .u64) r0.1 r0.2)) fun r1 => bnd (pureV r1.2 (mFieldAddr ty66 (env.get 3) 0)) fun r2 => bnd (pureV r2.2 (mLoad (.int .u64) r2.1 r2.2)) fun r3 => bnd (pureV r3.2 (mBin .xor r1.1 r3.1)) fun r4 => bnd (pureV r4.2 (mFieldAddr ty66 (env.get 2) 1)) fun r5 => bnd (pureV r5.2 (mLoad (.int .u64) r5.1 r5.2)) fun r6 => bnd (pureV r6.2 (mFieldAddr ty66 (env.get 3) 1)) fun r7 => bnd (pureV r7.2 (mLoad (.int .u64) r7.1 r7.2)) fun r8 => bnd (pureV r8.2 (mBin .xor r6.1 r8.1)) fun r9 => bnd (pureV r9.2 (fillRow ty66 (.node [(u64 0#64), (u64 0#64)]) [(0, r4.1), (1, r9.1)])) fun r10 => bnd (stU ty66 (env.get 4) r10.1 r10.2) fun r11 => evC (cx59 call) n59_2 ⟨env, r11.2⟩) := (xSR 1 (cOps (cL n59_1)) (cR n59_1)).trans (by
  refine opsK_0 ?_
  refine oP 5 fun r0 => ?_
  refine oP 6 fun r1 => ?_
  refine oP 7 fun r2 => ?_
  refine oP 8 fun r3 => ?_
  refine oP 9 fun r4 => ?_
  refine oP 10 fun r5 => ?_
  refine oP 11 fun r6 => ?_
  refine oP 12 fun r7 => ?_
  refine oP 13 fun r8 => ?_
  refine oP 14 fun r9 => ?_
  refine oP 15 fun r10 => ?_
  refine oN fun r11 => ?_
  exact oE)
@[simp] theorem n59_0_eq : evC (cx59 call) n59_0 ⟨env, h⟩ = (bnd (mNew ty66 (env.get 0) h) fun r0 => bnd (mNew ty66 (env.get 1) r0.2) fun r1 => bnd (mNew ty66 (.node [(u64 0#64), (u64 0#64)]) r1.2) fun r2 => evC (cx59 call) n59_1 ⟨(Env.put (Env.put (Env.put env 2 r0.1) 3 r1.1) 4 r2.1), r2.2⟩) := (xSR 0 (cOps (cL n59_0)) (cR n59_0)).trans (by
  refine opsK_0 ?_
  refine oP 2 fun r0 => ?_
  refine oP 3 fun r1 => ?_
  refine oP 4 fun r2 => ?_
  exact oE)
theorem b59 (call : Calling) (a0 a1 : AV) (h : Heap) : evBody (cx59 call) Try.f59 n59_0 [a0, a1] h = bnd (evC (cx59 call) n59_0 ⟨[(0, a0), (1, a1), (2, .junk), (3, .junk), (4, .junk)], h⟩) (retK fun s => bnd (bnd (mLoad ty66 (s.env.get 4) s.heap) fun v => bnd (some []) fun vs => some (v :: vs)) fun vs => some (oneOrTuple vs)) := by kernel_rfl
theorem fn59 : Try.prog.funcs[59]? = some Try.f59 := by kernel_rfl
theorem k59 : Callable Try.prog 59 := ⟨Try.f59, fn59, by kernel_rfl, by kernel_rfl⟩
theorem s59 {call : Calling} (hc : CallOK Try.prog call) {args : List AV} {h h' : Heap} {v : AV} (he : evBody (cx59 call) Try.f59 n59_0 args h = some (v, h')) : Spec Try.prog 59 args h v h' := body_sound (C := cx59 call) TT_ok hc mixed_ok fn59 (by kernel_rfl) (by kernel_rfl) he
def sn59 := Y n59_2_eq (Y n59_1_eq (n59_0_eq))
end
end Go.Vab

/- How the evaluator reads the functions of a seat. Printed by wip/tools/gen.py (own work). -/
namespace Go.Vab
open Go Go.Proofs
noncomputable section
variable (call : Calling) (env : Env) (h : Heap) (s : St)
/-! (vestry/siv.element).dot -/
def cx51 (call : Calling) : Ctx := ⟨call, TT, 49, [11, 12, 13, 14, 16, 17, 18, 19, 20, 21, 22, 24, 25, 26, 27, 28, 29, 30, 31, 32, 33, 34, 35, 36, 37, 38, 39, 40, 41, 43, 44, 45, 46, 47, 48]⟩
def n51_0 : Code := bodyOf Try.f51
def n51_1 : Code := cR n51_0
def n51_2 : Code := cR n51_1
def n51_3 : Code := cL n51_2
def n51_4 : Code := cR n51_3
def n51_5 : Code := cB n51_4
def n51_6 : Code := cB n51_5
def n51_7 : Code := cR n51_6
def n51_8 : Code := cL n51_7
def n51_9 : Code := cL n51_8
def n51_10 : Code := cR n51_8
def n51_11 : Code := cR n51_7
def n51_12 : Code := cL n51_11
def n51_13 : Code := cB n51_12
def n51_14 : Code := cR n51_13
def n51_15 : Code := cR n51_14
def n51_16 : Code := cL n51_15
def n51_17 : Code := cR n51_16
def n51_18 : Code := cL n51_17
def n51_19 : Code := cR n51_17
def n51_20 : Code := cR n51_15
def n51_21 : Code := cL n51_20
def n51_22 : Code := cR n51_21
def n51_23 : Code := cL n51_22
def n51_24 : Code := cR n51_22
def n51_25 : Code := cR n51_20
def n51_26 : Code := cR n51_25
def n51_27 : Code := cR n51_26
def n51_28 : Code := cR n51_27
def n51_29 : Code := cL n51_28
def n51_30 : Code := cR n51_28
def n51_31 : Code := cR n51_11
def n51_32 : Code := cR n51_2
def n51_33 : Code := cR n51_32
@[simp] theorem n51_9_eq : evC (cx51 call) n51_9 s = some (.nrm, s) := xK
@[simp] theorem n51_10_eq : evC (cx51 call) n51_10 s = some (.exit 0, s) := xX 0
@[simp] theorem n51_8_eq : evC (cx51 call) n51_8 s = cnd (s.env.get 10) (evC (cx51 call) n51_9 s) (evC (cx51 call) n51_10 s) := xC 10 _ _
@[simp] theorem n51_18_eq : evC (cx51 call) n51_18 ⟨env, h⟩ = (bnd (pureV h (mFieldAddr ty66 (env.get 2) 1)) fun r0 => bnd (pureV r0.2 (mLoad (.int .u64) r0.1 r0.2)) fun r1 => some (.nrm, ⟨(Env.put env 7 r1.1), r1.2⟩)) := (xR 7 (cOps n51_18)).trans (by
  refine opsK_0 ?_
  refine oP 16 fun r0 => ?_
  refine oP 17 fun r1 => ?_
  refine oT 7 r1.1 ?_
  exact oE)
@[simp] theorem n51_19_eq : evC (cx51 call) n51_19 s = some (.nrm, s) := xK
@[simp] theorem n51_17_eq : evC (cx51 call) n51_17 s = cnd (s.env.get 15) (evC (cx51 call) n51_18 s) (evC (cx51 call) n51_19 s) := xC 15 _ _
@[simp] theorem n51_16_eq : evC (cx51 call) n51_16 ⟨env, h⟩ = (bnd (pureV h (mBin .gtr (env.get 6) (nat 63))) fun r1 => evC (cx51 call) n51_17 ⟨(Env.put env 15 r1.1), r1.2⟩) := (xSR 6 (cOps (cL n51_16)) (cR n51_16)).trans (by
  refine opsK_0 ?_
  refine oT 14 (env.get 6) ?_
  refine oP 15 fun r1 => ?_
  exact oE)
@[simp] theorem n51_23_eq : evC (cx51 call) n51_23 ⟨env, h⟩ = (bnd (pureV h (mLoad ty66 (env.get 5) h)) fun r0 => bnd (pureV r0.2 (mLoad ty66 (env.get 3) r0.2)) fun r1 => bnd (call 59 [r0.1, r1.1] r1.2) fun r2 => bnd (stU ty66 (env.get 5) r2.1 r2.2) fun r3 => some (.nrm, ⟨env, r3.2⟩)) := (xR 9 (cOps n51_23)).trans (by
  refine opsK_0 ?_
  refine oP 24 fun r0 => ?_
  refine oP 25 fun r1 => ?_
  refine oP 26 fun r2 => ?_
  refine oN fun r3 => ?_
  exact oE)
@[simp] theorem n51_24_eq : evC (cx51 call) n51_24 s = some (.nrm, s) := xK
@[simp] theorem n51_22_eq : evC (cx51 call) n51_22 s = cnd (s.env.get 23) (evC (cx51 call) n51_23 s) (evC (cx51 call) n51_24 s) := xC 23 _ _
@[simp] theorem n51_21_eq : evC (cx51 call) n51_21 ⟨env, h⟩ = (bnd (pureV h (mBin .rem (env.get 6) (nat 64))) fun r2 => bnd (pureV r2.2 (mBin .shr (env.get 7) r2.1)) fun r3 => bnd (pureV r3.2 (mBin .and r3.1 (u64 1#64))) fun r4 => bnd (pureV r4.2 (mBin .eql r4.1 (u64 1#64))) fun r5 => evC (cx51 call) n51_22 ⟨(Env.put env 23 r5.1), r5.2⟩) := (xSR 8 (cOps (cL n51_21)) (cR n51_21)).trans (by
  refine opsK_0 ?_
  refine oT 18 (env.get 7) ?_
  refine oT 19 (env.get 6) ?_
  refine oP 20 fun r2 => ?_
  refine oP 21 fun r3 => ?_
  refine oP 22 fun r4 => ?_
  refine oP 23 fun r5 => ?_
  exact oE)
@[simp] theorem n51_29_eq : evC (cx51 call) n51_29 ⟨env, h⟩ = (bnd (pureV h (mFieldAddr ty66 (env.get 5) 1)) fun r0 => bnd (pureV r0.2 (mLoad (.int .u64) r0.1 r0.2)) fun r1 => bnd (pureV r1.2 (mBin .xor r1.1 (u64 16212958658533785600#64))) fun r2 => bnd (pureV r2.2 (mFieldAddr ty66 (env.get 5) 1)) fun r3 => bnd (stU (.int .u64) r3.1 r2.1 r3.2) fun r4 => some (.nrm, ⟨env, r4.2⟩)) := (xR 13 (cOps n51_29)).trans (by
  refine opsK_0 ?_
  refine oP 43 fun r0 => ?_
  refine oP 44 fun r1 => ?_
  refine oP 45 fun r2 => ?_
  refine oP 46 fun r3 => ?_
  refine oN fun r4 => ?_
  exact oE)
@[simp] theorem n51_30_eq : evC (cx51 call) n51_30 s = some (.nrm, s) := xK
@[simp] theorem n51_28_eq : evC (cx51 call) n51_28 s = cnd (s.env.get 42) (evC (cx51 call) n51_29 s) (evC (cx51 call) n51_30 s) := xC 42 _ _
@[simp] theorem n51_27_eq : evC (cx51 call) n51_27 ⟨env, h⟩ = ( evC (cx51 call) n51_28 ⟨(Env.put env 42 (env.get 8)), h⟩) := (xSR 12 (cOps (cL n51_27)) (cR n51_27)).trans (by
  refine opsK_0 ?_
  refine oT 42 (env.get 8) ?_
  exact oE)
@[simp] theorem n51_26_eq : evC (cx51 call) n51_26 ⟨env, h⟩ = (bnd (pureV h (mFieldAddr ty66 (env.get 5) 0)) fun r0 => bnd (pureV r0.2 (mLoad (.int .u64) r0.1 r0.2)) fun r1 => bnd (pureV r1.2 (mBin .shr r1.1 (u64 1#64))) fun r2 => bnd (pureV r2.2 (mFieldAddr ty66 (env.get 5) 1)) fun r3 => bnd (pureV r3.2 (mLoad (.int .u64) r3.1 r3.2)) fun r4 => bnd (pureV r4.2 (mBin .shl r4.1 (u64 63#64))) fun r5 => bnd (pureV r5.2 (mBin .or r2.1 r5.1)) fun r6 => bnd (pureV r6.2 (mFieldAddr ty66 (env.get 5) 1)) fun r7 => bnd (pureV r7.2 (mLoad (.int .u64) r7.1 r7.2)) fun r8 => bnd (pureV r8.2 (mBin .shr r8.1 (u64 1#64))) fun r9 => bnd (pureV r9.2 (fillRow ty66 (.node [(u64 0#64), (u64 0#64)]) [(0, r6.1), (1, r9.1)])) fun r10 => bnd (stU ty66 (env.get 5) r10.1 r10.2) fun r11 => evC (cx51 call) n51_27 ⟨env, r11.2⟩) := (xSR 11 (cOps (cL n51_26)) (cR n51_26)).trans (by
  refine opsK_0 ?_
  refine oP 31 fun r0 => ?_
  refine oP 32 fun r1 => ?_
  refine oP 33 fun r2 => ?_
  refine oP 34 fun r3 => ?_
  refine oP 35 fun r4 => ?_
  refine oP 36 fun r5 => ?_
  refine oP 37 fun r6 => ?_
  refine oP 38 fun r7 => ?_
  refine oP 39 fun r8 => ?_
  refine oP 40 fun r9 => ?_
  refine oP 41 fun r10 => ?_
  refine oN fun r11 => ?_
  exact oE)
@[simp] theorem n51_25_eq : evC (cx51 call) n51_25 ⟨env, h⟩ = (bnd (pureV h (mFieldAddr ty66 (env.get 5) 0)) fun r0 => bnd (pureV r0.2 (mLoad (.int .u64) r0.1 r0.2)) fun r1 => bnd (pureV r1.2 (mBin .and r1.1 (u64 1#64))) fun r2 => bnd (pureV r2.2 (mBin .eql r2.1 (u64 1#64))) fun r3 => evC (cx51 call) n51_26 ⟨(Env.put env 8 r3.1), r3.2⟩) := (xSR 10 (cOps (cL n51_25)) (cR n51_25)).trans (by
  refine opsK_0 ?_
  refine oP 27 fun r0 => ?_
  refine oP 28 fun r1 => ?_
  refine oP 29 fun r2 => ?_
  refine oP 30 fun r3 => ?_
  refine oT 8 r3.1 ?_
  exact oE)
@[simp] theorem n51_20_eq : evC (cx51 call) n51_20 s = bnd (evC (cx51 call) n51_21 s) (sqK (evC (cx51 call) n51_25)) := xS _ _
@[simp] theorem n51_15_eq : evC (cx51 call) n51_15 s = bnd (evC (cx51 call) n51_16 s) (sqK (evC (cx51 call) n51_20)) := xS _ _
@[simp] theorem n51_14_eq : evC (cx51 call) n51_14 ⟨env, h⟩ = (bnd (pureV h (mFieldAddr ty66 (env.get 2) 0)) fun r0 => bnd (pureV r0.2 (mLoad (.int .u64) r0.1 r0.2)) fun r1 => evC (cx51 call) n51_15 ⟨(Env.put env 7 r1.1), r1.2⟩) := (xSR 5 (cOps (cL n51_14)) (cR n51_14)).trans (by
  refine opsK_0 ?_
  refine oP 12 fun r0 => ?_
  refine oP 13 fun r1 => ?_
  refine oT 7 r1.1 ?_
  exact oE)
@[simp] theorem n51_13_eq : evC (cx51 call) n51_13 ⟨env, h⟩ = ( evC (cx51 call) n51_14 ⟨(Env.put env 6 (env.get 9)), h⟩) := (xSR 4 (cOps (cL n51_13)) (cR n51_13)).trans (by
  refine opsK_0 ?_
  refine oT 11 (env.get 9) ?_
  refine oT 6 (env.get 9) ?_
  exact oE)
@[simp] theorem n51_12_eq : evC (cx51 call) n51_12 s = bnd (evC (cx51 call) n51_13 s) fun r => some (inBlk 1 r) := xB 1 _
@[simp] theorem n51_31_eq : evC (cx51 call) n51_31 ⟨env, h⟩ = (bnd (pureV h (mBin .add (env.get 9) (nat 1))) fun r0 => some (.nrm, ⟨(Env.put env 9 r0.1), r0.2⟩)) := (xR 14 (cOps n51_31)).trans (by
  refine opsK_0 ?_
  refine oP 47 fun r0 => ?_
  refine oT 9 r0.1 ?_
  exact oE)
@[simp] theorem n51_11_eq : evC (cx51 call) n51_11 s = bnd (evC (cx51 call) n51_12 s) (sqK (evC (cx51 call) n51_31)) := xS _ _
@[simp] theorem n51_7_eq : evC (cx51 call) n51_7 s = bnd (evC (cx51 call) n51_8 s) (sqK (evC (cx51 call) n51_11)) := xS _ _
@[simp] theorem n51_6_eq : evC (cx51 call) n51_6 ⟨env, h⟩ = (bnd (pureV h (mBin .lss (env.get 9) (nat 128))) fun r0 => evC (cx51 call) n51_7 ⟨(Env.put env 10 r0.1), r0.2⟩) := (xSR 3 (cOps (cL n51_6)) (cR n51_6)).trans (by
  refine opsK_0 ?_
  refine oP 10 fun r0 => ?_
  exact oE)
@[simp] theorem n51_5_eq : evC (cx51 call) n51_5 s = evLoop (evC (cx51 call) n51_6) s := xL _
@[simp] theorem n51_4_eq : evC (cx51 call) n51_4 s = bnd (evC (cx51 call) n51_5 s) fun r => some (inBlk 0 r) := xB 0 _
@[simp] theorem n51_3_eq : evC (cx51 call) n51_3 ⟨env, h⟩ = ( evC (cx51 call) n51_4 ⟨(Env.put env 9 (nat 0)), h⟩) := (xSR 2 (cOps (cL n51_3)) (cR n51_3)).trans (by
  refine opsK_0 ?_
  refine oT 9 (nat 0) ?_
  exact oE)
@[simp] theorem n51_33_eq : evC (cx51 call) n51_33 s = some (.ret, s) := xE
@[simp] theorem n51_32_eq : evC (cx51 call) n51_32 ⟨env, h⟩ = (bnd (pureV h (mLoad ty66 (env.get 5) h)) fun r0 => bnd (stU ty66 (env.get 4) r0.1 r0.2) fun r1 => evC (cx51 call) n51_33 ⟨env, r1.2⟩) := (xSR 15 (cOps (cL n51_32)) (cR n51_32)).trans (by
  refine opsK_0 ?_
  refine oP 48 fun r0 => ?_
  refine oN fun r1 => ?_
  exact oE)
@[simp] theorem n51_2_eq : evC (cx51 call) n51_2 s = bnd (evC (cx51 call) n51_3 s) (sqK (evC (cx51 call) n51_32)) := xS _ _
@[simp] theorem n51_1_eq : evC (cx51 call) n51_1 ⟨env, h⟩ = (bnd (mNew ty66 (.node [(u64 0#64), (u64 0#64)]) h) fun r0 => evC (cx51 call) n51_2 ⟨(Env.put env 5 r0.1), r0.2⟩) := (xSR 1 (cOps (cL n51_1)) (cR n51_1)).trans (by
  refine opsK_0 ?_
  refine oP 5 fun r0 => ?_
  exact oE)
@[simp] theorem n51_0_eq : evC (cx51 call) n51_0 ⟨env, h⟩ = (bnd (mNew ty66 (env.get 0) h) fun r0 => bnd (mNew ty66 (env.get 1) r0.2) fun r1 => bnd (mNew ty66 (.node [(u64 0#64), (u64 0#64)]) r1.2) fun r2 => evC (cx51 call) n51_1 ⟨(Env.put (Env.put (Env.put env 2 r0.1) 3 r1.1) 4 r2.1), r2.2⟩) := (xSR 0 (cOps (cL n51_0)) (cR n51_0)).trans (by
  refine opsK_0 ?_
  refine oP 2 fun r0 => ?_
  refine oP 3 fun r1 => ?_
  refine oP 4 fun r2 => ?_
  exact oE)
theorem b51 (call : Calling) (a0 a1 : AV) (h : Heap) : evBody (cx51 call) Try.f51 n51_0 [a0, a1] h = bnd (evC (cx51 call) n51_0 ⟨[(0, a0), (1, a1), (2, .junk), (3, .junk), (4, .junk), (5, .junk), (6, .junk), (7, .junk), (8, .junk), (9, .junk), (10, .junk), (15, .junk), (23, .junk), (42, .junk)], h⟩) (retK fun s => bnd (bnd (mLoad ty66 (s.env.get 4) s.heap) fun v => bnd (some []) fun vs => some (v :: vs)) fun vs => some (oneOrTuple vs)) := by kernel_rfl
theorem fn51 : Try.prog.funcs[51]? = some Try.f51 := by kernel_rfl
theorem k51 : Callable Try.prog 51 := ⟨Try.f51, fn51, by kernel_rfl, by kernel_rfl⟩
theorem s51 {call : Calling} (hc : CallOK Try.prog call) {args : List AV} {h h' : Heap} {v : AV} (he : evBody (cx51 call) Try.f51 n51_0 args h = some (v, h')) : Spec Try.prog 51 args h v h' := body_sound (C := cx51 call) TT_ok hc mixed_ok fn51 (by kernel_rfl) (by kernel_rfl) he
def sn51 := Y n51_9_eq (Y n51_10_eq (Y n51_8_eq (Y n51_18_eq (Y n51_19_eq (Y n51_17_eq (Y n51_16_eq (Y n51_23_eq (Y n51_24_eq (Y n51_22_eq (Y n51_21_eq (Y n51_29_eq (Y n51_30_eq (Y n51_28_eq (Y n51_27_eq (Y n51_26_eq (Y n51_25_eq (Y n51_20_eq (Y n51_15_eq (Y n51_14_eq (Y n51_13_eq (Y n51_12_eq (Y n51_31_eq (Y n51_11_eq (Y n51_7_eq (Y n51_6_eq (Y n51_5_eq (Y n51_4_eq (Y n51_3_eq (Y n51_33_eq (Y n51_32_eq (Y n51_2_eq (Y n51_1_eq (n51_0_eq)))))))))))))))))))))))))))))))))
end
end Go.Vab

/- How the evaluator reads the functions of a seat. Printed by wip/tools/gen.py (own work). -/
namespace Go.Vab
open Go Go.Proofs
noncomputable section
variable (call : Calling) (env : Env) (h : Heap) (s : St)
/-! vestry/siv.Dot -/
def cx31 (call : Calling) : Ctx := ⟨call, TT, 11, [5, 6, 7, 8, 9, 10]⟩
def n31_0 : Code := bodyOf Try.f31
def n31_1 : Code := cR n31_0
def n31_2 : Code := cR n31_1
@[simp] theorem n31_2_eq : evC (cx31 call) n31_2 s = some (.ret, s) := xE
theorem n31_1_ok : drawOk (cOps (cL n31_1)).toList = true := by kernel_rfl
@[simp] theorem n31_1_eq : evC (cx31 call) n31_1 ⟨env, h⟩ = (bnd (pureV h (mLoad (.arr 16 (.int .u8)) (env.get 2) h)) fun r0 => bnd (still call 50 [r0.1] r0.2) fun r1 => bnd (pureV r1.2 (mLoad (.arr 16 (.int .u8)) (env.get 3) r1.2)) fun r2 => bnd (still call 50 [r2.1] r2.2) fun r3 => bnd (still call 51 [r1.1, r3.1] r3.2) fun r4 => bnd (still call 52 [r4.1] r4.2) fun r5 => bnd (stU (.arr 16 (.int .u8)) (env.get 4) r5.1 r5.2) fun r6 => evC (cx31 call) n31_2 ⟨env, r6.2⟩) := (xSD 1 (cOps (cL n31_1)) (cR n31_1) n31_1_ok).trans (by
  refine opsK_0 ?_
  refine oP 5 fun r0 => ?_
  refine oP 6 fun r1 => ?_
  refine oP 7 fun r2 => ?_
  refine oP 8 fun r3 => ?_
  refine oP 9 fun r4 => ?_
  refine oP 10 fun r5 => ?_
  refine oN fun r6 => ?_
  exact oE)
@[simp] theorem n31_0_eq : evC (cx31 call) n31_0 ⟨env, h⟩ = (bnd (mNew (.arr 16 (.int .u8)) (env.get 0) h) fun r0 => bnd (mNew (.arr 16 (.int .u8)) (env.get 1) r0.2) fun r1 => bnd (mNew (.arr 16 (.int .u8)) (arr 16 fun _ => 0#8) r1.2) fun r2 => evC (cx31 call) n31_1 ⟨(Env.put (Env.put (Env.put env 2 r0.1) 3 r1.1) 4 r2.1), r2.2⟩) := (xSR 0 (cOps (cL n31_0)) (cR n31_0)).trans (by
  refine opsK_0 ?_
  refine oP 2 fun r0 => ?_
  refine oP 3 fun r1 => ?_
  refine oP 4 fun r2 => ?_
  exact oE)
theorem b31 (call : Calling) (a0 a1 : AV) (h : Heap) : evBody (cx31 call) Try.f31 n31_0 [a0, a1] h = bnd (evC (cx31 call) n31_0 ⟨[(0, a0), (1, a1), (2, .junk), (3, .junk), (4, .junk)], h⟩) (retK fun s => bnd (bnd (mLoad (.arr 16 (.int .u8)) (s.env.get 4) s.heap) fun v => bnd (some []) fun vs => some (v :: vs)) fun vs => some (oneOrTuple vs)) := by kernel_rfl
theorem fn31 : Try.prog.funcs[31]? = some Try.f31 := by kernel_rfl
theorem k31 : Callable Try.prog 31 := ⟨Try.f31, fn31, by kernel_rfl, by kernel_rfl⟩
theorem s31 {call : Calling} (hc : CallOK Try.prog call) {args : List AV} {h h' : Heap} {v : AV} (he : evBody (cx31 call) Try.f31 n31_0 args h = some (v, h')) : Spec Try.prog 31 args h v h' := body_sound (C := cx31 call) TT_ok hc mixed_ok fn31 (by kernel_rfl) (by kernel_rfl) he
def sn31 := Y n31_2_eq (Y n31_1_eq (n31_0_eq))
end
end Go.Vab

/- How the evaluator reads the functions of a seat. Printed by wip/tools/gen.py (own work). -/
namespace Go.Vab
open Go Go.Proofs
noncomputable section
variable (call : Calling) (env : Env) (h : Heap) (s : St)
/-! vestry/vestrylaw09.xor -/
def cx37 (call : Calling) : Ctx := ⟨call, TT, 19, [8, 9, 10, 11, 12, 13, 14, 15, 16, 17, 18]⟩
def n37_0 : Code := bodyOf Try.f37
def n37_1 : Code := cR n37_0
def n37_2 : Code := cL n37_1
def n37_3 : Code := cR n37_2
def n37_4 : Code := cB n37_3
def n37_5 : Code := cB n37_4
def n37_6 : Code := cR n37_5
def n37_7 : Code := cL n37_6
def n37_8 : Code := cL n37_7
def n37_9 : Code := cR n37_7
def n37_10 : Code := cR n37_6
def n37_11 : Code := cL n37_10
def n37_12 : Code := cB n37_11
def n37_13 : Code := cR n37_12
def n37_14 : Code := cR n37_10
def n37_15 : Code := cR n37_1
def n37_16 : Code := cR n37_15
@[simp] theorem n37_8_eq : evC (cx37 call) n37_8 s = some (.nrm, s) := xK
@[simp] theorem n37_9_eq : evC (cx37 call) n37_9 s = some (.exit 0, s) := xX 0
@[simp] theorem n37_7_eq : evC (cx37 call) n37_7 s = cnd (s.env.get 7) (evC (cx37 call) n37_8 s) (evC (cx37 call) n37_9 s) := xC 7 _ _
theorem n37_13_ok : drawOk (cOps n37_13).toList = true := by kernel_rfl
@[simp] theorem n37_13_eq : evC (cx37 call) n37_13 ⟨env, h⟩ = (bnd (pureV h (mIdxA (.arr 16 (.int .u8)) (env.get 2) (env.get 5))) fun r1 => bnd (pureV r1.2 (mLoad (.int .u8) r1.1 r1.2)) fun r2 => bnd (pureV r2.2 (mIdxA (.arr 16 (.int .u8)) (env.get 3) (env.get 5))) fun r4 => bnd (pureV r4.2 (mLoad (.int .u8) r4.1 r4.2)) fun r5 => bnd (pureV r5.2 (mBin .xor r2.1 r5.1)) fun r6 => bnd (pureV r6.2 (mIdxA (.arr 16 (.int .u8)) (env.get 2) (env.get 5))) fun r7 => bnd (stU (.int .u8) r7.1 r6.1 r7.2) fun r8 => some (.nrm, ⟨env, r8.2⟩)) := (xD 4 (cOps n37_13) n37_13_ok).trans (by
  refine opsK_0 ?_
  refine oT 9 (env.get 5) ?_
  refine oP 10 fun r1 => ?_
  refine oP 11 fun r2 => ?_
  refine oT 12 (env.get 5) ?_
  refine oP 13 fun r4 => ?_
  refine oP 14 fun r5 => ?_
  refine oP 15 fun r6 => ?_
  refine oP 16 fun r7 => ?_
  refine oN fun r8 => ?_
  exact oE)
@[simp] theorem n37_12_eq : evC (cx37 call) n37_12 ⟨env, h⟩ = ( evC (cx37 call) n37_13 ⟨(Env.put env 5 (env.get 6)), h⟩) := (xSR 3 (cOps (cL n37_12)) (cR n37_12)).trans (by
  refine opsK_0 ?_
  refine oT 8 (env.get 6) ?_
  refine oT 5 (env.get 6) ?_
  exact oE)
@[simp] theorem n37_11_eq : evC (cx37 call) n37_11 s = bnd (evC (cx37 call) n37_12 s) fun r => some (inBlk 1 r) := xB 1 _
@[simp] theorem n37_14_eq : evC (cx37 call) n37_14 ⟨env, h⟩ = (bnd (pureV h (mBin .add (env.get 6) (nat 1))) fun r0 => some (.nrm, ⟨(Env.put env 6 r0.1), r0.2⟩)) := (xR 5 (cOps n37_14)).trans (by
  refine opsK_0 ?_
  refine oP 17 fun r0 => ?_
  refine oT 6 r0.1 ?_
  exact oE)
@[simp] theorem n37_10_eq : evC (cx37 call) n37_10 s = bnd (evC (cx37 call) n37_11 s) (sqK (evC (cx37 call) n37_14)) := xS _ _
@[simp] theorem n37_6_eq : evC (cx37 call) n37_6 s = bnd (evC (cx37 call) n37_7 s) (sqK (evC (cx37 call) n37_10)) := xS _ _
@[simp] theorem n37_5_eq : evC (cx37 call) n37_5 ⟨env, h⟩ = (bnd (pureV h (mBin .lss (env.get 6) (nat 16))) fun r0 => evC (cx37 call) n37_6 ⟨(Env.put env 7 r0.1), r0.2⟩) := (xSR 2 (cOps (cL n37_5)) (cR n37_5)).trans (by
  refine opsK_0 ?_
  refine oP 7 fun r0 => ?_
  exact oE)
@[simp] theorem n37_4_eq : evC (cx37 call) n37_4 s = evLoop (evC (cx37 call) n37_5) s := xL _
@[simp] theorem n37_3_eq : evC (cx37 call) n37_3 s = bnd (evC (cx37 call) n37_4 s) fun r => some (inBlk 0 r) := xB 0 _
@[simp] theorem n37_2_eq : evC (cx37 call) n37_2 ⟨env, h⟩ = ( evC (cx37 call) n37_3 ⟨(Env.put env 6 (nat 0)), h⟩) := (xSR 1 (cOps (cL n37_2)) (cR n37_2)).trans (by
  refine opsK_0 ?_
  refine oT 6 (nat 0) ?_
  exact oE)
@[simp] theorem n37_16_eq : evC (cx37 call) n37_16 s = some (.ret, s) := xE
@[simp] theorem n37_15_eq : evC (cx37 call) n37_15 ⟨env, h⟩ = (bnd (pureV h (mLoad (.arr 16 (.int .u8)) (env.get 2) h)) fun r0 => bnd (stU (.arr 16 (.int .u8)) (env.get 4) r0.1 r0.2) fun r1 => evC (cx37 call) n37_16 ⟨env, r1.2⟩) := (xSR 6 (cOps (cL n37_15)) (cR n37_15)).trans (by
  refine opsK_0 ?_
  refine oP 18 fun r0 => ?_
  refine oN fun r1 => ?_
  exact oE)
@[simp] theorem n37_1_eq : evC (cx37 call) n37_1 s = bnd (evC (cx37 call) n37_2 s) (sqK (evC (cx37 call) n37_15)) := xS _ _
@[simp] theorem n37_0_eq : evC (cx37 call) n37_0 ⟨env, h⟩ = (bnd (mNew (.arr 16 (.int .u8)) (env.get 0) h) fun r0 => bnd (mNew (.arr 16 (.int .u8)) (env.get 1) r0.2) fun r1 => bnd (mNew (.arr 16 (.int .u8)) (arr 16 fun _ => 0#8) r1.2) fun r2 => evC (cx37 call) n37_1 ⟨(Env.put (Env.put (Env.put env 2 r0.1) 3 r1.1) 4 r2.1), r2.2⟩) := (xSR 0 (cOps (cL n37_0)) (cR n37_0)).trans (by
  refine opsK_0 ?_
  refine oP 2 fun r0 => ?_
  refine oP 3 fun r1 => ?_
  refine oP 4 fun r2 => ?_
  exact oE)
theorem b37 (call : Calling) (a0 a1 : AV) (h : Heap) : evBody (cx37 call) Try.f37 n37_0 [a0, a1] h = bnd (evC (cx37 call) n37_0 ⟨[(0, a0), (1, a1), (2, .junk), (3, .junk), (4, .junk), (5, .junk), (6, .junk), (7, .junk)], h⟩) (retK fun s => bnd (bnd (mLoad (.arr 16 (.int .u8)) (s.env.get 4) s.heap) fun v => bnd (some []) fun vs => some (v :: vs)) fun vs => some (oneOrTuple vs)) := by kernel_rfl
theorem fn37 : Try.prog.funcs[37]? = some Try.f37 := by kernel_rfl
theorem k37 : Callable Try.prog 37 := ⟨Try.f37, fn37, by kernel_rfl, by kernel_rfl⟩
theorem s37 {call : Calling} (hc : CallOK Try.prog call) {args : List AV} {h h' : Heap} {v : AV} (he : evBody (cx37 call) Try.f37 n37_0 args h = some (v, h')) : Spec Try.prog 37 args h v h' := body_sound (C := cx37 call) TT_ok hc mixed_ok fn37 (by kernel_rfl) (by kernel_rfl) he
def sn37 := Y n37_8_eq (Y n37_9_eq (Y n37_7_eq (Y n37_13_eq (Y n37_12_eq (Y n37_11_eq (Y n37_14_eq (Y n37_10_eq (Y n37_6_eq (Y n37_5_eq (Y n37_4_eq (Y n37_3_eq (Y n37_2_eq (Y n37_16_eq (Y n37_15_eq (Y n37_1_eq (n37_0_eq))))))))))))))))
end
end Go.Vab
