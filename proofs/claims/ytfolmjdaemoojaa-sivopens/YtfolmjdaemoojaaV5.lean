/-
  The elements of POLYVAL in two words, walked.
-/
import Derived.Test.YtfolmjdaemoojaaV3
import Derived.Test.YtfolmjdaemoojaaV4
import Derived.Test.YtfolmjdaemoojaaV2
import Derived.SizedLaws
set_option linter.all false
set_option linter.unusedSectionVars false
namespace Go.Vab
open Go Go.Proofs

@[simp] theorem hasTy_el (lo hi : BitVec 64) : hasTy (el lo hi) ty66 = true := by simp [el, hasTys]
@[simp] theorem hasTy_elX (x : BitVec 128) : hasTy (elX x) ty66 = true := hasTy_el _ _
@[simp] theorem mNew_el (lo hi : BitVec 64) (h : Heap) : mNew ty66 (el lo hi) h = some (.ptr h.length 0 [] ty66, h ++ [⟨el lo hi, 0, .own⟩]) := mNew_ok _ _ _ (by simp)
@[simp] theorem mNew_elX (x : BitVec 128) (h : Heap) : mNew ty66 (elX x) h = some (.ptr h.length 0 [] ty66, h ++ [⟨elX x, 0, .own⟩]) := mNew_ok _ _ _ (by simp)
@[simp] theorem mNew_node (lo hi : BitVec 64) (h : Heap) : mNew ty66 (.node [u64 lo, u64 hi]) h = some (.ptr h.length 0 [] ty66, h ++ [⟨el lo hi, 0, .own⟩]) := mNew_el lo hi h
@[simp] theorem stU_el (lo hi : BitVec 64) (i ver : Nat) (path : List Nat) (h : Heap) : stU ty66 (.ptr i ver path ty66) (el lo hi) h = stR i ver path (el lo hi) h := stU_ptr _ _ _ _ _ _ (by simp)
@[simp] theorem stU_elX (x : BitVec 128) (i ver : Nat) (path : List Nat) (h : Heap) : stU ty66 (.ptr i ver path ty66) (elX x) h = stR i ver path (elX x) h := stU_ptr _ _ _ _ _ _ (by simp)
@[simp] theorem el_get0 (lo hi : BitVec 64) : (el lo hi).get [0] = some (u64 lo) := by simp [el]
@[simp] theorem el_get1 (lo hi : BitVec 64) : (el lo hi).get [1] = some (u64 hi) := by simp [el]
@[simp] theorem elX_get0 (x : BitVec 128) : (elX x).get [0] = some (u64 (x.setWidth 64)) := by simp [elX]
@[simp] theorem elX_get1 (x : BitVec 128) : (elX x).get [1] = some (u64 ((x >>> 64).setWidth 64)) := by simp [elX]
@[simp] theorem el_put0 (lo hi y : BitVec 64) : (el lo hi).put [0] (u64 y) = some (el y hi) := by simp [el]
@[simp] theorem el_put1 (lo hi y : BitVec 64) : (el lo hi).put [1] (u64 y) = some (el lo y) := by simp [el]
@[simp] theorem fill_el (x y lo hi : BitVec 64) : fillRow ty66 (el lo hi) [(0, u64 x), (1, u64 y)] = some (el x y) := by
  simp [fillRow, el, hasTys]
@[simp] theorem fill_el' (x y lo hi : BitVec 64) : fillRow ty66 (.node [u64 lo, u64 hi]) [(0, u64 x), (1, u64 y)] = some (el x y) := fill_el x y lo hi
@[simp] theorem u64_or' (x y : BitVec 64) : mBin .or (u64 x) (u64 y) = some (u64 (x ||| y)) := u64_or x y

theorem walk50 (call : Calling) (h : Heap) (g : Nat → BitVec 8) : ∃ t, evBody (cx50 call) Try.f50 n50_0 [arr 16 g] h = some (elX (val16 g), h ++ t) := by
  rw [b50]
  have main : Evs (evC (cx50 call) n50_0 ⟨[(0, arr 16 g), (1, .junk), (2, .junk), (3, .junk), (5, .junk)], h⟩) (fun r => ∃ env t, r = (.ret, ⟨env, h ++ t⟩) ∧ mLoad ty66 (env.get 2) (h ++ t) = some (elX (val16 g))) := by
    obtain ⟨env, he⟩ : ∃ env : Env, env = [(0, arr 16 g), (1, .junk), (2, .junk), (3, .junk), (5, .junk)] := ⟨_, rfl⟩
    rw [← he]
    have g0 : env.get 0 = arr 16 g := by rw [he]; rfl
    clear he
    repeat (first | (with_reducible refine Evs.assoc ?_) | ((with_reducible refine Evs.some_bnd ?_); try dsimp only [sqK_nrm, sqK_exit, sqK_ret]) | ((with_reducible apply Evs.bcndT); (focus (simp (disch := omega) [g0] <;> omega))) | ((with_reducible apply Evs.bcndF); (focus (simp (disch := omega) [g0] <;> omega))) | ((with_reducible apply Evs.step); (focus ((conv => lhs; simp (disch := omega) [g0]); done)); try dsimp only) | (simp only [sn50, snB]))
    refine Evs.bnd (Q := fun r => ∃ env', r = (.exit 0, ⟨env', h ++ [⟨arr 16 g, 0, .own⟩, ⟨elX (val16 g), 0, .own⟩]⟩) ∧ env'.get 2 = .ptr (h.length + 1) 0 [] ty66) ?_ ?_
    · refine Evs.loop (fun n s => ∃ env' m, s = ⟨env', h ++ [⟨arr 16 g, 0, .own⟩, ⟨el (lowAt g m) (lowAt (fun i => g (i + 8)) m), 0, .own⟩]⟩ ∧ n + m = 8 ∧ env'.get 1 = .ptr h.length 0 [] (.arr 16 (.int .u8)) ∧ env'.get 2 = .ptr (h.length + 1) 0 [] ty66 ∧ env'.get 3 = .int .i64 (7 - (m : Int))) ?_ (n := 8)
        ⟨_, 0, rfl, rfl, by simp, by simp, by simp [nat]⟩
      rintro n s ⟨env', m, rfl, hm, e1, e2, e3⟩
      by_cases hm8 : m = 8
      · subst hm8
        have e3' : env'.get 3 = .int .i64 (-1) := by rw [e3]; rfl
        have c0 : mBin .geq (.int .i64 (-1)) (nat 0) = some (.bool false) := by simp [mBin, mBinI, nat]
        repeat (first | (with_reducible refine Evs.assoc ?_) | ((with_reducible refine Evs.some_bnd ?_); try dsimp only [sqK_nrm, sqK_exit, sqK_ret]) | ((with_reducible apply Evs.bcndT); (focus (simp (disch := omega) [e1, e2, e3', c0] <;> omega))) | ((with_reducible apply Evs.bcndF); (focus (simp (disch := omega) [e1, e2, e3', c0] <;> omega))) | ((with_reducible apply Evs.step); (focus ((conv => lhs; simp (disch := omega) [e1, e2, e3', c0]); done)); try dsimp only) | (simp only [sn50, snB]))
        rw [lowAt_lo, lowAt_hi]
        exact Evs.ret (.inr ⟨by simp, _, rfl, by simp [e2]⟩)
      · have e3' : env'.get 3 = nat (7 - m) := by rw [e3]; unfold nat; congr 1; omega
        have c1 : mBin .sub (nat (7 - m)) (nat 1) = some (.int .i64 (6 - (m : Int))) := by
          simp only [mBin, mBinI, nat, if_true]
          rw [wrapi (by omega)]
          congr 2
          omega
        repeat (first | (with_reducible refine Evs.assoc ?_) | ((with_reducible refine Evs.some_bnd ?_); try dsimp only [sqK_nrm, sqK_exit, sqK_ret]) | ((with_reducible apply Evs.bcndT); (focus (simp (disch := omega) [e1, e2, e3', c1] <;> omega))) | ((with_reducible apply Evs.bcndF); (focus (simp (disch := omega) [e1, e2, e3', c1] <;> omega))) | ((with_reducible apply Evs.step); (focus ((conv => lhs; simp (disch := omega) [e1, e2, e3', c1]); done)); try dsimp only) | (simp only [sn50, snB]))
        exact Evs.ret (.inl ⟨rfl, n - 1, by omega, _, m + 1, rfl, by omega, by simp [e1], by simp [e2], by simp; omega⟩)
    · rintro r ⟨env', rfl, e2⟩
      repeat (first | (with_reducible refine Evs.assoc ?_) | ((with_reducible refine Evs.some_bnd ?_); try dsimp only [sqK_nrm, sqK_exit, sqK_ret]) | ((with_reducible apply Evs.bcndT); (focus (simp (disch := omega) [e2] <;> omega))) | ((with_reducible apply Evs.bcndF); (focus (simp (disch := omega) [e2] <;> omega))) | ((with_reducible apply Evs.step); (focus ((conv => lhs; simp (disch := omega) [e2]); done)); try dsimp only) | (simp only [sn50, snB]))
      refine Evs.ret ⟨_, _, rfl, ?_⟩
      simp [e2]
  obtain ⟨r, hr, env, t, rfl, e0⟩ := main
  refine ⟨t, ?_⟩
  rw [hr]
  simp [e0, oneOrTuple]

noncomputable def c50 := conC (fun x : (Nat → BitVec 8) => [arr 16 x]) (fun (x : (Nat → BitVec 8)) h => True) (fun (x : (Nat → BitVec 8)) h => (elX (val16 x), h))
noncomputable def callS1 : Calling := addC callA14 50 c50
theorem c50_eq (g : Nat → BitVec 8) (h : Heap) : c50 [arr 16 g] h = some (elX (val16 g), h) :=
  conC_eq (enc := fun x : (Nat → BitVec 8) => [arr 16 x]) (P := fun (x : (Nat → BitVec 8)) h => True) (a := g) (f := fun (x : (Nat → BitVec 8)) h => (elX (val16 x), h)) (fun x y h e => by
    have e1 := arr_inj.1 (List.cons.inj e).1
    simp only [Prod.mk.injEq, and_true]
    rw [val16_congr e1]
    ) trivial
theorem callS1_ok : CallOK Try.prog callS1 := addC_con callA14_ok k50 fun x h hx => by
  obtain ⟨t, ht⟩ := walk50 callA14 h x
  exact (s50 callA14_ok ht).drop0 t rfl
@[simp] theorem callS1_ne {f : Nat} (args : List AV) (h : Heap) (hf : f ≠ 50) : callS1 f args h = callA14 f args h := addC_ne _ _ _ args h hf
@[simp] theorem callS1_sne {f : Nat} (args : List AV) (h : Heap) (hf : f ≠ 50) : still callS1 f args h = still callA14 f args h := still_ne _ _ _ args h hf
@[simp] theorem callS1_50 (g : Nat → BitVec 8) (h : Heap) : callS1 50 [arr 16 g] h = some (elX (val16 g), h) := by
  unfold callS1; rw [addC_same]; exact c50_eq g h
@[simp] theorem callS1_50s (g : Nat → BitVec 8) (h : Heap) : still callS1 50 [arr 16 g] h = some (elX (val16 g), h) := still_of fun t => by simp

theorem walk52 (call : Calling) (h : Heap) (x : BitVec 128) : ∃ t, evBody (cx52 call) Try.f52 n52_0 [elX x] h = some (arr 16 (bytesX x), h ++ t) := by
  rw [b52]
  have main : Evs (evC (cx52 call) n52_0 ⟨[(0, elX x), (1, .junk), (2, .junk), (3, .junk), (4, .junk), (5, .junk)], h⟩) (fun r => ∃ env t, r = (.ret, ⟨env, h ++ t⟩) ∧ mLoad (.arr 16 (.int .u8)) (env.get 2) (h ++ t) = some (arr 16 (bytesX x))) := by
    obtain ⟨env, he⟩ : ∃ env : Env, env = [(0, elX x), (1, .junk), (2, .junk), (3, .junk), (4, .junk), (5, .junk)] := ⟨_, rfl⟩
    rw [← he]
    have g0 : env.get 0 = elX x := by rw [he]; rfl
    clear he
    repeat (first | (with_reducible refine Evs.assoc ?_) | ((with_reducible refine Evs.some_bnd ?_); try dsimp only [sqK_nrm, sqK_exit, sqK_ret]) | ((with_reducible apply Evs.bcndT); (focus (simp (disch := omega) [g0] <;> omega))) | ((with_reducible apply Evs.bcndF); (focus (simp (disch := omega) [g0] <;> omega))) | ((with_reducible apply Evs.step); (focus ((conv => lhs; simp (disch := omega) [g0]); done)); try dsimp only) | (simp only [sn52, snB]))
    refine Evs.bnd (Q := fun r => ∃ env', r = (.exit 0, ⟨env', h ++ [⟨elX x, 0, .own⟩, ⟨arr 16 (bytesX x), 0, .own⟩]⟩) ∧ env'.get 2 = .ptr (h.length + 1) 0 [] (.arr 16 (.int .u8))) ?_ ?_
    · refine Evs.up 8 (fun m s => ∃ env' g, s = ⟨env', h ++ [⟨elX x, 0, .own⟩, ⟨arr 16 g, 0, .own⟩]⟩ ∧ env'.get 1 = .ptr h.length 0 [] ty66 ∧ env'.get 2 = .ptr (h.length + 1) 0 [] (.arr 16 (.int .u8)) ∧ env'.get 4 = nat m ∧ ∀ i, i < m → g i = bytesX x i ∧ g (i + 8) = bytesX x (i + 8)) ?_ ?_
        ⟨_, _, rfl, by simp, by simp, by simp, fun i hi => absurd hi (by omega)⟩
      · rintro m s hm ⟨env', g, rfl, e1, e2, e4, hg⟩
        repeat (first | (with_reducible refine Evs.assoc ?_) | ((with_reducible refine Evs.some_bnd ?_); try dsimp only [sqK_nrm, sqK_exit, sqK_ret]) | ((with_reducible apply Evs.bcndT); (focus (simp (disch := omega) [e1, e2, e4] <;> omega))) | ((with_reducible apply Evs.bcndF); (focus (simp (disch := omega) [e1, e2, e4] <;> omega))) | ((with_reducible apply Evs.step); (focus ((conv => lhs; simp (disch := omega) [e1, e2, e4]); done)); try dsimp only) | (simp only [sn52, snB]))
        rw [byte_lo x hm, byte_hi x hm]
        refine Evs.ret ⟨rfl, _, _, rfl, by simp [e1], by simp [e2], by simp, fun i hi => ?_⟩
        by_cases e : i = m
        · subst e
          rw [upd_ne _ _ (by omega), upd_same, upd_same]; exact ⟨rfl, rfl⟩
        · rw [upd_ne _ _ (by omega), upd_ne _ _ e, upd_ne _ _ (by omega), upd_ne _ _ (by omega)]; exact hg i (by omega)
      · rintro s ⟨env', g, rfl, e1, e2, e4, hg⟩
        repeat (first | (with_reducible refine Evs.assoc ?_) | ((with_reducible refine Evs.some_bnd ?_); try dsimp only [sqK_nrm, sqK_exit, sqK_ret]) | ((with_reducible apply Evs.bcndT); (focus (simp (disch := omega) [e4] <;> omega))) | ((with_reducible apply Evs.bcndF); (focus (simp (disch := omega) [e4] <;> omega))) | ((with_reducible apply Evs.step); (focus ((conv => lhs; simp (disch := omega) [e4]); done)); try dsimp only) | (simp only [sn52, snB]))
        have : arr 16 g = arr 16 (bytesX x) := arr_congr fun i hi => by
          by_cases h8 : i < 8
          · exact (hg i h8).1
          · have := (hg (i - 8) (by omega)).2
            rw [show i - 8 + 8 = i by omega] at this; exact this
        rw [this]
        exact Evs.ret ⟨by simp, _, rfl, by simp [e2]⟩
    · rintro r ⟨env', rfl, e2⟩
      repeat (first | (with_reducible refine Evs.assoc ?_) | ((with_reducible refine Evs.some_bnd ?_); try dsimp only [sqK_nrm, sqK_exit, sqK_ret]) | ((with_reducible apply Evs.bcndT); (focus (simp (disch := omega) [e2] <;> omega))) | ((with_reducible apply Evs.bcndF); (focus (simp (disch := omega) [e2] <;> omega))) | ((with_reducible apply Evs.step); (focus ((conv => lhs; simp (disch := omega) [e2]); done)); try dsimp only) | (simp only [sn52, snB]))
      refine Evs.ret ⟨_, _, rfl, ?_⟩
      simp [e2]
  obtain ⟨r, hr, env, t, rfl, e0⟩ := main
  refine ⟨t, ?_⟩
  rw [hr]
  simp [e0, oneOrTuple]

noncomputable def c52 := conC (fun x : (BitVec 128) => [elX x]) (fun (x : (BitVec 128)) h => True) (fun (x : (BitVec 128)) h => (arr 16 (bytesX x), h))
noncomputable def callS2 : Calling := addC callS1 52 c52
theorem c52_eq (x : BitVec 128) (h : Heap) : c52 [elX x] h = some (arr 16 (bytesX x), h) :=
  conC_eq (enc := fun x : (BitVec 128) => [elX x]) (P := fun (x : (BitVec 128)) h => True) (a := x) (f := fun (x : (BitVec 128)) h => (arr 16 (bytesX x), h)) (fun x y h e => by
    have e1 := elX_inj.1 (List.cons.inj e).1
    rw [e1]
    ) trivial
theorem callS2_ok : CallOK Try.prog callS2 := addC_con callS1_ok k52 fun x h hx => by
  obtain ⟨t, ht⟩ := walk52 callS1 h x
  exact (s52 callS1_ok ht).drop0 t rfl
@[simp] theorem callS2_ne {f : Nat} (args : List AV) (h : Heap) (hf : f ≠ 52) : callS2 f args h = callS1 f args h := addC_ne _ _ _ args h hf
@[simp] theorem callS2_sne {f : Nat} (args : List AV) (h : Heap) (hf : f ≠ 52) : still callS2 f args h = still callS1 f args h := still_ne _ _ _ args h hf
@[simp] theorem callS2_52 (x : BitVec 128) (h : Heap) : callS2 52 [elX x] h = some (arr 16 (bytesX x), h) := by
  unfold callS2; rw [addC_same]; exact c52_eq x h
@[simp] theorem callS2_52s (x : BitVec 128) (h : Heap) : still callS2 52 [elX x] h = some (arr 16 (bytesX x), h) := still_of fun t => by simp

theorem walk59 (call : Calling) (h : Heap) (x y : BitVec 128) : ∃ t, evBody (cx59 call) Try.f59 n59_0 [elX x, elX y] h = some (elX (x ^^^ y), h ++ t) := by
  rw [b59]
  have main : Evs (evC (cx59 call) n59_0 ⟨[(0, elX x), (1, elX y), (2, .junk), (3, .junk), (4, .junk)], h⟩) (fun r => ∃ env t, r = (.ret, ⟨env, h ++ t⟩) ∧ mLoad ty66 (env.get 4) (h ++ t) = some (elX (x ^^^ y))) := by
    obtain ⟨env, he⟩ : ∃ env : Env, env = [(0, elX x), (1, elX y), (2, .junk), (3, .junk), (4, .junk)] := ⟨_, rfl⟩
    rw [← he]
    have g0 : env.get 0 = elX x := by rw [he]; rfl
    have g1 : env.get 1 = elX y := by rw [he]; rfl
    clear he
    repeat (first | (with_reducible refine Evs.assoc ?_) | ((with_reducible refine Evs.some_bnd ?_); try dsimp only [sqK_nrm, sqK_exit, sqK_ret]) | ((with_reducible apply Evs.bcndT); (focus (simp (disch := omega) [g0, g1] <;> omega))) | ((with_reducible apply Evs.bcndF); (focus (simp (disch := omega) [g0, g1] <;> omega))) | ((with_reducible apply Evs.step); (focus ((conv => lhs; simp (disch := omega) [g0, g1]); done)); try dsimp only) | (simp only [sn59, snB]))
    refine Evs.ret ⟨_, _, rfl, ?_⟩
    simp [elX, setWidth_xor, hi_xor]
  obtain ⟨r, hr, env, t, rfl, e0⟩ := main
  refine ⟨t, ?_⟩
  rw [hr]
  simp [e0, oneOrTuple]

noncomputable def c59 := conC (fun x : (BitVec 128) × (BitVec 128) => [elX x.1, elX x.2]) (fun (x : (BitVec 128) × (BitVec 128)) h => True) (fun (x : (BitVec 128) × (BitVec 128)) h => (elX (x.1 ^^^ x.2), h))
noncomputable def callS3 : Calling := addC callS2 59 c59
theorem c59_eq (a : BitVec 128) (b : BitVec 128) (h : Heap) : c59 [elX a, elX b] h = some (elX (a ^^^ b), h) :=
  conC_eq (enc := fun x : (BitVec 128) × (BitVec 128) => [elX x.1, elX x.2]) (P := fun (x : (BitVec 128) × (BitVec 128)) h => True) (a := (a, b)) (f := fun (x : (BitVec 128) × (BitVec 128)) h => (elX (x.1 ^^^ x.2), h)) (fun x y h e => by
    have e1 := elX_inj.1 (List.cons.inj e).1
    have e2 := elX_inj.1 (List.cons.inj (List.cons.inj e).2).1
    rw [e1, e2]
    ) trivial
theorem callS3_ok : CallOK Try.prog callS3 := addC_con callS2_ok k59 fun x h hx => by
  obtain ⟨t, ht⟩ := walk59 callS2 h x.1 x.2
  exact (s59 callS2_ok ht).drop0 t rfl
@[simp] theorem callS3_ne {f : Nat} (args : List AV) (h : Heap) (hf : f ≠ 59) : callS3 f args h = callS2 f args h := addC_ne _ _ _ args h hf
@[simp] theorem callS3_sne {f : Nat} (args : List AV) (h : Heap) (hf : f ≠ 59) : still callS3 f args h = still callS2 f args h := still_ne _ _ _ args h hf
@[simp] theorem callS3_59 (a : BitVec 128) (b : BitVec 128) (h : Heap) : callS3 59 [elX a, elX b] h = some (elX (a ^^^ b), h) := by
  unfold callS3; rw [addC_same]; exact c59_eq a b h
@[simp] theorem callS3_59s (a : BitVec 128) (b : BitVec 128) (h : Heap) : still callS3 59 [elX a, elX b] h = some (elX (a ^^^ b), h) := still_of fun t => by simp

end Go.Vab

/-
  The program's product of two elements; sums of sixteen bytes.
-/
namespace Go.Vab
open Go Go.Proofs

@[simp] theorem elX_eq' (x : BitVec 128) : AV.node [u64 (x.setWidth 64), u64 ((x >>> 64).setWidth 64)] = elX x := rfl
theorem bit_lo (x : BitVec 128) {i : Nat} (hi : i < 64) : (x.setWidth 64).getLsbD i = x.getLsbD i := by simp [BitVec.getLsbD_setWidth, hi]
theorem bit_hi (x : BitVec 128) {i : Nat} (h : 64 ≤ i) (hi : i < 128) : ((x >>> 64).setWidth 64).getLsbD (i % 64) = x.getLsbD i := by
  rw [BitVec.getLsbD_setWidth, BitVec.getLsbD_ushiftRight, show 64 + i % 64 = i by omega]
  simp [show i % 64 < 64 by omega]

def H51 (h : Heap) (x y s : BitVec 128) : Heap := h ++ [⟨elX x, 0, .own⟩, ⟨elX y, 0, .own⟩, ⟨elX 0#128, 0, .own⟩, ⟨elX s, 0, .own⟩]

set_option maxHeartbeats 2000000 in
theorem round51 (h : Heap) (x y s : BitVec 128) (i : Nat) (hi : i < 128) (env : Env) (e2 : env.get 2 = .ptr h.length 0 [] ty66) (e3 : env.get 3 = .ptr (h.length + 1) 0 [] ty66) (e4 : env.get 4 = .ptr (h.length + 2) 0 [] ty66) (e5 : env.get 5 = .ptr (h.length + 3) 0 [] ty66) (e9 : env.get 9 = nat i) :
    Evs (evC (cx51 callS3) n51_6 ⟨env, H51 h x y s⟩) (fun r => ∃ env', r = (.nrm, ⟨env', H51 h x y (dX (if x.getLsbD i = true then s ^^^ y else s))⟩) ∧ env'.get 9 = nat (i + 1) ∧ Same [2, 3, 4, 5] env env') := by
  unfold H51
  have key : ∀ (w : BitVec 64), (if 63 < i then (x >>> 64).setWidth 64 else x.setWidth 64) = w → ((w >>> (i % 64) &&& 1#64 = 1#64) ↔ x.getLsbD i = true) := by
    rintro w rfl
    rw [word_bit]
    split
    · rw [bit_hi x (by omega) hi]
    · rw [show i % 64 = i by omega, bit_lo x (by omega)]
  by_cases h63 : 63 < i
  · have kk := key _ (if_pos h63)
    by_cases hb : x.getLsbD i = true
    · have k1 := kk.2 hb
      rw [if_pos hb]
      obtain ⟨u, hu⟩ : ∃ u, s ^^^ y = u := ⟨_, rfl⟩
      rw [hu]
      by_cases ho : u.getLsbD 0 = true
      · have o1 := (odd_lo u).2 ho
        repeat (first | (with_reducible refine Evs.assoc ?_) | ((with_reducible refine Evs.some_bnd ?_); try dsimp only [sqK_nrm, sqK_exit, sqK_ret]) | ((with_reducible apply Evs.bcndT); (focus (simp (disch := omega) [e2, e3, e4, e5, e9, k1, o1, hu] <;> omega))) | ((with_reducible apply Evs.bcndF); (focus (simp (disch := omega) [e2, e3, e4, e5, e9, k1, o1, hu] <;> omega))) | ((with_reducible apply Evs.step); (focus ((conv => lhs; simp (disch := omega) [e2, e3, e4, e5, e9, k1, o1, hu]); done)); try dsimp only) | (simp only [sn51, snB]))
        rw [step_odd _ ho]
        exact Evs.ret ⟨_, rfl, by simp, by repeat (first | exact Same.refl _ _ | refine Same.put rfl ?_)⟩
      · have o1 : ¬ _ := fun q => ho ((odd_lo u).1 q)
        repeat (first | (with_reducible refine Evs.assoc ?_) | ((with_reducible refine Evs.some_bnd ?_); try dsimp only [sqK_nrm, sqK_exit, sqK_ret]) | ((with_reducible apply Evs.bcndT); (focus (simp (disch := omega) [e2, e3, e4, e5, e9, k1, o1, hu] <;> omega))) | ((with_reducible apply Evs.bcndF); (focus (simp (disch := omega) [e2, e3, e4, e5, e9, k1, o1, hu] <;> omega))) | ((with_reducible apply Evs.step); (focus ((conv => lhs; simp (disch := omega) [e2, e3, e4, e5, e9, k1, o1, hu]); done)); try dsimp only) | (simp only [sn51, snB]))
        rw [step_even _ ho]
        exact Evs.ret ⟨_, rfl, by simp, by repeat (first | exact Same.refl _ _ | refine Same.put rfl ?_)⟩
    · have k1 : ¬ _ := fun q => hb (kk.1 q)
      rw [if_neg hb]
      by_cases ho : s.getLsbD 0 = true
      · have o1 := (odd_lo s).2 ho
        repeat (first | (with_reducible refine Evs.assoc ?_) | ((with_reducible refine Evs.some_bnd ?_); try dsimp only [sqK_nrm, sqK_exit, sqK_ret]) | ((with_reducible apply Evs.bcndT); (focus (simp (disch := omega) [e2, e3, e4, e5, e9, k1, o1] <;> omega))) | ((with_reducible apply Evs.bcndF); (focus (simp (disch := omega) [e2, e3, e4, e5, e9, k1, o1] <;> omega))) | ((with_reducible apply Evs.step); (focus ((conv => lhs; simp (disch := omega) [e2, e3, e4, e5, e9, k1, o1]); done)); try dsimp only) | (simp only [sn51, snB]))
        rw [step_odd _ ho]
        exact Evs.ret ⟨_, rfl, by simp, by repeat (first | exact Same.refl _ _ | refine Same.put rfl ?_)⟩
      · have o1 : ¬ _ := fun q => ho ((odd_lo s).1 q)
        repeat (first | (with_reducible refine Evs.assoc ?_) | ((with_reducible refine Evs.some_bnd ?_); try dsimp only [sqK_nrm, sqK_exit, sqK_ret]) | ((with_reducible apply Evs.bcndT); (focus (simp (disch := omega) [e2, e3, e4, e5, e9, k1, o1] <;> omega))) | ((with_reducible apply Evs.bcndF); (focus (simp (disch := omega) [e2, e3, e4, e5, e9, k1, o1] <;> omega))) | ((with_reducible apply Evs.step); (focus ((conv => lhs; simp (disch := omega) [e2, e3, e4, e5, e9, k1, o1]); done)); try dsimp only) | (simp only [sn51, snB]))
        rw [step_even _ ho]
        exact Evs.ret ⟨_, rfl, by simp, by repeat (first | exact Same.refl _ _ | refine Same.put rfl ?_)⟩
  · have kk := key _ (if_neg h63)
    by_cases hb : x.getLsbD i = true
    · have k1 := kk.2 hb
      rw [if_pos hb]
      obtain ⟨u, hu⟩ : ∃ u, s ^^^ y = u := ⟨_, rfl⟩
      rw [hu]
      by_cases ho : u.getLsbD 0 = true
      · have o1 := (odd_lo u).2 ho
        repeat (first | (with_reducible refine Evs.assoc ?_) | ((with_reducible refine Evs.some_bnd ?_); try dsimp only [sqK_nrm, sqK_exit, sqK_ret]) | ((with_reducible apply Evs.bcndT); (focus (simp (disch := omega) [e2, e3, e4, e5, e9, k1, o1, hu] <;> omega))) | ((with_reducible apply Evs.bcndF); (focus (simp (disch := omega) [e2, e3, e4, e5, e9, k1, o1, hu] <;> omega))) | ((with_reducible apply Evs.step); (focus ((conv => lhs; simp (disch := omega) [e2, e3, e4, e5, e9, k1, o1, hu]); done)); try dsimp only) | (simp only [sn51, snB]))
        rw [step_odd _ ho]
        exact Evs.ret ⟨_, rfl, by simp, by repeat (first | exact Same.refl _ _ | refine Same.put rfl ?_)⟩
      · have o1 : ¬ _ := fun q => ho ((odd_lo u).1 q)
        repeat (first | (with_reducible refine Evs.assoc ?_) | ((with_reducible refine Evs.some_bnd ?_); try dsimp only [sqK_nrm, sqK_exit, sqK_ret]) | ((with_reducible apply Evs.bcndT); (focus (simp (disch := omega) [e2, e3, e4, e5, e9, k1, o1, hu] <;> omega))) | ((with_reducible apply Evs.bcndF); (focus (simp (disch := omega) [e2, e3, e4, e5, e9, k1, o1, hu] <;> omega))) | ((with_reducible apply Evs.step); (focus ((conv => lhs; simp (disch := omega) [e2, e3, e4, e5, e9, k1, o1, hu]); done)); try dsimp only) | (simp only [sn51, snB]))
        rw [step_even _ ho]
        exact Evs.ret ⟨_, rfl, by simp, by repeat (first | exact Same.refl _ _ | refine Same.put rfl ?_)⟩
    · have k1 : ¬ _ := fun q => hb (kk.1 q)
      rw [if_neg hb]
      by_cases ho : s.getLsbD 0 = true
      · have o1 := (odd_lo s).2 ho
        repeat (first | (with_reducible refine Evs.assoc ?_) | ((with_reducible refine Evs.some_bnd ?_); try dsimp only [sqK_nrm, sqK_exit, sqK_ret]) | ((with_reducible apply Evs.bcndT); (focus (simp (disch := omega) [e2, e3, e4, e5, e9, k1, o1] <;> omega))) | ((with_reducible apply Evs.bcndF); (focus (simp (disch := omega) [e2, e3, e4, e5, e9, k1, o1] <;> omega))) | ((with_reducible apply Evs.step); (focus ((conv => lhs; simp (disch := omega) [e2, e3, e4, e5, e9, k1, o1]); done)); try dsimp only) | (simp only [sn51, snB]))
        rw [step_odd _ ho]
        exact Evs.ret ⟨_, rfl, by simp, by repeat (first | exact Same.refl _ _ | refine Same.put rfl ?_)⟩
      · have o1 : ¬ _ := fun q => ho ((odd_lo s).1 q)
        repeat (first | (with_reducible refine Evs.assoc ?_) | ((with_reducible refine Evs.some_bnd ?_); try dsimp only [sqK_nrm, sqK_exit, sqK_ret]) | ((with_reducible apply Evs.bcndT); (focus (simp (disch := omega) [e2, e3, e4, e5, e9, k1, o1] <;> omega))) | ((with_reducible apply Evs.bcndF); (focus (simp (disch := omega) [e2, e3, e4, e5, e9, k1, o1] <;> omega))) | ((with_reducible apply Evs.step); (focus ((conv => lhs; simp (disch := omega) [e2, e3, e4, e5, e9, k1, o1]); done)); try dsimp only) | (simp only [sn51, snB]))
        rw [step_even _ ho]
        exact Evs.ret ⟨_, rfl, by simp, by repeat (first | exact Same.refl _ _ | refine Same.put rfl ?_)⟩

theorem walk51 (h : Heap) (x y : BitVec 128) : ∃ t, evBody (cx51 callS3) Try.f51 n51_0 [elX x, elX y] h = some (elX (dotX x y), h ++ t) := by
  rw [b51]
  have main : Evs (evC (cx51 callS3) n51_0 ⟨[(0, elX x), (1, elX y), (2, .junk), (3, .junk), (4, .junk), (5, .junk), (6, .junk), (7, .junk), (8, .junk), (9, .junk), (10, .junk), (15, .junk), (23, .junk), (42, .junk)], h⟩) (fun r => ∃ env t, r = (.ret, ⟨env, h ++ t⟩) ∧ mLoad ty66 (env.get 4) (h ++ t) = some (elX (dotX x y))) := by
    obtain ⟨env, he⟩ : ∃ env : Env, env = [(0, elX x), (1, elX y), (2, .junk), (3, .junk), (4, .junk), (5, .junk), (6, .junk), (7, .junk), (8, .junk), (9, .junk), (10, .junk), (15, .junk), (23, .junk), (42, .junk)] := ⟨_, rfl⟩
    rw [← he]
    have g0 : env.get 0 = elX x := by rw [he]; rfl
    have g1 : env.get 1 = elX y := by rw [he]; rfl
    clear he
    have z0 : el 0#64 0#64 = elX 0#128 := by kernel_rfl
    repeat (first | (with_reducible refine Evs.assoc ?_) | ((with_reducible refine Evs.some_bnd ?_); try dsimp only [sqK_nrm, sqK_exit, sqK_ret]) | ((with_reducible apply Evs.bcndT); (focus (simp (disch := omega) [g0, g1] <;> omega))) | ((with_reducible apply Evs.bcndF); (focus (simp (disch := omega) [g0, g1] <;> omega))) | ((with_reducible apply Evs.step); (focus ((conv => lhs; simp (disch := omega) [g0, g1]); done)); try dsimp only) | (simp only [sn51, snB]))
    rw [z0]
    refine Evs.bnd (Q := fun r => ∃ env', r = (.exit 0, ⟨env', H51 h x y (dotX x y)⟩) ∧ env'.get 4 = .ptr (h.length + 2) 0 [] ty66 ∧ env'.get 5 = .ptr (h.length + 3) 0 [] ty66) ?_ ?_
    · refine Evs.up 128 (fun i s => ∃ env', s = ⟨env', H51 h x y (pX x y i)⟩ ∧ env'.get 2 = .ptr h.length 0 [] ty66 ∧ env'.get 3 = .ptr (h.length + 1) 0 [] ty66 ∧ env'.get 4 = .ptr (h.length + 2) 0 [] ty66 ∧ env'.get 5 = .ptr (h.length + 3) 0 [] ty66 ∧ env'.get 9 = nat i) ?_ ?_
        ⟨_, rfl, by simp, by simp, by simp, by simp, by simp⟩
      · rintro i s hi ⟨env', rfl, e2, e3, e4, e5, e9⟩
        refine (round51 h x y (pX x y i) i hi env' e2 e3 e4 e5 e9).mono ?_
        rintro r ⟨env2, rfl, f9, hs⟩
        exact ⟨rfl, _, rfl, (hs.get 2 rfl).trans e2, (hs.get 3 rfl).trans e3, (hs.get 4 rfl).trans e4, (hs.get 5 rfl).trans e5, f9⟩
      · rintro s ⟨env', rfl, e2, e3, e4, e5, e9⟩
        repeat (first | (with_reducible refine Evs.assoc ?_) | ((with_reducible refine Evs.some_bnd ?_); try dsimp only [sqK_nrm, sqK_exit, sqK_ret]) | ((with_reducible apply Evs.bcndT); (focus (simp (disch := omega) [e9] <;> omega))) | ((with_reducible apply Evs.bcndF); (focus (simp (disch := omega) [e9] <;> omega))) | ((with_reducible apply Evs.step); (focus ((conv => lhs; simp (disch := omega) [e9]); done)); try dsimp only) | (simp only [sn51, snB]))
        exact Evs.ret ⟨by simp, _, rfl, by simp [e4], by simp [e5]⟩
    · rintro r ⟨env', rfl, e4, e5⟩
      unfold H51
      repeat (first | (with_reducible refine Evs.assoc ?_) | ((with_reducible refine Evs.some_bnd ?_); try dsimp only [sqK_nrm, sqK_exit, sqK_ret]) | ((with_reducible apply Evs.bcndT); (focus (simp (disch := omega) [e4, e5] <;> omega))) | ((with_reducible apply Evs.bcndF); (focus (simp (disch := omega) [e4, e5] <;> omega))) | ((with_reducible apply Evs.step); (focus ((conv => lhs; simp (disch := omega) [e4, e5]); done)); try dsimp only) | (simp only [sn51, snB]))
      refine Evs.ret ⟨_, _, rfl, ?_⟩
      simp [e4]
  obtain ⟨r, hr, env, t, rfl, e0⟩ := main
  refine ⟨t, ?_⟩
  rw [hr]
  simp [e0, oneOrTuple]

noncomputable def c51 := conC (fun x : (BitVec 128) × (BitVec 128) => [elX x.1, elX x.2]) (fun (x : (BitVec 128) × (BitVec 128)) h => True) (fun (x : (BitVec 128) × (BitVec 128)) h => (elX (dotX x.1 x.2), h))
noncomputable def callS4 : Calling := addC callS3 51 c51
theorem c51_eq (a : BitVec 128) (b : BitVec 128) (h : Heap) : c51 [elX a, elX b] h = some (elX (dotX a b), h) :=
  conC_eq (enc := fun x : (BitVec 128) × (BitVec 128) => [elX x.1, elX x.2]) (P := fun (x : (BitVec 128) × (BitVec 128)) h => True) (a := (a, b)) (f := fun (x : (BitVec 128) × (BitVec 128)) h => (elX (dotX x.1 x.2), h)) (fun x y h e => by
    have e1 := elX_inj.1 (List.cons.inj e).1
    have e2 := elX_inj.1 (List.cons.inj (List.cons.inj e).2).1
    rw [e1, e2]
    ) trivial
theorem callS4_ok : CallOK Try.prog callS4 := addC_con callS3_ok k51 fun x h hx => by
  obtain ⟨t, ht⟩ := walk51 h x.1 x.2
  exact (s51 callS3_ok ht).drop0 t rfl
@[simp] theorem callS4_ne {f : Nat} (args : List AV) (h : Heap) (hf : f ≠ 51) : callS4 f args h = callS3 f args h := addC_ne _ _ _ args h hf
@[simp] theorem callS4_sne {f : Nat} (args : List AV) (h : Heap) (hf : f ≠ 51) : still callS4 f args h = still callS3 f args h := still_ne _ _ _ args h hf
@[simp] theorem callS4_51 (a : BitVec 128) (b : BitVec 128) (h : Heap) : callS4 51 [elX a, elX b] h = some (elX (dotX a b), h) := by
  unfold callS4; rw [addC_same]; exact c51_eq a b h
@[simp] theorem callS4_51s (a : BitVec 128) (b : BitVec 128) (h : Heap) : still callS4 51 [elX a, elX b] h = some (elX (dotX a b), h) := still_of fun t => by simp

def dotB (a b : Nat → BitVec 8) : Nat → BitVec 8 := bytesX (dotX (val16 a) (val16 b))

theorem walk31 (h : Heap) (a b : Nat → BitVec 8) : ∃ t, evBody (cx31 callS4) Try.f31 n31_0 [arr 16 a, arr 16 b] h = some (arr 16 (dotB a b), h ++ t) := by
  rw [b31]
  have main : Evs (evC (cx31 callS4) n31_0 ⟨[(0, arr 16 a), (1, arr 16 b), (2, .junk), (3, .junk), (4, .junk)], h⟩) (fun r => ∃ env t, r = (.ret, ⟨env, h ++ t⟩) ∧ mLoad (.arr 16 (.int .u8)) (env.get 4) (h ++ t) = some (arr 16 (dotB a b))) := by
    obtain ⟨env, he⟩ : ∃ env : Env, env = [(0, arr 16 a), (1, arr 16 b), (2, .junk), (3, .junk), (4, .junk)] := ⟨_, rfl⟩
    rw [← he]
    have g0 : env.get 0 = arr 16 a := by rw [he]; rfl
    have g1 : env.get 1 = arr 16 b := by rw [he]; rfl
    clear he
    repeat (first | (with_reducible refine Evs.assoc ?_) | ((with_reducible refine Evs.some_bnd ?_); try dsimp only [sqK_nrm, sqK_exit, sqK_ret]) | ((with_reducible apply Evs.bcndT); (focus (simp (disch := omega) [g0, g1] <;> omega))) | ((with_reducible apply Evs.bcndF); (focus (simp (disch := omega) [g0, g1] <;> omega))) | ((with_reducible apply Evs.step); (focus ((conv => lhs; simp (disch := omega) [g0, g1]); done)); try dsimp only) | (simp only [sn31, snB]))
    refine Evs.ret ⟨_, _, rfl, ?_⟩
    simp [dotB]
  obtain ⟨r, hr, env, t, rfl, e0⟩ := main
  refine ⟨t, ?_⟩
  rw [hr]
  simp [e0, oneOrTuple]

noncomputable def c31 := conC (fun x : (Nat → BitVec 8) × (Nat → BitVec 8) => [arr 16 x.1, arr 16 x.2]) (fun (x : (Nat → BitVec 8) × (Nat → BitVec 8)) h => True) (fun (x : (Nat → BitVec 8) × (Nat → BitVec 8)) h => (arr 16 (dotB x.1 x.2), h))
noncomputable def callS5 : Calling := addC callS4 31 c31
theorem c31_eq (a : Nat → BitVec 8) (b : Nat → BitVec 8) (h : Heap) : c31 [arr 16 a, arr 16 b] h = some (arr 16 (dotB a b), h) :=
  conC_eq (enc := fun x : (Nat → BitVec 8) × (Nat → BitVec 8) => [arr 16 x.1, arr 16 x.2]) (P := fun (x : (Nat → BitVec 8) × (Nat → BitVec 8)) h => True) (a := (a, b)) (f := fun (x : (Nat → BitVec 8) × (Nat → BitVec 8)) h => (arr 16 (dotB x.1 x.2), h)) (fun x y h e => by
    have e1 := arr_inj.1 (List.cons.inj e).1
    have e2 := arr_inj.1 (List.cons.inj (List.cons.inj e).2).1
    simp only [dotB]
    rw [val16_congr e1, val16_congr e2]
    ) trivial
theorem callS5_ok : CallOK Try.prog callS5 := addC_con callS4_ok k31 fun x h hx => by
  obtain ⟨t, ht⟩ := walk31 h x.1 x.2
  exact (s31 callS4_ok ht).drop0 t rfl
@[simp] theorem callS5_ne {f : Nat} (args : List AV) (h : Heap) (hf : f ≠ 31) : callS5 f args h = callS4 f args h := addC_ne _ _ _ args h hf
@[simp] theorem callS5_sne {f : Nat} (args : List AV) (h : Heap) (hf : f ≠ 31) : still callS5 f args h = still callS4 f args h := still_ne _ _ _ args h hf
@[simp] theorem callS5_31 (a : Nat → BitVec 8) (b : Nat → BitVec 8) (h : Heap) : callS5 31 [arr 16 a, arr 16 b] h = some (arr 16 (dotB a b), h) := by
  unfold callS5; rw [addC_same]; exact c31_eq a b h
@[simp] theorem callS5_31s (a : Nat → BitVec 8) (b : Nat → BitVec 8) (h : Heap) : still callS5 31 [arr 16 a, arr 16 b] h = some (arr 16 (dotB a b), h) := still_of fun t => by simp

theorem walk37 (call : Calling) (h : Heap) (a b : Nat → BitVec 8) : ∃ t, evBody (cx37 call) Try.f37 n37_0 [arr 16 a, arr 16 b] h = some (arr 16 (fun i => a i ^^^ b i), h ++ t) := by
  rw [b37]
  have main : Evs (evC (cx37 call) n37_0 ⟨[(0, arr 16 a), (1, arr 16 b), (2, .junk), (3, .junk), (4, .junk), (5, .junk), (6, .junk), (7, .junk)], h⟩) (fun r => ∃ env t, r = (.ret, ⟨env, h ++ t⟩) ∧ mLoad (.arr 16 (.int .u8)) (env.get 4) (h ++ t) = some (arr 16 (fun i => a i ^^^ b i))) := by
    obtain ⟨env, he⟩ : ∃ env : Env, env = [(0, arr 16 a), (1, arr 16 b), (2, .junk), (3, .junk), (4, .junk), (5, .junk), (6, .junk), (7, .junk)] := ⟨_, rfl⟩
    rw [← he]
    have g0 : env.get 0 = arr 16 a := by rw [he]; rfl
    have g1 : env.get 1 = arr 16 b := by rw [he]; rfl
    clear he
    repeat (first | (with_reducible refine Evs.assoc ?_) | ((with_reducible refine Evs.some_bnd ?_); try dsimp only [sqK_nrm, sqK_exit, sqK_ret]) | ((with_reducible apply Evs.bcndT); (focus (simp (disch := omega) [g0, g1] <;> omega))) | ((with_reducible apply Evs.bcndF); (focus (simp (disch := omega) [g0, g1] <;> omega))) | ((with_reducible apply Evs.step); (focus ((conv => lhs; simp (disch := omega) [g0, g1]); done)); try dsimp only) | (simp only [sn37, snB]))
    refine Evs.bnd (Q := fun r => ∃ env', r = (.exit 0, ⟨env', h ++ [⟨arr 16 (fun i => a i ^^^ b i), 0, .own⟩, ⟨arr 16 b, 0, .own⟩, ⟨arr 16 (fun _ => 0#8), 0, .own⟩]⟩) ∧ env'.get 2 = .ptr h.length 0 [] (.arr 16 (.int .u8)) ∧ env'.get 4 = .ptr (h.length + 2) 0 [] (.arr 16 (.int .u8))) ?_ ?_
    · refine Evs.up 16 (fun i s => ∃ env' g, s = ⟨env', h ++ [⟨arr 16 g, 0, .own⟩, ⟨arr 16 b, 0, .own⟩, ⟨arr 16 (fun _ => 0#8), 0, .own⟩]⟩ ∧ env'.get 2 = .ptr h.length 0 [] (.arr 16 (.int .u8)) ∧ env'.get 3 = .ptr (h.length + 1) 0 [] (.arr 16 (.int .u8)) ∧ env'.get 4 = .ptr (h.length + 2) 0 [] (.arr 16 (.int .u8)) ∧ env'.get 6 = nat i ∧
        ∀ k, g k = if k < i then a k ^^^ b k else a k) ?_ ?_
        ⟨_, _, rfl, by simp, by simp, by simp, by simp, fun k => by simp⟩
      · rintro i s hi ⟨env', g, rfl, e2, e3, e4, e6, hg⟩
        repeat (first | (with_reducible refine Evs.assoc ?_) | ((with_reducible refine Evs.some_bnd ?_); try dsimp only [sqK_nrm, sqK_exit, sqK_ret]) | ((with_reducible apply Evs.bcndT); (focus (simp (disch := omega) [e2, e3, e4, e6] <;> omega))) | ((with_reducible apply Evs.bcndF); (focus (simp (disch := omega) [e2, e3, e4, e6] <;> omega))) | ((with_reducible apply Evs.step); (focus ((conv => lhs; simp (disch := omega) [e2, e3, e4, e6]); done)); try dsimp only) | (simp only [sn37, snB]))
        refine Evs.ret ⟨rfl, _, _, rfl, by simp [e2], by simp [e3], by simp [e4], by simp, fun k => ?_⟩
        by_cases hk : k = i
        · subst hk; rw [upd_same, hg k, if_neg (by omega), if_pos (by omega)]
        · rw [upd_ne _ _ hk, hg k]
          by_cases hlt : k < i
          · rw [if_pos hlt, if_pos (by omega)]
          · rw [if_neg hlt, if_neg (by omega)]
      · rintro s ⟨env', g, rfl, e2, e3, e4, e6, hg⟩
        repeat (first | (with_reducible refine Evs.assoc ?_) | ((with_reducible refine Evs.some_bnd ?_); try dsimp only [sqK_nrm, sqK_exit, sqK_ret]) | ((with_reducible apply Evs.bcndT); (focus (simp (disch := omega) [e6] <;> omega))) | ((with_reducible apply Evs.bcndF); (focus (simp (disch := omega) [e6] <;> omega))) | ((with_reducible apply Evs.step); (focus ((conv => lhs; simp (disch := omega) [e6]); done)); try dsimp only) | (simp only [sn37, snB]))
        have : arr 16 g = arr 16 (fun i => a i ^^^ b i) := arr_congr fun k hk => by rw [hg k, if_pos hk]
        rw [this]
        exact Evs.ret ⟨by simp, _, rfl, by simp [e2], by simp [e4]⟩
    · rintro r ⟨env', rfl, e2, e4⟩
      repeat (first | (with_reducible refine Evs.assoc ?_) | ((with_reducible refine Evs.some_bnd ?_); try dsimp only [sqK_nrm, sqK_exit, sqK_ret]) | ((with_reducible apply Evs.bcndT); (focus (simp (disch := omega) [e2, e4] <;> omega))) | ((with_reducible apply Evs.bcndF); (focus (simp (disch := omega) [e2, e4] <;> omega))) | ((with_reducible apply Evs.step); (focus ((conv => lhs; simp (disch := omega) [e2, e4]); done)); try dsimp only) | (simp only [sn37, snB]))
      refine Evs.ret ⟨_, _, rfl, ?_⟩
      simp [e4]
  obtain ⟨r, hr, env, t, rfl, e0⟩ := main
  refine ⟨t, ?_⟩
  rw [hr]
  simp [e0, oneOrTuple]

noncomputable def c37 := conC (fun x : (Nat → BitVec 8) × (Nat → BitVec 8) => [arr 16 x.1, arr 16 x.2]) (fun (x : (Nat → BitVec 8) × (Nat → BitVec 8)) h => True) (fun (x : (Nat → BitVec 8) × (Nat → BitVec 8)) h => (arr 16 (fun i => x.1 i ^^^ x.2 i), h))
noncomputable def callS6 : Calling := addC callS5 37 c37
theorem c37_eq (a : Nat → BitVec 8) (b : Nat → BitVec 8) (h : Heap) : c37 [arr 16 a, arr 16 b] h = some (arr 16 (fun i => a i ^^^ b i), h) :=
  conC_eq (enc := fun x : (Nat → BitVec 8) × (Nat → BitVec 8) => [arr 16 x.1, arr 16 x.2]) (P := fun (x : (Nat → BitVec 8) × (Nat → BitVec 8)) h => True) (a := (a, b)) (f := fun (x : (Nat → BitVec 8) × (Nat → BitVec 8)) h => (arr 16 (fun i => x.1 i ^^^ x.2 i), h)) (fun x y h e => by
    have e1 := arr_inj.1 (List.cons.inj e).1
    have e2 := arr_inj.1 (List.cons.inj (List.cons.inj e).2).1
    simp only [Prod.mk.injEq, and_true]
    exact arr_congr fun i hi => by rw [e1 i hi, e2 i hi]
    ) trivial
theorem callS6_ok : CallOK Try.prog callS6 := addC_con callS5_ok k37 fun x h hx => by
  obtain ⟨t, ht⟩ := walk37 callS5 h x.1 x.2
  exact (s37 callS5_ok ht).drop0 t rfl
@[simp] theorem callS6_ne {f : Nat} (args : List AV) (h : Heap) (hf : f ≠ 37) : callS6 f args h = callS5 f args h := addC_ne _ _ _ args h hf
@[simp] theorem callS6_sne {f : Nat} (args : List AV) (h : Heap) (hf : f ≠ 37) : still callS6 f args h = still callS5 f args h := still_ne _ _ _ args h hf
@[simp] theorem callS6_37 (a : Nat → BitVec 8) (b : Nat → BitVec 8) (h : Heap) : callS6 37 [arr 16 a, arr 16 b] h = some (arr 16 (fun i => a i ^^^ b i), h) := by
  unfold callS6; rw [addC_same]; exact c37_eq a b h
@[simp] theorem callS6_37s (a : Nat → BitVec 8) (b : Nat → BitVec 8) (h : Heap) : still callS6 37 [arr 16 a, arr 16 b] h = some (arr 16 (fun i => a i ^^^ b i), h) := still_of fun t => by simp

end Go.Vab

/- How the evaluator reads the functions of a seat. Printed by wip/tools/gen.py (own work). -/
namespace Go.Vab
open Go Go.Proofs
noncomputable section
variable (call : Calling) (env : Env) (h : Heap) (s : St)
/-! vestry/vestryref09.PolyOf -/
def cx53 (call : Calling) : Ctx := ⟨call, TT, 21, [5, 7, 8, 9, 10, 11, 12, 13, 14, 15, 16, 17, 18, 19, 20]⟩
def n53_0 : Code := bodyOf Try.f53
def n53_1 : Code := cR n53_0
def n53_2 : Code := cR n53_1
def n53_3 : Code := cL n53_2
def n53_4 : Code := cR n53_3
def n53_5 : Code := cB n53_4
def n53_6 : Code := cB n53_5
def n53_7 : Code := cL n53_6
def n53_8 : Code := cR n53_7
def n53_9 : Code := cL n53_8
def n53_10 : Code := cR n53_8
def n53_11 : Code := cR n53_6
def n53_12 : Code := cL n53_11
def n53_13 : Code := cB n53_12
def n53_14 : Code := cR n53_11
def n53_15 : Code := cR n53_2
def n53_16 : Code := cR n53_15
@[simp] theorem n53_9_eq : evC (cx53 call) n53_9 s = some (.nrm, s) := xK
@[simp] theorem n53_10_eq : evC (cx53 call) n53_10 s = some (.exit 0, s) := xX 0
@[simp] theorem n53_8_eq : evC (cx53 call) n53_8 s = cnd (s.env.get 6) (evC (cx53 call) n53_9 s) (evC (cx53 call) n53_10 s) := xC 6 _ _
@[simp] theorem n53_7_eq : evC (cx53 call) n53_7 ⟨env, h⟩ = (bnd (pureV h (mBin .lss (env.get 4) (nat 128))) fun r1 => evC (cx53 call) n53_8 ⟨(Env.put env 6 r1.1), r1.2⟩) := (xSR 3 (cOps (cL n53_7)) (cR n53_7)).trans (by
  refine opsK_0 ?_
  refine oT 5 (env.get 4) ?_
  refine oP 6 fun r1 => ?_
  exact oE)
@[simp] theorem n53_13_eq : evC (cx53 call) n53_13 ⟨env, h⟩ = (bnd (pureV h (mBin .quo (env.get 4) (nat 8))) fun r2 => bnd (pureV r2.2 (mIdxA (.arr 16 (.int .u8)) (env.get 1) r2.1)) fun r3 => bnd (pureV r3.2 (mLoad (.int .u8) r3.1 r3.2)) fun r4 => bnd (pureV r4.2 (mBin .rem (env.get 4) (nat 8))) fun r6 => bnd (pureV r6.2 (mBin .shr r4.1 r6.1)) fun r7 => bnd (pureV r7.2 (mConv .i64 r7.1)) fun r8 => bnd (pureV r8.2 (mBin .rem r8.1 (nat 2))) fun r9 => bnd (pureV r9.2 (mIdxA (.arr 128 (.int .i64)) (env.get 3) (env.get 4))) fun r10 => bnd (stU (.int .i64) r10.1 r9.1 r10.2) fun r11 => some (.nrm, ⟨env, r11.2⟩)) := (xR 5 (cOps n53_13)).trans (by
  refine opsK_0 ?_
  refine oT 9 (env.get 4) ?_
  refine oT 10 (env.get 4) ?_
  refine oP 11 fun r2 => ?_
  refine oP 12 fun r3 => ?_
  refine oP 13 fun r4 => ?_
  refine oT 14 (env.get 4) ?_
  refine oP 15 fun r6 => ?_
  refine oP 16 fun r7 => ?_
  refine oP 17 fun r8 => ?_
  refine oP 18 fun r9 => ?_
  refine oP 19 fun r10 => ?_
  refine oN fun r11 => ?_
  exact oE)
@[simp] theorem n53_12_eq : evC (cx53 call) n53_12 s = bnd (evC (cx53 call) n53_13 s) fun r => some (inBlk 1 r) := xB 1 _
@[simp] theorem n53_14_eq : evC (cx53 call) n53_14 ⟨env, h⟩ = (bnd (pureV h (mBin .add (env.get 4) (nat 1))) fun r1 => some (.nrm, ⟨(Env.put env 4 r1.1), r1.2⟩)) := (xR 4 (cOps n53_14)).trans (by
  refine opsK_0 ?_
  refine oT 7 (env.get 4) ?_
  refine oP 8 fun r1 => ?_
  refine oT 4 r1.1 ?_
  exact oE)
@[simp] theorem n53_11_eq : evC (cx53 call) n53_11 s = bnd (evC (cx53 call) n53_12 s) (sqK (evC (cx53 call) n53_14)) := xS _ _
@[simp] theorem n53_6_eq : evC (cx53 call) n53_6 s = bnd (evC (cx53 call) n53_7 s) (sqK (evC (cx53 call) n53_11)) := xS _ _
@[simp] theorem n53_5_eq : evC (cx53 call) n53_5 s = evLoop (evC (cx53 call) n53_6) s := xL _
@[simp] theorem n53_4_eq : evC (cx53 call) n53_4 s = bnd (evC (cx53 call) n53_5 s) fun r => some (inBlk 0 r) := xB 0 _
@[simp] theorem n53_3_eq : evC (cx53 call) n53_3 ⟨env, h⟩ = ( evC (cx53 call) n53_4 ⟨(Env.put env 4 (nat 0)), h⟩) := (xSR 2 (cOps (cL n53_3)) (cR n53_3)).trans (by
  refine opsK_0 ?_
  refine oT 4 (nat 0) ?_
  exact oE)
@[simp] theorem n53_16_eq : evC (cx53 call) n53_16 s = some (.ret, s) := xE
@[simp] theorem n53_15_eq : evC (cx53 call) n53_15 ⟨env, h⟩ = (bnd (pureV h (mLoad (.arr 128 (.int .i64)) (env.get 3) h)) fun r0 => bnd (stU (.arr 128 (.int .i64)) (env.get 2) r0.1 r0.2) fun r1 => evC (cx53 call) n53_16 ⟨env, r1.2⟩) := (xSR 6 (cOps (cL n53_15)) (cR n53_15)).trans (by
  refine opsK_0 ?_
  refine oP 20 fun r0 => ?_
  refine oN fun r1 => ?_
  exact oE)
@[simp] theorem n53_2_eq : evC (cx53 call) n53_2 s = bnd (evC (cx53 call) n53_3 s) (sqK (evC (cx53 call) n53_15)) := xS _ _
@[simp] theorem n53_1_eq : evC (cx53 call) n53_1 ⟨env, h⟩ = (bnd (mNew (.arr 128 (.int .i64)) (.ints .i64 (List.replicate 128 0)) h) fun r0 => evC (cx53 call) n53_2 ⟨(Env.put env 3 r0.1), r0.2⟩) := (xSR 1 (cOps (cL n53_1)) (cR n53_1)).trans (by
  refine opsK_0 ?_
  refine oP 3 fun r0 => ?_
  exact oE)
@[simp] theorem n53_0_eq : evC (cx53 call) n53_0 ⟨env, h⟩ = (bnd (mNew (.arr 16 (.int .u8)) (env.get 0) h) fun r0 => bnd (mNew (.arr 128 (.int .i64)) (.ints .i64 (List.replicate 128 0)) r0.2) fun r1 => evC (cx53 call) n53_1 ⟨(Env.put (Env.put env 1 r0.1) 2 r1.1), r1.2⟩) := (xSR 0 (cOps (cL n53_0)) (cR n53_0)).trans (by
  refine opsK_0 ?_
  refine oP 1 fun r0 => ?_
  refine oP 2 fun r1 => ?_
  exact oE)
theorem b53 (call : Calling) (a0 : AV) (h : Heap) : evBody (cx53 call) Try.f53 n53_0 [a0] h = bnd (evC (cx53 call) n53_0 ⟨[(0, a0), (1, .junk), (2, .junk), (3, .junk), (4, .junk), (6, .junk)], h⟩) (retK fun s => bnd (bnd (mLoad (.arr 128 (.int .i64)) (s.env.get 2) s.heap) fun v => bnd (some []) fun vs => some (v :: vs)) fun vs => some (oneOrTuple vs)) := by kernel_rfl
theorem fn53 : Try.prog.funcs[53]? = some Try.f53 := by kernel_rfl
theorem k53 : Callable Try.prog 53 := ⟨Try.f53, fn53, by kernel_rfl, by kernel_rfl⟩
theorem s53 {call : Calling} (hc : CallOK Try.prog call) {args : List AV} {h h' : Heap} {v : AV} (he : evBody (cx53 call) Try.f53 n53_0 args h = some (v, h')) : Spec Try.prog 53 args h v h' := body_sound (C := cx53 call) TT_ok hc mixed_ok fn53 (by kernel_rfl) (by kernel_rfl) he
def sn53 := Y n53_9_eq (Y n53_10_eq (Y n53_8_eq (Y n53_7_eq (Y n53_13_eq (Y n53_12_eq (Y n53_14_eq (Y n53_11_eq (Y n53_6_eq (Y n53_5_eq (Y n53_4_eq (Y n53_3_eq (Y n53_16_eq (Y n53_15_eq (Y n53_2_eq (Y n53_1_eq (n53_0_eq))))))))))))))))
end
end Go.Vab

/- How the evaluator reads the functions of a seat. Printed by wip/tools/gen.py (own work). -/
namespace Go.Vab
open Go Go.Proofs
noncomputable section
variable (call : Calling) (env : Env) (h : Heap) (s : St)
/-! (vestry/vestryref09.Poly).times -/
def cx54 (call : Calling) : Ctx := ⟨call, TT, 88, [11, 13, 14, 15, 16, 17, 19, 21, 22, 23, 24, 25, 26, 27, 28, 29, 30, 31, 32, 33, 34, 35, 36, 38, 39, 40, 41, 42, 44, 45, 46, 47, 48, 49, 50, 51, 52, 53, 54, 55, 56, 57, 58, 59, 60, 61, 62, 63, 64, 65, 66, 67, 68, 69, 70, 71, 72, 73, 74, 75, 76, 77, 78, 80, 81, 82, 83, 84, 85, 86, 87]⟩
def n54_0 : Code := bodyOf Try.f54
def n54_1 : Code := cR n54_0
def n54_2 : Code := cR n54_1
def n54_3 : Code := cL n54_2
def n54_4 : Code := cR n54_3
def n54_5 : Code := cB n54_4
def n54_6 : Code := cB n54_5
def n54_7 : Code := cL n54_6
def n54_8 : Code := cR n54_7
def n54_9 : Code := cL n54_8
def n54_10 : Code := cR n54_8
def n54_11 : Code := cR n54_6
def n54_12 : Code := cL n54_11
def n54_13 : Code := cB n54_12
def n54_14 : Code := cL n54_13
def n54_15 : Code := cR n54_14
def n54_16 : Code := cL n54_15
def n54_17 : Code := cR n54_15
def n54_18 : Code := cR n54_13
def n54_19 : Code := cR n54_18
def n54_20 : Code := cB n54_19
def n54_21 : Code := cB n54_20
def n54_22 : Code := cL n54_21
def n54_23 : Code := cR n54_22
def n54_24 : Code := cL n54_23
def n54_25 : Code := cR n54_23
def n54_26 : Code := cR n54_21
def n54_27 : Code := cL n54_26
def n54_28 : Code := cB n54_27
def n54_29 : Code := cR n54_26
def n54_30 : Code := cR n54_11
def n54_31 : Code := cR n54_2
def n54_32 : Code := cL n54_31
def n54_33 : Code := cR n54_32
def n54_34 : Code := cB n54_33
def n54_35 : Code := cB n54_34
def n54_36 : Code := cL n54_35
def n54_37 : Code := cR n54_36
def n54_38 : Code := cL n54_37
def n54_39 : Code := cR n54_37
def n54_40 : Code := cR n54_35
def n54_41 : Code := cL n54_40
def n54_42 : Code := cB n54_41
def n54_43 : Code := cR n54_42
def n54_44 : Code := cL n54_43
def n54_45 : Code := cR n54_44
def n54_46 : Code := cR n54_45
def n54_47 : Code := cR n54_46
def n54_48 : Code := cR n54_47
def n54_49 : Code := cR n54_43
def n54_50 : Code := cR n54_40
def n54_51 : Code := cR n54_31
def n54_52 : Code := cR n54_51
def n54_53 : Code := cL n54_52
def n54_54 : Code := cR n54_53
def n54_55 : Code := cB n54_54
def n54_56 : Code := cB n54_55
def n54_57 : Code := cL n54_56
def n54_58 : Code := cR n54_57
def n54_59 : Code := cL n54_58
def n54_60 : Code := cR n54_58
def n54_61 : Code := cR n54_56
def n54_62 : Code := cL n54_61
def n54_63 : Code := cB n54_62
def n54_64 : Code := cR n54_61
def n54_65 : Code := cR n54_52
def n54_66 : Code := cR n54_65
@[simp] theorem n54_9_eq : evC (cx54 call) n54_9 s = some (.nrm, s) := xK
@[simp] theorem n54_10_eq : evC (cx54 call) n54_10 s = some (.exit 0, s) := xX 0
@[simp] theorem n54_8_eq : evC (cx54 call) n54_8 s = cnd (s.env.get 12) (evC (cx54 call) n54_9 s) (evC (cx54 call) n54_10 s) := xC 12 _ _
@[simp] theorem n54_7_eq : evC (cx54 call) n54_7 ⟨env, h⟩ = (bnd (pureV h (mBin .lss (env.get 6) (nat 128))) fun r1 => evC (cx54 call) n54_8 ⟨(Env.put env 12 r1.1), r1.2⟩) := (xSR 3 (cOps (cL n54_7)) (cR n54_7)).trans (by
  refine opsK_0 ?_
  refine oT 11 (env.get 6) ?_
  refine oP 12 fun r1 => ?_
  exact oE)
@[simp] theorem n54_16_eq : evC (cx54 call) n54_16 s = some (.exit 1, s) := xX 1
@[simp] theorem n54_17_eq : evC (cx54 call) n54_17 s = some (.nrm, s) := xK
@[simp] theorem n54_15_eq : evC (cx54 call) n54_15 s = cnd (s.env.get 18) (evC (cx54 call) n54_16 s) (evC (cx54 call) n54_17 s) := xC 18 _ _
@[simp] theorem n54_14_eq : evC (cx54 call) n54_14 ⟨env, h⟩ = (bnd (pureV h (mIdxA (.arr 128 (.int .i64)) (env.get 2) (env.get 6))) fun r1 => bnd (pureV r1.2 (mLoad (.int .i64) r1.1 r1.2)) fun r2 => bnd (pureV r2.2 (mBin .eql r2.1 (nat 0))) fun r3 => evC (cx54 call) n54_15 ⟨(Env.put env 18 r3.1), r3.2⟩) := (xSR 5 (cOps (cL n54_14)) (cR n54_14)).trans (by
  refine opsK_0 ?_
  refine oT 15 (env.get 6) ?_
  refine oP 16 fun r1 => ?_
  refine oP 17 fun r2 => ?_
  refine oP 18 fun r3 => ?_
  exact oE)
@[simp] theorem n54_24_eq : evC (cx54 call) n54_24 s = some (.nrm, s) := xK
@[simp] theorem n54_25_eq : evC (cx54 call) n54_25 s = some (.exit 2, s) := xX 2
@[simp] theorem n54_23_eq : evC (cx54 call) n54_23 s = cnd (s.env.get 20) (evC (cx54 call) n54_24 s) (evC (cx54 call) n54_25 s) := xC 20 _ _
@[simp] theorem n54_22_eq : evC (cx54 call) n54_22 ⟨env, h⟩ = (bnd (pureV h (mBin .lss (env.get 7) (nat 128))) fun r1 => evC (cx54 call) n54_23 ⟨(Env.put env 20 r1.1), r1.2⟩) := (xSR 7 (cOps (cL n54_22)) (cR n54_22)).trans (by
  refine opsK_0 ?_
  refine oT 19 (env.get 7) ?_
  refine oP 20 fun r1 => ?_
  exact oE)
theorem n54_28_ok : drawOk (cOps n54_28).toList = true := by kernel_rfl
@[simp] theorem n54_28_eq : evC (cx54 call) n54_28 ⟨env, h⟩ = (bnd (pureV h (mBin .add (env.get 6) (env.get 7))) fun r2 => bnd (pureV r2.2 (mBin .add (env.get 6) (env.get 7))) fun r5 => bnd (pureV r5.2 (mIdxA (.arr 255 (.int .i64)) (env.get 5) r5.1)) fun r6 => bnd (pureV r6.2 (mLoad (.int .i64) r6.1 r6.2)) fun r7 => bnd (pureV r7.2 (mIdxA (.arr 128 (.int .i64)) (env.get 3) (env.get 7))) fun r9 => bnd (pureV r9.2 (mLoad (.int .i64) r9.1 r9.2)) fun r10 => bnd (pureV r10.2 (mBin .xor r7.1 r10.1)) fun r11 => bnd (pureV r11.2 (mIdxA (.arr 255 (.int .i64)) (env.get 5) r2.1)) fun r12 => bnd (stU (.int .i64) r12.1 r11.1 r12.2) fun r13 => some (.nrm, ⟨env, r13.2⟩)) := (xD 9 (cOps n54_28) n54_28_ok).trans (by
  refine opsK_0 ?_
  refine oT 23 (env.get 6) ?_
  refine oT 24 (env.get 7) ?_
  refine oP 25 fun r2 => ?_
  refine oT 26 (env.get 6) ?_
  refine oT 27 (env.get 7) ?_
  refine oP 28 fun r5 => ?_
  refine oP 29 fun r6 => ?_
  refine oP 30 fun r7 => ?_
  refine oT 31 (env.get 7) ?_
  refine oP 32 fun r9 => ?_
  refine oP 33 fun r10 => ?_
  refine oP 34 fun r11 => ?_
  refine oP 35 fun r12 => ?_
  refine oN fun r13 => ?_
  exact oE)
@[simp] theorem n54_27_eq : evC (cx54 call) n54_27 s = bnd (evC (cx54 call) n54_28 s) fun r => some (inBlk 3 r) := xB 3 _
@[simp] theorem n54_29_eq : evC (cx54 call) n54_29 ⟨env, h⟩ = (bnd (pureV h (mBin .add (env.get 7) (nat 1))) fun r1 => some (.nrm, ⟨(Env.put env 7 r1.1), r1.2⟩)) := (xR 8 (cOps n54_29)).trans (by
  refine opsK_0 ?_
  refine oT 21 (env.get 7) ?_
  refine oP 22 fun r1 => ?_
  refine oT 7 r1.1 ?_
  exact oE)
@[simp] theorem n54_26_eq : evC (cx54 call) n54_26 s = bnd (evC (cx54 call) n54_27 s) (sqK (evC (cx54 call) n54_29)) := xS _ _
@[simp] theorem n54_21_eq : evC (cx54 call) n54_21 s = bnd (evC (cx54 call) n54_22 s) (sqK (evC (cx54 call) n54_26)) := xS _ _
@[simp] theorem n54_20_eq : evC (cx54 call) n54_20 s = evLoop (evC (cx54 call) n54_21) s := xL _
@[simp] theorem n54_19_eq : evC (cx54 call) n54_19 s = bnd (evC (cx54 call) n54_20 s) fun r => some (inBlk 2 r) := xB 2 _
@[simp] theorem n54_18_eq : evC (cx54 call) n54_18 ⟨env, h⟩ = ( evC (cx54 call) n54_19 ⟨(Env.put env 7 (nat 0)), h⟩) := (xSR 6 (cOps (cL n54_18)) (cR n54_18)).trans (by
  refine opsK_0 ?_
  refine oT 7 (nat 0) ?_
  exact oE)
@[simp] theorem n54_13_eq : evC (cx54 call) n54_13 s = bnd (evC (cx54 call) n54_14 s) (sqK (evC (cx54 call) n54_18)) := xS _ _
@[simp] theorem n54_12_eq : evC (cx54 call) n54_12 s = bnd (evC (cx54 call) n54_13 s) fun r => some (inBlk 1 r) := xB 1 _
@[simp] theorem n54_30_eq : evC (cx54 call) n54_30 ⟨env, h⟩ = (bnd (pureV h (mBin .add (env.get 6) (nat 1))) fun r1 => some (.nrm, ⟨(Env.put env 6 r1.1), r1.2⟩)) := (xR 4 (cOps n54_30)).trans (by
  refine opsK_0 ?_
  refine oT 13 (env.get 6) ?_
  refine oP 14 fun r1 => ?_
  refine oT 6 r1.1 ?_
  exact oE)
@[simp] theorem n54_11_eq : evC (cx54 call) n54_11 s = bnd (evC (cx54 call) n54_12 s) (sqK (evC (cx54 call) n54_30)) := xS _ _
@[simp] theorem n54_6_eq : evC (cx54 call) n54_6 s = bnd (evC (cx54 call) n54_7 s) (sqK (evC (cx54 call) n54_11)) := xS _ _
@[simp] theorem n54_5_eq : evC (cx54 call) n54_5 s = evLoop (evC (cx54 call) n54_6) s := xL _
@[simp] theorem n54_4_eq : evC (cx54 call) n54_4 s = bnd (evC (cx54 call) n54_5 s) fun r => some (inBlk 0 r) := xB 0 _
@[simp] theorem n54_3_eq : evC (cx54 call) n54_3 ⟨env, h⟩ = ( evC (cx54 call) n54_4 ⟨(Env.put env 6 (nat 0)), h⟩) := (xSR 2 (cOps (cL n54_3)) (cR n54_3)).trans (by
  refine opsK_0 ?_
  refine oT 6 (nat 0) ?_
  exact oE)
@[simp] theorem n54_38_eq : evC (cx54 call) n54_38 s = some (.nrm, s) := xK
@[simp] theorem n54_39_eq : evC (cx54 call) n54_39 s = some (.exit 4, s) := xX 4
@[simp] theorem n54_37_eq : evC (cx54 call) n54_37 s = cnd (s.env.get 37) (evC (cx54 call) n54_38 s) (evC (cx54 call) n54_39 s) := xC 37 _ _
@[simp] theorem n54_36_eq : evC (cx54 call) n54_36 ⟨env, h⟩ = (bnd (pureV h (mBin .geq (env.get 8) (nat 128))) fun r1 => evC (cx54 call) n54_37 ⟨(Env.put env 37 r1.1), r1.2⟩) := (xSR 11 (cOps (cL n54_36)) (cR n54_36)).trans (by
  refine opsK_0 ?_
  refine oT 36 (env.get 8) ?_
  refine oP 37 fun r1 => ?_
  exact oE)
@[simp] theorem n54_48_eq : evC (cx54 call) n54_48 ⟨env, h⟩ = (bnd (pureV h (mBin .sub (env.get 8) (nat 128))) fun r1 => bnd (pureV r1.2 (mBin .sub (env.get 8) (nat 128))) fun r3 => bnd (pureV r3.2 (mIdxA (.arr 255 (.int .i64)) (env.get 5) r3.1)) fun r4 => bnd (pureV r4.2 (mLoad (.int .i64) r4.1 r4.2)) fun r5 => bnd (pureV r5.2 (mBin .xor r5.1 (nat 1))) fun r6 => bnd (pureV r6.2 (mIdxA (.arr 255 (.int .i64)) (env.get 5) r1.1)) fun r7 => bnd (stU (.int .i64) r7.1 r6.1 r7.2) fun r8 => some (.nrm, ⟨env, r8.2⟩)) := (xR 18 (cOps n54_48)).trans (by
  refine opsK_0 ?_
  refine oT 70 (env.get 8) ?_
  refine oP 71 fun r1 => ?_
  refine oT 72 (env.get 8) ?_
  refine oP 73 fun r3 => ?_
  refine oP 74 fun r4 => ?_
  refine oP 75 fun r5 => ?_
  refine oP 76 fun r6 => ?_
  refine oP 77 fun r7 => ?_
  refine oN fun r8 => ?_
  exact oE)
@[simp] theorem n54_47_eq : evC (cx54 call) n54_47 ⟨env, h⟩ = (bnd (pureV h (mBin .sub (env.get 8) (nat 7))) fun r1 => bnd (pureV r1.2 (mBin .sub (env.get 8) (nat 7))) fun r3 => bnd (pureV r3.2 (mIdxA (.arr 255 (.int .i64)) (env.get 5) r3.1)) fun r4 => bnd (pureV r4.2 (mLoad (.int .i64) r4.1 r4.2)) fun r5 => bnd (pureV r5.2 (mBin .xor r5.1 (nat 1))) fun r6 => bnd (pureV r6.2 (mIdxA (.arr 255 (.int .i64)) (env.get 5) r1.1)) fun r7 => bnd (stU (.int .i64) r7.1 r6.1 r7.2) fun r8 => evC (cx54 call) n54_48 ⟨env, r8.2⟩) := (xSR 17 (cOps (cL n54_47)) (cR n54_47)).trans (by
  refine opsK_0 ?_
  refine oT 62 (env.get 8) ?_
  refine oP 63 fun r1 => ?_
  refine oT 64 (env.get 8) ?_
  refine oP 65 fun r3 => ?_
  refine oP 66 fun r4 => ?_
  refine oP 67 fun r5 => ?_
  refine oP 68 fun r6 => ?_
  refine oP 69 fun r7 => ?_
  refine oN fun r8 => ?_
  exact oE)
@[simp] theorem n54_46_eq : evC (cx54 call) n54_46 ⟨env, h⟩ = (bnd (pureV h (mBin .sub (env.get 8) (nat 2))) fun r1 => bnd (pureV r1.2 (mBin .sub (env.get 8) (nat 2))) fun r3 => bnd (pureV r3.2 (mIdxA (.arr 255 (.int .i64)) (env.get 5) r3.1)) fun r4 => bnd (pureV r4.2 (mLoad (.int .i64) r4.1 r4.2)) fun r5 => bnd (pureV r5.2 (mBin .xor r5.1 (nat 1))) fun r6 => bnd (pureV r6.2 (mIdxA (.arr 255 (.int .i64)) (env.get 5) r1.1)) fun r7 => bnd (stU (.int .i64) r7.1 r6.1 r7.2) fun r8 => evC (cx54 call) n54_47 ⟨env, r8.2⟩) := (xSR 16 (cOps (cL n54_46)) (cR n54_46)).trans (by
  refine opsK_0 ?_
  refine oT 54 (env.get 8) ?_
  refine oP 55 fun r1 => ?_
  refine oT 56 (env.get 8) ?_
  refine oP 57 fun r3 => ?_
  refine oP 58 fun r4 => ?_
  refine oP 59 fun r5 => ?_
  refine oP 60 fun r6 => ?_
  refine oP 61 fun r7 => ?_
  refine oN fun r8 => ?_
  exact oE)
@[simp] theorem n54_45_eq : evC (cx54 call) n54_45 ⟨env, h⟩ = (bnd (pureV h (mBin .sub (env.get 8) (nat 1))) fun r1 => bnd (pureV r1.2 (mBin .sub (env.get 8) (nat 1))) fun r3 => bnd (pureV r3.2 (mIdxA (.arr 255 (.int .i64)) (env.get 5) r3.1)) fun r4 => bnd (pureV r4.2 (mLoad (.int .i64) r4.1 r4.2)) fun r5 => bnd (pureV r5.2 (mBin .xor r5.1 (nat 1))) fun r6 => bnd (pureV r6.2 (mIdxA (.arr 255 (.int .i64)) (env.get 5) r1.1)) fun r7 => bnd (stU (.int .i64) r7.1 r6.1 r7.2) fun r8 => evC (cx54 call) n54_46 ⟨env, r8.2⟩) := (xSR 15 (cOps (cL n54_45)) (cR n54_45)).trans (by
  refine opsK_0 ?_
  refine oT 46 (env.get 8) ?_
  refine oP 47 fun r1 => ?_
  refine oT 48 (env.get 8) ?_
  refine oP 49 fun r3 => ?_
  refine oP 50 fun r4 => ?_
  refine oP 51 fun r5 => ?_
  refine oP 52 fun r6 => ?_
  refine oP 53 fun r7 => ?_
  refine oN fun r8 => ?_
  exact oE)
@[simp] theorem n54_44_eq : evC (cx54 call) n54_44 ⟨env, h⟩ = (bnd (pureV h (mIdxA (.arr 255 (.int .i64)) (env.get 5) (env.get 8))) fun r1 => bnd (stU (.int .i64) r1.1 (nat 0) r1.2) fun r2 => evC (cx54 call) n54_45 ⟨env, r2.2⟩) := (xSR 14 (cOps (cL n54_44)) (cR n54_44)).trans (by
  refine opsK_0 ?_
  refine oT 44 (env.get 8) ?_
  refine oP 45 fun r1 => ?_
  refine oN fun r2 => ?_
  exact oE)
@[simp] theorem n54_49_eq : evC (cx54 call) n54_49 s = some (.nrm, s) := xK
@[simp] theorem n54_43_eq : evC (cx54 call) n54_43 s = cnd (s.env.get 43) (evC (cx54 call) n54_44 s) (evC (cx54 call) n54_49 s) := xC 43 _ _
@[simp] theorem n54_42_eq : evC (cx54 call) n54_42 ⟨env, h⟩ = (bnd (pureV h (mIdxA (.arr 255 (.int .i64)) (env.get 5) (env.get 8))) fun r1 => bnd (pureV r1.2 (mLoad (.int .i64) r1.1 r1.2)) fun r2 => bnd (pureV r2.2 (mBin .eql r2.1 (nat 1))) fun r3 => evC (cx54 call) n54_43 ⟨(Env.put env 43 r3.1), r3.2⟩) := (xSR 13 (cOps (cL n54_42)) (cR n54_42)).trans (by
  refine opsK_0 ?_
  refine oT 40 (env.get 8) ?_
  refine oP 41 fun r1 => ?_
  refine oP 42 fun r2 => ?_
  refine oP 43 fun r3 => ?_
  exact oE)
@[simp] theorem n54_41_eq : evC (cx54 call) n54_41 s = bnd (evC (cx54 call) n54_42 s) fun r => some (inBlk 5 r) := xB 5 _
@[simp] theorem n54_50_eq : evC (cx54 call) n54_50 ⟨env, h⟩ = (bnd (pureV h (mBin .sub (env.get 8) (nat 1))) fun r1 => some (.nrm, ⟨(Env.put env 8 r1.1), r1.2⟩)) := (xR 12 (cOps n54_50)).trans (by
  refine opsK_0 ?_
  refine oT 38 (env.get 8) ?_
  refine oP 39 fun r1 => ?_
  refine oT 8 r1.1 ?_
  exact oE)
@[simp] theorem n54_40_eq : evC (cx54 call) n54_40 s = bnd (evC (cx54 call) n54_41 s) (sqK (evC (cx54 call) n54_50)) := xS _ _
@[simp] theorem n54_35_eq : evC (cx54 call) n54_35 s = bnd (evC (cx54 call) n54_36 s) (sqK (evC (cx54 call) n54_40)) := xS _ _
@[simp] theorem n54_34_eq : evC (cx54 call) n54_34 s = evLoop (evC (cx54 call) n54_35) s := xL _
@[simp] theorem n54_33_eq : evC (cx54 call) n54_33 s = bnd (evC (cx54 call) n54_34 s) fun r => some (inBlk 4 r) := xB 4 _
@[simp] theorem n54_32_eq : evC (cx54 call) n54_32 ⟨env, h⟩ = ( evC (cx54 call) n54_33 ⟨(Env.put env 8 (nat 254)), h⟩) := (xSR 10 (cOps (cL n54_32)) (cR n54_32)).trans (by
  refine opsK_0 ?_
  refine oT 8 (nat 254) ?_
  exact oE)
@[simp] theorem n54_59_eq : evC (cx54 call) n54_59 s = some (.nrm, s) := xK
@[simp] theorem n54_60_eq : evC (cx54 call) n54_60 s = some (.exit 6, s) := xX 6
@[simp] theorem n54_58_eq : evC (cx54 call) n54_58 s = cnd (s.env.get 79) (evC (cx54 call) n54_59 s) (evC (cx54 call) n54_60 s) := xC 79 _ _
@[simp] theorem n54_57_eq : evC (cx54 call) n54_57 ⟨env, h⟩ = (bnd (pureV h (mBin .lss (env.get 10) (nat 128))) fun r1 => evC (cx54 call) n54_58 ⟨(Env.put env 79 r1.1), r1.2⟩) := (xSR 21 (cOps (cL n54_57)) (cR n54_57)).trans (by
  refine opsK_0 ?_
  refine oT 78 (env.get 10) ?_
  refine oP 79 fun r1 => ?_
  exact oE)
@[simp] theorem n54_63_eq : evC (cx54 call) n54_63 ⟨env, h⟩ = (bnd (pureV h (mIdxA (.arr 255 (.int .i64)) (env.get 5) (env.get 10))) fun r2 => bnd (pureV r2.2 (mLoad (.int .i64) r2.1 r2.2)) fun r3 => bnd (pureV r3.2 (mIdxA (.arr 128 (.int .i64)) (env.get 9) (env.get 10))) fun r4 => bnd (stU (.int .i64) r4.1 r3.1 r4.2) fun r5 => some (.nrm, ⟨env, r5.2⟩)) := (xR 23 (cOps n54_63)).trans (by
  refine opsK_0 ?_
  refine oT 82 (env.get 10) ?_
  refine oT 83 (env.get 10) ?_
  refine oP 84 fun r2 => ?_
  refine oP 85 fun r3 => ?_
  refine oP 86 fun r4 => ?_
  refine oN fun r5 => ?_
  exact oE)
@[simp] theorem n54_62_eq : evC (cx54 call) n54_62 s = bnd (evC (cx54 call) n54_63 s) fun r => some (inBlk 7 r) := xB 7 _
@[simp] theorem n54_64_eq : evC (cx54 call) n54_64 ⟨env, h⟩ = (bnd (pureV h (mBin .add (env.get 10) (nat 1))) fun r1 => some (.nrm, ⟨(Env.put env 10 r1.1), r1.2⟩)) := (xR 22 (cOps n54_64)).trans (by
  refine opsK_0 ?_
  refine oT 80 (env.get 10) ?_
  refine oP 81 fun r1 => ?_
  refine oT 10 r1.1 ?_
  exact oE)
@[simp] theorem n54_61_eq : evC (cx54 call) n54_61 s = bnd (evC (cx54 call) n54_62 s) (sqK (evC (cx54 call) n54_64)) := xS _ _
@[simp] theorem n54_56_eq : evC (cx54 call) n54_56 s = bnd (evC (cx54 call) n54_57 s) (sqK (evC (cx54 call) n54_61)) := xS _ _
@[simp] theorem n54_55_eq : evC (cx54 call) n54_55 s = evLoop (evC (cx54 call) n54_56) s := xL _
@[simp] theorem n54_54_eq : evC (cx54 call) n54_54 s = bnd (evC (cx54 call) n54_55 s) fun r => some (inBlk 6 r) := xB 6 _
@[simp] theorem n54_53_eq : evC (cx54 call) n54_53 ⟨env, h⟩ = ( evC (cx54 call) n54_54 ⟨(Env.put env 10 (nat 0)), h⟩) := (xSR 20 (cOps (cL n54_53)) (cR n54_53)).trans (by
  refine opsK_0 ?_
  refine oT 10 (nat 0) ?_
  exact oE)
@[simp] theorem n54_66_eq : evC (cx54 call) n54_66 s = some (.ret, s) := xE
@[simp] theorem n54_65_eq : evC (cx54 call) n54_65 ⟨env, h⟩ = (bnd (pureV h (mLoad (.arr 128 (.int .i64)) (env.get 9) h)) fun r0 => bnd (stU (.arr 128 (.int .i64)) (env.get 4) r0.1 r0.2) fun r1 => evC (cx54 call) n54_66 ⟨env, r1.2⟩) := (xSR 24 (cOps (cL n54_65)) (cR n54_65)).trans (by
  refine opsK_0 ?_
  refine oP 87 fun r0 => ?_
  refine oN fun r1 => ?_
  exact oE)
@[simp] theorem n54_52_eq : evC (cx54 call) n54_52 s = bnd (evC (cx54 call) n54_53 s) (sqK (evC (cx54 call) n54_65)) := xS _ _
@[simp] theorem n54_51_eq : evC (cx54 call) n54_51 ⟨env, h⟩ = (bnd (mNew (.arr 128 (.int .i64)) (.ints .i64 (List.replicate 128 0)) h) fun r0 => evC (cx54 call) n54_52 ⟨(Env.put env 9 r0.1), r0.2⟩) := (xSR 19 (cOps (cL n54_51)) (cR n54_51)).trans (by
  refine opsK_0 ?_
  refine oP 9 fun r0 => ?_
  exact oE)
@[simp] theorem n54_31_eq : evC (cx54 call) n54_31 s = bnd (evC (cx54 call) n54_32 s) (sqK (evC (cx54 call) n54_51)) := xS _ _
@[simp] theorem n54_2_eq : evC (cx54 call) n54_2 s = bnd (evC (cx54 call) n54_3 s) (sqK (evC (cx54 call) n54_31)) := xS _ _
@[simp] theorem n54_1_eq : evC (cx54 call) n54_1 ⟨env, h⟩ = (bnd (mNew (.arr 255 (.int .i64)) (.ints .i64 (List.replicate 255 0)) h) fun r0 => evC (cx54 call) n54_2 ⟨(Env.put env 5 r0.1), r0.2⟩) := (xSR 1 (cOps (cL n54_1)) (cR n54_1)).trans (by
  refine opsK_0 ?_
  refine oP 5 fun r0 => ?_
  exact oE)
@[simp] theorem n54_0_eq : evC (cx54 call) n54_0 ⟨env, h⟩ = (bnd (mNew (.arr 128 (.int .i64)) (env.get 0) h) fun r0 => bnd (mNew (.arr 128 (.int .i64)) (env.get 1) r0.2) fun r1 => bnd (mNew (.arr 128 (.int .i64)) (.ints .i64 (List.replicate 128 0)) r1.2) fun r2 => evC (cx54 call) n54_1 ⟨(Env.put (Env.put (Env.put env 2 r0.1) 3 r1.1) 4 r2.1), r2.2⟩) := (xSR 0 (cOps (cL n54_0)) (cR n54_0)).trans (by
  refine opsK_0 ?_
  refine oP 2 fun r0 => ?_
  refine oP 3 fun r1 => ?_
  refine oP 4 fun r2 => ?_
  exact oE)
theorem b54 (call : Calling) (a0 a1 : AV) (h : Heap) : evBody (cx54 call) Try.f54 n54_0 [a0, a1] h = bnd (evC (cx54 call) n54_0 ⟨[(0, a0), (1, a1), (2, .junk), (3, .junk), (4, .junk), (5, .junk), (6, .junk), (7, .junk), (8, .junk), (9, .junk), (10, .junk), (12, .junk), (18, .junk), (20, .junk), (37, .junk), (43, .junk), (79, .junk)], h⟩) (retK fun s => bnd (bnd (mLoad (.arr 128 (.int .i64)) (s.env.get 4) s.heap) fun v => bnd (some []) fun vs => some (v :: vs)) fun vs => some (oneOrTuple vs)) := by kernel_rfl
theorem fn54 : Try.prog.funcs[54]? = some Try.f54 := by kernel_rfl
theorem k54 : Callable Try.prog 54 := ⟨Try.f54, fn54, by kernel_rfl, by kernel_rfl⟩
theorem s54 {call : Calling} (hc : CallOK Try.prog call) {args : List AV} {h h' : Heap} {v : AV} (he : evBody (cx54 call) Try.f54 n54_0 args h = some (v, h')) : Spec Try.prog 54 args h v h' := body_sound (C := cx54 call) TT_ok hc mixed_ok fn54 (by kernel_rfl) (by kernel_rfl) he
def sn54 := Y n54_9_eq (Y n54_10_eq (Y n54_8_eq (Y n54_7_eq (Y n54_16_eq (Y n54_17_eq (Y n54_15_eq (Y n54_14_eq (Y n54_24_eq (Y n54_25_eq (Y n54_23_eq (Y n54_22_eq (Y n54_28_eq (Y n54_27_eq (Y n54_29_eq (Y n54_26_eq (Y n54_21_eq (Y n54_20_eq (Y n54_19_eq (Y n54_18_eq (Y n54_13_eq (Y n54_12_eq (Y n54_30_eq (Y n54_11_eq (Y n54_6_eq (Y n54_5_eq (Y n54_4_eq (Y n54_3_eq (Y n54_38_eq (Y n54_39_eq (Y n54_37_eq (Y n54_36_eq (Y n54_48_eq (Y n54_47_eq (Y n54_46_eq (Y n54_45_eq (Y n54_44_eq (Y n54_49_eq (Y n54_43_eq (Y n54_42_eq (Y n54_41_eq (Y n54_50_eq (Y n54_40_eq (Y n54_35_eq (Y n54_34_eq (Y n54_33_eq (Y n54_32_eq (Y n54_59_eq (Y n54_60_eq (Y n54_58_eq (Y n54_57_eq (Y n54_63_eq (Y n54_62_eq (Y n54_64_eq (Y n54_61_eq (Y n54_56_eq (Y n54_55_eq (Y n54_54_eq (Y n54_53_eq (Y n54_66_eq (Y n54_65_eq (Y n54_52_eq (Y n54_51_eq (Y n54_31_eq (Y n54_2_eq (Y n54_1_eq (n54_0_eq))))))))))))))))))))))))))))))))))))))))))))))))))))))))))))))))))
end
end Go.Vab

/- How the evaluator reads the functions of a seat. Printed by wip/tools/gen.py (own work). -/
namespace Go.Vab
open Go Go.Proofs
noncomputable section
variable (call : Calling) (env : Env) (h : Heap) (s : St)
/-! (vestry/vestryref09.Poly).Bytes -/
def cx55 (call : Calling) : Ctx := ⟨call, TT, 23, [5, 7, 8, 9, 10, 11, 12, 13, 14, 15, 16, 17, 18, 19, 20, 21, 22]⟩
def n55_0 : Code := bodyOf Try.f55
def n55_1 : Code := cR n55_0
def n55_2 : Code := cR n55_1
def n55_3 : Code := cL n55_2
def n55_4 : Code := cR n55_3
def n55_5 : Code := cB n55_4
def n55_6 : Code := cB n55_5
def n55_7 : Code := cL n55_6
def n55_8 : Code := cR n55_7
def n55_9 : Code := cL n55_8
def n55_10 : Code := cR n55_8
def n55_11 : Code := cR n55_6
def n55_12 : Code := cL n55_11
def n55_13 : Code := cB n55_12
def n55_14 : Code := cR n55_11
def n55_15 : Code := cR n55_2
def n55_16 : Code := cR n55_15
@[simp] theorem n55_9_eq : evC (cx55 call) n55_9 s = some (.nrm, s) := xK
@[simp] theorem n55_10_eq : evC (cx55 call) n55_10 s = some (.exit 0, s) := xX 0
@[simp] theorem n55_8_eq : evC (cx55 call) n55_8 s = cnd (s.env.get 6) (evC (cx55 call) n55_9 s) (evC (cx55 call) n55_10 s) := xC 6 _ _
@[simp] theorem n55_7_eq : evC (cx55 call) n55_7 ⟨env, h⟩ = (bnd (pureV h (mBin .geq (env.get 4) (nat 0))) fun r1 => evC (cx55 call) n55_8 ⟨(Env.put env 6 r1.1), r1.2⟩) := (xSR 3 (cOps (cL n55_7)) (cR n55_7)).trans (by
  refine opsK_0 ?_
  refine oT 5 (env.get 4) ?_
  refine oP 6 fun r1 => ?_
  exact oE)
theorem n55_13_ok : drawOk (cOps n55_13).toList = true := by kernel_rfl
@[simp] theorem n55_13_eq : evC (cx55 call) n55_13 ⟨env, h⟩ = (bnd (pureV h (mBin .quo (env.get 4) (nat 8))) fun r1 => bnd (pureV r1.2 (mBin .quo (env.get 4) (nat 8))) fun r3 => bnd (pureV r3.2 (mIdxA (.arr 16 (.int .u8)) (env.get 3) r3.1)) fun r4 => bnd (pureV r4.2 (mLoad (.int .u8) r4.1 r4.2)) fun r5 => bnd (pureV r5.2 (mBin .mul (u8 2#8) r5.1)) fun r6 => bnd (pureV r6.2 (mIdxA (.arr 128 (.int .i64)) (env.get 1) (env.get 4))) fun r8 => bnd (pureV r8.2 (mLoad (.int .i64) r8.1 r8.2)) fun r9 => bnd (pureV r9.2 (mConv .u8 r9.1)) fun r10 => bnd (pureV r10.2 (mBin .add r6.1 r10.1)) fun r11 => bnd (pureV r11.2 (mIdxA (.arr 16 (.int .u8)) (env.get 3) r1.1)) fun r12 => bnd (stU (.int .u8) r12.1 r11.1 r12.2) fun r13 => some (.nrm, ⟨env, r13.2⟩)) := (xD 5 (cOps n55_13) n55_13_ok).trans (by
  refine opsK_0 ?_
  refine oT 9 (env.get 4) ?_
  refine oP 10 fun r1 => ?_
  refine oT 11 (env.get 4) ?_
  refine oP 12 fun r3 => ?_
  refine oP 13 fun r4 => ?_
  refine oP 14 fun r5 => ?_
  refine oP 15 fun r6 => ?_
  refine oT 16 (env.get 4) ?_
  refine oP 17 fun r8 => ?_
  refine oP 18 fun r9 => ?_
  refine oP 19 fun r10 => ?_
  refine oP 20 fun r11 => ?_
  refine oP 21 fun r12 => ?_
  refine oN fun r13 => ?_
  exact oE)
@[simp] theorem n55_12_eq : evC (cx55 call) n55_12 s = bnd (evC (cx55 call) n55_13 s) fun r => some (inBlk 1 r) := xB 1 _
@[simp] theorem n55_14_eq : evC (cx55 call) n55_14 ⟨env, h⟩ = (bnd (pureV h (mBin .sub (env.get 4) (nat 1))) fun r1 => some (.nrm, ⟨(Env.put env 4 r1.1), r1.2⟩)) := (xR 4 (cOps n55_14)).trans (by
  refine opsK_0 ?_
  refine oT 7 (env.get 4) ?_
  refine oP 8 fun r1 => ?_
  refine oT 4 r1.1 ?_
  exact oE)
@[simp] theorem n55_11_eq : evC (cx55 call) n55_11 s = bnd (evC (cx55 call) n55_12 s) (sqK (evC (cx55 call) n55_14)) := xS _ _
@[simp] theorem n55_6_eq : evC (cx55 call) n55_6 s = bnd (evC (cx55 call) n55_7 s) (sqK (evC (cx55 call) n55_11)) := xS _ _
@[simp] theorem n55_5_eq : evC (cx55 call) n55_5 s = evLoop (evC (cx55 call) n55_6) s := xL _
@[simp] theorem n55_4_eq : evC (cx55 call) n55_4 s = bnd (evC (cx55 call) n55_5 s) fun r => some (inBlk 0 r) := xB 0 _
@[simp] theorem n55_3_eq : evC (cx55 call) n55_3 ⟨env, h⟩ = ( evC (cx55 call) n55_4 ⟨(Env.put env 4 (nat 127)), h⟩) := (xSR 2 (cOps (cL n55_3)) (cR n55_3)).trans (by
  refine opsK_0 ?_
  refine oT 4 (nat 127) ?_
  exact oE)
@[simp] theorem n55_16_eq : evC (cx55 call) n55_16 s = some (.ret, s) := xE
@[simp] theorem n55_15_eq : evC (cx55 call) n55_15 ⟨env, h⟩ = (bnd (pureV h (mLoad (.arr 16 (.int .u8)) (env.get 3) h)) fun r0 => bnd (stU (.arr 16 (.int .u8)) (env.get 2) r0.1 r0.2) fun r1 => evC (cx55 call) n55_16 ⟨env, r1.2⟩) := (xSR 6 (cOps (cL n55_15)) (cR n55_15)).trans (by
  refine opsK_0 ?_
  refine oP 22 fun r0 => ?_
  refine oN fun r1 => ?_
  exact oE)
@[simp] theorem n55_2_eq : evC (cx55 call) n55_2 s = bnd (evC (cx55 call) n55_3 s) (sqK (evC (cx55 call) n55_15)) := xS _ _
@[simp] theorem n55_1_eq : evC (cx55 call) n55_1 ⟨env, h⟩ = (bnd (mNew (.arr 16 (.int .u8)) (arr 16 fun _ => 0#8) h) fun r0 => evC (cx55 call) n55_2 ⟨(Env.put env 3 r0.1), r0.2⟩) := (xSR 1 (cOps (cL n55_1)) (cR n55_1)).trans (by
  refine opsK_0 ?_
  refine oP 3 fun r0 => ?_
  exact oE)
@[simp] theorem n55_0_eq : evC (cx55 call) n55_0 ⟨env, h⟩ = (bnd (mNew (.arr 128 (.int .i64)) (env.get 0) h) fun r0 => bnd (mNew (.arr 16 (.int .u8)) (arr 16 fun _ => 0#8) r0.2) fun r1 => evC (cx55 call) n55_1 ⟨(Env.put (Env.put env 1 r0.1) 2 r1.1), r1.2⟩) := (xSR 0 (cOps (cL n55_0)) (cR n55_0)).trans (by
  refine opsK_0 ?_
  refine oP 1 fun r0 => ?_
  refine oP 2 fun r1 => ?_
  exact oE)
theorem b55 (call : Calling) (a0 : AV) (h : Heap) : evBody (cx55 call) Try.f55 n55_0 [a0] h = bnd (evC (cx55 call) n55_0 ⟨[(0, a0), (1, .junk), (2, .junk), (3, .junk), (4, .junk), (6, .junk)], h⟩) (retK fun s => bnd (bnd (mLoad (.arr 16 (.int .u8)) (s.env.get 2) s.heap) fun v => bnd (some []) fun vs => some (v :: vs)) fun vs => some (oneOrTuple vs)) := by kernel_rfl
theorem fn55 : Try.prog.funcs[55]? = some Try.f55 := by kernel_rfl
theorem k55 : Callable Try.prog 55 := ⟨Try.f55, fn55, by kernel_rfl, by kernel_rfl⟩
theorem s55 {call : Calling} (hc : CallOK Try.prog call) {args : List AV} {h h' : Heap} {v : AV} (he : evBody (cx55 call) Try.f55 n55_0 args h = some (v, h')) : Spec Try.prog 55 args h v h' := body_sound (C := cx55 call) TT_ok hc mixed_ok fn55 (by kernel_rfl) (by kernel_rfl) he
def sn55 := Y n55_9_eq (Y n55_10_eq (Y n55_8_eq (Y n55_7_eq (Y n55_13_eq (Y n55_12_eq (Y n55_14_eq (Y n55_11_eq (Y n55_6_eq (Y n55_5_eq (Y n55_4_eq (Y n55_3_eq (Y n55_16_eq (Y n55_15_eq (Y n55_2_eq (Y n55_1_eq (n55_0_eq))))))))))))))))
end
end Go.Vab

/- How the evaluator reads the functions of a seat. Printed by wip/tools/gen.py (own work). -/
namespace Go.Vab
open Go Go.Proofs
noncomputable section
variable (call : Calling) (env : Env) (h : Heap) (s : St)
/-! vestry/vestryref09.Dot -/
def cx32 (call : Calling) : Ctx := ⟨call, TT, 52, [10, 11, 12, 13, 14, 15, 17, 18, 19, 20, 21, 23, 24, 25, 26, 27, 28, 29, 30, 31, 33, 34, 35, 36, 37, 38, 39, 40, 41, 42, 43, 44, 45, 46, 47, 48, 49, 50, 51]⟩
def n32_0 : Code := bodyOf Try.f32
def n32_1 : Code := cR n32_0
def n32_2 : Code := cR n32_1
def n32_3 : Code := cL n32_2
def n32_4 : Code := cR n32_3
def n32_5 : Code := cB n32_4
def n32_6 : Code := cB n32_5
def n32_7 : Code := cL n32_6
def n32_8 : Code := cR n32_7
def n32_9 : Code := cL n32_8
def n32_10 : Code := cR n32_8
def n32_11 : Code := cR n32_6
def n32_12 : Code := cL n32_11
def n32_13 : Code := cB n32_12
def n32_14 : Code := cR n32_13
def n32_15 : Code := cR n32_14
def n32_16 : Code := cL n32_15
def n32_17 : Code := cR n32_16
def n32_18 : Code := cB n32_17
def n32_19 : Code := cB n32_18
def n32_20 : Code := cL n32_19
def n32_21 : Code := cR n32_20
def n32_22 : Code := cL n32_21
def n32_23 : Code := cR n32_21
def n32_24 : Code := cR n32_19
def n32_25 : Code := cL n32_24
def n32_26 : Code := cB n32_25
def n32_27 : Code := cR n32_24
def n32_28 : Code := cR n32_15
def n32_29 : Code := cL n32_28
def n32_30 : Code := cR n32_29
def n32_31 : Code := cL n32_30
def n32_32 : Code := cR n32_31
def n32_33 : Code := cR n32_32
def n32_34 : Code := cR n32_33
def n32_35 : Code := cR n32_30
def n32_36 : Code := cR n32_28
def n32_37 : Code := cR n32_11
def n32_38 : Code := cR n32_2
def n32_39 : Code := cR n32_38
@[simp] theorem n32_9_eq : evC (cx32 call) n32_9 s = some (.nrm, s) := xK
@[simp] theorem n32_10_eq : evC (cx32 call) n32_10 s = some (.exit 0, s) := xX 0
@[simp] theorem n32_8_eq : evC (cx32 call) n32_8 s = cnd (s.env.get 16) (evC (cx32 call) n32_9 s) (evC (cx32 call) n32_10 s) := xC 16 _ _
@[simp] theorem n32_7_eq : evC (cx32 call) n32_7 ⟨env, h⟩ = (bnd (pureV h (mBin .lss (env.get 6) (nat 128))) fun r1 => evC (cx32 call) n32_8 ⟨(Env.put env 16 r1.1), r1.2⟩) := (xSR 3 (cOps (cL n32_7)) (cR n32_7)).trans (by
  refine opsK_0 ?_
  refine oT 15 (env.get 6) ?_
  refine oP 16 fun r1 => ?_
  exact oE)
@[simp] theorem n32_22_eq : evC (cx32 call) n32_22 s = some (.nrm, s) := xK
@[simp] theorem n32_23_eq : evC (cx32 call) n32_23 s = some (.exit 2, s) := xX 2
@[simp] theorem n32_21_eq : evC (cx32 call) n32_21 s = cnd (s.env.get 22) (evC (cx32 call) n32_22 s) (evC (cx32 call) n32_23 s) := xC 22 _ _
@[simp] theorem n32_20_eq : evC (cx32 call) n32_20 ⟨env, h⟩ = (bnd (pureV h (mBin .lss (env.get 9) (nat 127))) fun r1 => evC (cx32 call) n32_21 ⟨(Env.put env 22 r1.1), r1.2⟩) := (xSR 8 (cOps (cL n32_20)) (cR n32_20)).trans (by
  refine opsK_0 ?_
  refine oT 21 (env.get 9) ?_
  refine oP 22 fun r1 => ?_
  exact oE)
@[simp] theorem n32_26_eq : evC (cx32 call) n32_26 ⟨env, h⟩ = (bnd (pureV h (mBin .add (env.get 9) (nat 1))) fun r2 => bnd (pureV r2.2 (mIdxA (.arr 128 (.int .i64)) (env.get 5) r2.1)) fun r3 => bnd (pureV r3.2 (mLoad (.int .i64) r3.1 r3.2)) fun r4 => bnd (pureV r4.2 (mIdxA (.arr 128 (.int .i64)) (env.get 8) (env.get 9))) fun r5 => bnd (stU (.int .i64) r5.1 r4.1 r5.2) fun r6 => some (.nrm, ⟨env, r6.2⟩)) := (xR 10 (cOps n32_26)).trans (by
  refine opsK_0 ?_
  refine oT 25 (env.get 9) ?_
  refine oT 26 (env.get 9) ?_
  refine oP 27 fun r2 => ?_
  refine oP 28 fun r3 => ?_
  refine oP 29 fun r4 => ?_
  refine oP 30 fun r5 => ?_
  refine oN fun r6 => ?_
  exact oE)
@[simp] theorem n32_25_eq : evC (cx32 call) n32_25 s = bnd (evC (cx32 call) n32_26 s) fun r => some (inBlk 3 r) := xB 3 _
@[simp] theorem n32_27_eq : evC (cx32 call) n32_27 ⟨env, h⟩ = (bnd (pureV h (mBin .add (env.get 9) (nat 1))) fun r1 => some (.nrm, ⟨(Env.put env 9 r1.1), r1.2⟩)) := (xR 9 (cOps n32_27)).trans (by
  refine opsK_0 ?_
  refine oT 23 (env.get 9) ?_
  refine oP 24 fun r1 => ?_
  refine oT 9 r1.1 ?_
  exact oE)
@[simp] theorem n32_24_eq : evC (cx32 call) n32_24 s = bnd (evC (cx32 call) n32_25 s) (sqK (evC (cx32 call) n32_27)) := xS _ _
@[simp] theorem n32_19_eq : evC (cx32 call) n32_19 s = bnd (evC (cx32 call) n32_20 s) (sqK (evC (cx32 call) n32_24)) := xS _ _
@[simp] theorem n32_18_eq : evC (cx32 call) n32_18 s = evLoop (evC (cx32 call) n32_19) s := xL _
@[simp] theorem n32_17_eq : evC (cx32 call) n32_17 s = bnd (evC (cx32 call) n32_18 s) fun r => some (inBlk 2 r) := xB 2 _
@[simp] theorem n32_16_eq : evC (cx32 call) n32_16 ⟨env, h⟩ = ( evC (cx32 call) n32_17 ⟨(Env.put env 9 (nat 0)), h⟩) := (xSR 7 (cOps (cL n32_16)) (cR n32_16)).trans (by
  refine opsK_0 ?_
  refine oT 9 (nat 0) ?_
  exact oE)
@[simp] theorem n32_34_eq : evC (cx32 call) n32_34 ⟨env, h⟩ = (bnd (pureV h (mIdxA (.arr 128 (.int .i64)) (env.get 8) (nat 120))) fun r0 => bnd (pureV r0.2 (mLoad (.int .i64) r0.1 r0.2)) fun r1 => bnd (pureV r1.2 (mBin .xor r1.1 (nat 1))) fun r2 => bnd (pureV r2.2 (mIdxA (.arr 128 (.int .i64)) (env.get 8) (nat 120))) fun r3 => bnd (stU (.int .i64) r3.1 r2.1 r3.2) fun r4 => some (.nrm, ⟨env, r4.2⟩)) := (xR 15 (cOps n32_34)).trans (by
  refine opsK_0 ?_
  refine oP 45 fun r0 => ?_
  refine oP 46 fun r1 => ?_
  refine oP 47 fun r2 => ?_
  refine oP 48 fun r3 => ?_
  refine oN fun r4 => ?_
  exact oE)
@[simp] theorem n32_33_eq : evC (cx32 call) n32_33 ⟨env, h⟩ = (bnd (pureV h (mIdxA (.arr 128 (.int .i64)) (env.get 8) (nat 125))) fun r0 => bnd (pureV r0.2 (mLoad (.int .i64) r0.1 r0.2)) fun r1 => bnd (pureV r1.2 (mBin .xor r1.1 (nat 1))) fun r2 => bnd (pureV r2.2 (mIdxA (.arr 128 (.int .i64)) (env.get 8) (nat 125))) fun r3 => bnd (stU (.int .i64) r3.1 r2.1 r3.2) fun r4 => evC (cx32 call) n32_34 ⟨env, r4.2⟩) := (xSR 14 (cOps (cL n32_33)) (cR n32_33)).trans (by
  refine opsK_0 ?_
  refine oP 41 fun r0 => ?_
  refine oP 42 fun r1 => ?_
  refine oP 43 fun r2 => ?_
  refine oP 44 fun r3 => ?_
  refine oN fun r4 => ?_
  exact oE)
@[simp] theorem n32_32_eq : evC (cx32 call) n32_32 ⟨env, h⟩ = (bnd (pureV h (mIdxA (.arr 128 (.int .i64)) (env.get 8) (nat 126))) fun r0 => bnd (pureV r0.2 (mLoad (.int .i64) r0.1 r0.2)) fun r1 => bnd (pureV r1.2 (mBin .xor r1.1 (nat 1))) fun r2 => bnd (pureV r2.2 (mIdxA (.arr 128 (.int .i64)) (env.get 8) (nat 126))) fun r3 => bnd (stU (.int .i64) r3.1 r2.1 r3.2) fun r4 => evC (cx32 call) n32_33 ⟨env, r4.2⟩) := (xSR 13 (cOps (cL n32_32)) (cR n32_32)).trans (by
  refine opsK_0 ?_
  refine oP 37 fun r0 => ?_
  refine oP 38 fun r1 => ?_
  refine oP 39 fun r2 => ?_
  refine oP 40 fun r3 => ?_
  refine oN fun r4 => ?_
  exact oE)
@[simp] theorem n32_31_eq : evC (cx32 call) n32_31 ⟨env, h⟩ = (bnd (pureV h (mIdxA (.arr 128 (.int .i64)) (env.get 8) (nat 127))) fun r0 => bnd (pureV r0.2 (mLoad (.int .i64) r0.1 r0.2)) fun r1 => bnd (pureV r1.2 (mBin .xor r1.1 (nat 1))) fun r2 => bnd (pureV r2.2 (mIdxA (.arr 128 (.int .i64)) (env.get 8) (nat 127))) fun r3 => bnd (stU (.int .i64) r3.1 r2.1 r3.2) fun r4 => evC (cx32 call) n32_32 ⟨env, r4.2⟩) := (xSR 12 (cOps (cL n32_31)) (cR n32_31)).trans (by
  refine opsK_0 ?_
  refine oP 33 fun r0 => ?_
  refine oP 34 fun r1 => ?_
  refine oP 35 fun r2 => ?_
  refine oP 36 fun r3 => ?_
  refine oN fun r4 => ?_
  exact oE)
@[simp] theorem n32_35_eq : evC (cx32 call) n32_35 s = some (.nrm, s) := xK
@[simp] theorem n32_30_eq : evC (cx32 call) n32_30 s = cnd (s.env.get 32) (evC (cx32 call) n32_31 s) (evC (cx32 call) n32_35 s) := xC 32 _ _
@[simp] theorem n32_29_eq : evC (cx32 call) n32_29 ⟨env, h⟩ = (bnd (pureV h (mBin .eql (env.get 7) (nat 1))) fun r1 => evC (cx32 call) n32_30 ⟨(Env.put env 32 r1.1), r1.2⟩) := (xSR 11 (cOps (cL n32_29)) (cR n32_29)).trans (by
  refine opsK_0 ?_
  refine oT 31 (env.get 7) ?_
  refine oP 32 fun r1 => ?_
  exact oE)
@[simp] theorem n32_36_eq : evC (cx32 call) n32_36 ⟨env, h⟩ = (bnd (pureV h (mLoad (.arr 128 (.int .i64)) (env.get 8) h)) fun r0 => bnd (stU (.arr 128 (.int .i64)) (env.get 5) r0.1 r0.2) fun r1 => some (.nrm, ⟨env, r1.2⟩)) := (xR 16 (cOps n32_36)).trans (by
  refine opsK_0 ?_
  refine oP 49 fun r0 => ?_
  refine oN fun r1 => ?_
  exact oE)
@[simp] theorem n32_28_eq : evC (cx32 call) n32_28 s = bnd (evC (cx32 call) n32_29 s) (sqK (evC (cx32 call) n32_36)) := xS _ _
@[simp] theorem n32_15_eq : evC (cx32 call) n32_15 s = bnd (evC (cx32 call) n32_16 s) (sqK (evC (cx32 call) n32_28)) := xS _ _
@[simp] theorem n32_14_eq : evC (cx32 call) n32_14 ⟨env, h⟩ = (bnd (mNew (.arr 128 (.int .i64)) (.ints .i64 (List.replicate 128 0)) h) fun r0 => evC (cx32 call) n32_15 ⟨(Env.put env 8 r0.1), r0.2⟩) := (xSR 6 (cOps (cL n32_14)) (cR n32_14)).trans (by
  refine opsK_0 ?_
  refine oP 8 fun r0 => ?_
  exact oE)
@[simp] theorem n32_13_eq : evC (cx32 call) n32_13 ⟨env, h⟩ = (bnd (pureV h (mIdxA (.arr 128 (.int .i64)) (env.get 5) (nat 0))) fun r0 => bnd (pureV r0.2 (mLoad (.int .i64) r0.1 r0.2)) fun r1 => evC (cx32 call) n32_14 ⟨(Env.put env 7 r1.1), r1.2⟩) := (xSR 5 (cOps (cL n32_13)) (cR n32_13)).trans (by
  refine opsK_0 ?_
  refine oP 19 fun r0 => ?_
  refine oP 20 fun r1 => ?_
  refine oT 7 r1.1 ?_
  exact oE)
@[simp] theorem n32_12_eq : evC (cx32 call) n32_12 s = bnd (evC (cx32 call) n32_13 s) fun r => some (inBlk 1 r) := xB 1 _
@[simp] theorem n32_37_eq : evC (cx32 call) n32_37 ⟨env, h⟩ = (bnd (pureV h (mBin .add (env.get 6) (nat 1))) fun r1 => some (.nrm, ⟨(Env.put env 6 r1.1), r1.2⟩)) := (xR 4 (cOps n32_37)).trans (by
  refine opsK_0 ?_
  refine oT 17 (env.get 6) ?_
  refine oP 18 fun r1 => ?_
  refine oT 6 r1.1 ?_
  exact oE)
@[simp] theorem n32_11_eq : evC (cx32 call) n32_11 s = bnd (evC (cx32 call) n32_12 s) (sqK (evC (cx32 call) n32_37)) := xS _ _
@[simp] theorem n32_6_eq : evC (cx32 call) n32_6 s = bnd (evC (cx32 call) n32_7 s) (sqK (evC (cx32 call) n32_11)) := xS _ _
@[simp] theorem n32_5_eq : evC (cx32 call) n32_5 s = evLoop (evC (cx32 call) n32_6) s := xL _
@[simp] theorem n32_4_eq : evC (cx32 call) n32_4 s = bnd (evC (cx32 call) n32_5 s) fun r => some (inBlk 0 r) := xB 0 _
@[simp] theorem n32_3_eq : evC (cx32 call) n32_3 ⟨env, h⟩ = ( evC (cx32 call) n32_4 ⟨(Env.put env 6 (nat 0)), h⟩) := (xSR 2 (cOps (cL n32_3)) (cR n32_3)).trans (by
  refine opsK_0 ?_
  refine oT 6 (nat 0) ?_
  exact oE)
@[simp] theorem n32_39_eq : evC (cx32 call) n32_39 s = some (.ret, s) := xE
@[simp] theorem n32_38_eq : evC (cx32 call) n32_38 ⟨env, h⟩ = (bnd (pureV h (mLoad (.arr 128 (.int .i64)) (env.get 5) h)) fun r0 => bnd (call 55 [r0.1] r0.2) fun r1 => bnd (stU (.arr 16 (.int .u8)) (env.get 4) r1.1 r1.2) fun r2 => evC (cx32 call) n32_39 ⟨env, r2.2⟩) := (xSR 17 (cOps (cL n32_38)) (cR n32_38)).trans (by
  refine opsK_0 ?_
  refine oP 50 fun r0 => ?_
  refine oP 51 fun r1 => ?_
  refine oN fun r2 => ?_
  exact oE)
@[simp] theorem n32_2_eq : evC (cx32 call) n32_2 s = bnd (evC (cx32 call) n32_3 s) (sqK (evC (cx32 call) n32_38)) := xS _ _
theorem n32_1_ok : drawOk (cOps (cL n32_1)).toList = true := by kernel_rfl
@[simp] theorem n32_1_eq : evC (cx32 call) n32_1 ⟨env, h⟩ = (bnd (pureV h (mLoad (.arr 16 (.int .u8)) (env.get 2) h)) fun r0 => bnd (still call 53 [r0.1] r0.2) fun r1 => bnd (pureV r1.2 (mLoad (.arr 16 (.int .u8)) (env.get 3) r1.2)) fun r2 => bnd (still call 53 [r2.1] r2.2) fun r3 => bnd (still call 54 [r1.1, r3.1] r3.2) fun r4 => bnd (mNew (.arr 128 (.int .i64)) (.ints .i64 (List.replicate 128 0)) r4.2) fun r5 => bnd (stU (.arr 128 (.int .i64)) r5.1 r4.1 r5.2) fun r6 => evC (cx32 call) n32_2 ⟨(Env.put env 5 r5.1), r6.2⟩) := (xSD 1 (cOps (cL n32_1)) (cR n32_1) n32_1_ok).trans (by
  refine opsK_0 ?_
  refine oP 10 fun r0 => ?_
  refine oP 11 fun r1 => ?_
  refine oP 12 fun r2 => ?_
  refine oP 13 fun r3 => ?_
  refine oP 14 fun r4 => ?_
  refine oP 5 fun r5 => ?_
  refine oN fun r6 => ?_
  exact oE)
@[simp] theorem n32_0_eq : evC (cx32 call) n32_0 ⟨env, h⟩ = (bnd (mNew (.arr 16 (.int .u8)) (env.get 0) h) fun r0 => bnd (mNew (.arr 16 (.int .u8)) (env.get 1) r0.2) fun r1 => bnd (mNew (.arr 16 (.int .u8)) (arr 16 fun _ => 0#8) r1.2) fun r2 => evC (cx32 call) n32_1 ⟨(Env.put (Env.put (Env.put env 2 r0.1) 3 r1.1) 4 r2.1), r2.2⟩) := (xSR 0 (cOps (cL n32_0)) (cR n32_0)).trans (by
  refine opsK_0 ?_
  refine oP 2 fun r0 => ?_
  refine oP 3 fun r1 => ?_
  refine oP 4 fun r2 => ?_
  exact oE)
theorem b32 (call : Calling) (a0 a1 : AV) (h : Heap) : evBody (cx32 call) Try.f32 n32_0 [a0, a1] h = bnd (evC (cx32 call) n32_0 ⟨[(0, a0), (1, a1), (2, .junk), (3, .junk), (4, .junk), (5, .junk), (6, .junk), (7, .junk), (8, .junk), (9, .junk), (16, .junk), (22, .junk), (32, .junk)], h⟩) (retK fun s => bnd (bnd (mLoad (.arr 16 (.int .u8)) (s.env.get 4) s.heap) fun v => bnd (some []) fun vs => some (v :: vs)) fun vs => some (oneOrTuple vs)) := by kernel_rfl
theorem fn32 : Try.prog.funcs[32]? = some Try.f32 := by kernel_rfl
theorem k32 : Callable Try.prog 32 := ⟨Try.f32, fn32, by kernel_rfl, by kernel_rfl⟩
theorem s32 {call : Calling} (hc : CallOK Try.prog call) {args : List AV} {h h' : Heap} {v : AV} (he : evBody (cx32 call) Try.f32 n32_0 args h = some (v, h')) : Spec Try.prog 32 args h v h' := body_sound (C := cx32 call) TT_ok hc mixed_ok fn32 (by kernel_rfl) (by kernel_rfl) he
def sn32 := Y n32_9_eq (Y n32_10_eq (Y n32_8_eq (Y n32_7_eq (Y n32_22_eq (Y n32_23_eq (Y n32_21_eq (Y n32_20_eq (Y n32_26_eq (Y n32_25_eq (Y n32_27_eq (Y n32_24_eq (Y n32_19_eq (Y n32_18_eq (Y n32_17_eq (Y n32_16_eq (Y n32_34_eq (Y n32_33_eq (Y n32_32_eq (Y n32_31_eq (Y n32_35_eq (Y n32_30_eq (Y n32_29_eq (Y n32_36_eq (Y n32_28_eq (Y n32_15_eq (Y n32_14_eq (Y n32_13_eq (Y n32_12_eq (Y n32_37_eq (Y n32_11_eq (Y n32_6_eq (Y n32_5_eq (Y n32_4_eq (Y n32_3_eq (Y n32_39_eq (Y n32_38_eq (Y n32_2_eq (Y n32_1_eq (n32_0_eq)))))))))))))))))))))))))))))))))))))))
end
end Go.Vab

/-
  The document's polynomials, walked.
-/
namespace Go.Vab
open Go Go.Proofs

def ib (n : Nat) (f : Nat → Bool) : AV := .ints .i64 ((List.range n).map fun i => ((f i).toNat : Int))
theorem ib_0 (n : Nat) : AV.ints .i64 (List.replicate n 0) = ib n fun _ => false := by
  unfold ib
  congr 1
  apply List.ext_getElem?
  intro i
  rw [range_map_getD, List.getElem?_replicate]
  split <;> rfl
theorem ib_128 : AV.ints .i64 (List.replicate 128 0) = ib 128 fun _ => false := ib_0 128
theorem ib_255 : AV.ints .i64 (List.replicate 255 0) = ib 255 fun _ => false := ib_0 255
@[simp] theorem ib_get (n : Nat) (f : Nat → Bool) (i : Nat) : (ib n f).get [i] = if i < n then some (nat (f i).toNat) else none := by
  simp only [ib, AV.get]
  rw [range_map_getD]
  by_cases h : i < n
  · simp only [if_pos h]; rfl
  · simp only [if_neg h]
@[simp] theorem ib_put (n : Nat) (f : Nat → Bool) (i : Nat) (b : Bool) : (ib n f).put [i] (nat b.toNat) = if i < n then some (ib n (upd f i b)) else none := by
  simp only [ib, AV.put, nat, true_and, List.length_map, List.length_range]
  split
  · congr 2
    rw [range_map_set]
    refine List.map_congr_left fun j _ => ?_
    by_cases h : j = i
    · subst h; simp
    · rw [upd_ne _ _ h, upd_ne _ _ h]
  · rfl
@[simp] theorem ib_put0 (n : Nat) (f : Nat → Bool) (i : Nat) : (ib n f).put [i] (nat 0) = if i < n then some (ib n (upd f i false)) else none := ib_put n f i false
@[simp] theorem hasTy_ib (n k : Nat) (f : Nat → Bool) : hasTy (ib n f) (.arr k (.int .i64)) = decide (n = k) := by simp [ib, hasTy]
@[simp] theorem mNew_ib (n : Nat) (f : Nat → Bool) (h : Heap) : mNew (.arr n (.int .i64)) (ib n f) h = some (.ptr h.length 0 [] (.arr n (.int .i64)), h ++ [⟨ib n f, 0, .own⟩]) := mNew_ok _ _ _ (by simp)
@[simp] theorem stU_ib (n : Nat) (f : Nat → Bool) (i ver : Nat) (path : List Nat) (h : Heap) : stU (.arr n (.int .i64)) (.ptr i ver path (.arr n (.int .i64))) (ib n f) h = stR i ver path (ib n f) h := stU_ptr _ _ _ _ _ _ (by simp)
@[simp ↓] theorem mNew_128 (h : Heap) : mNew (.arr 128 (.int .i64)) (.ints .i64 (List.replicate 128 0)) h = some (.ptr h.length 0 [] (.arr 128 (.int .i64)), h ++ [⟨ib 128 fun _ => false, 0, .own⟩]) := by rw [ib_128]; exact mNew_ib _ _ _
@[simp ↓] theorem mNew_255 (h : Heap) : mNew (.arr 255 (.int .i64)) (.ints .i64 (List.replicate 255 0)) h = some (.ptr h.length 0 [] (.arr 255 (.int .i64)), h ++ [⟨ib 255 fun _ => false, 0, .own⟩]) := by rw [ib_255]; exact mNew_ib _ _ _
theorem ib_congr {n : Nat} {f g : Nat → Bool} (h : ∀ i, i < n → f i = g i) : ib n f = ib n g := by
  unfold ib
  congr 1
  exact List.map_congr_left fun i hi => by rw [h i (List.mem_range.1 hi)]
theorem ib_inj {n : Nat} {f g : Nat → Bool} (h : ib n f = ib n g) : ∀ i, i < n → f i = g i := by
  intro i hi
  have := congrArg (fun v => v.get [i]) h
  simp only [ib_get, if_pos hi, Option.some.injEq, nat_inj] at this
  revert this
  cases f i <;> cases g i <;> simp
@[simp] theorem bxor (a b : Bool) : mBin .xor (nat a.toNat) (nat b.toNat) = some (nat (a ^^ b).toNat) := by cases a <;> cases b <;> rfl
@[simp] theorem bxor1 (a : Bool) : mBin .xor (nat a.toNat) (nat 1) = some (nat (!a).toNat) := by cases a <;> rfl

def gb {w : Nat} (x : BitVec w) (i : Nat) : Bool := x.getLsbD i
def bX (x : BitVec 128) : AV := ib 128 (gb x)
theorem bX_inj {x y : BitVec 128} (h : bX x = bX y) : x = y := BitVec.eq_of_getLsbD_eq fun i hi => ib_inj h i hi
theorem bX_under (x : BitVec 128) (n : Nat) : (bX x).under n = true := rfl

theorem bit8 (b : BitVec 8) (k : Nat) : b.toNat >>> k % 2 = (gb b k).toNat := by
  rw [gb, BitVec.getLsbD, Nat.testBit_eq_decide_div_mod_eq, Nat.shiftRight_eq_div_pow]
  have := Nat.mod_two_eq_zero_or_one (b.toNat / 2 ^ k)
  rcases this with h | h <;> simp [h]

theorem walk53 (call : Calling) (h : Heap) (g : Nat → BitVec 8) : ∃ t, evBody (cx53 call) Try.f53 n53_0 [arr 16 g] h = some (bX (val16 g), h ++ t) := by
  rw [b53]
  have main : Evs (evC (cx53 call) n53_0 ⟨[(0, arr 16 g), (1, .junk), (2, .junk), (3, .junk), (4, .junk), (6, .junk)], h⟩) (fun r => ∃ env t, r = (.ret, ⟨env, h ++ t⟩) ∧ mLoad (.arr 128 (.int .i64)) (env.get 2) (h ++ t) = some (bX (val16 g))) := by
    obtain ⟨env, he⟩ : ∃ env : Env, env = [(0, arr 16 g), (1, .junk), (2, .junk), (3, .junk), (4, .junk), (6, .junk)] := ⟨_, rfl⟩
    rw [← he]
    have g0 : env.get 0 = arr 16 g := by rw [he]; rfl
    clear he
    repeat (first | (with_reducible refine Evs.assoc ?_) | ((with_reducible refine Evs.some_bnd ?_); try dsimp only [sqK_nrm, sqK_exit, sqK_ret]) | ((with_reducible apply Evs.bcndT); (focus (simp (disch := omega) [g0] <;> omega))) | ((with_reducible apply Evs.bcndF); (focus (simp (disch := omega) [g0] <;> omega))) | ((with_reducible apply Evs.step); (focus ((conv => lhs; simp (disch := omega) [g0]); done)); try dsimp only) | (simp only [sn53, snB]))
    refine Evs.bnd (Q := fun r => ∃ env', r = (.exit 0, ⟨env', h ++ [⟨arr 16 g, 0, .own⟩, ⟨ib 128 fun _ => false, 0, .own⟩, ⟨bX (val16 g), 0, .own⟩]⟩) ∧ env'.get 2 = .ptr (h.length + 1) 0 [] (.arr 128 (.int .i64)) ∧ env'.get 3 = .ptr (h.length + 2) 0 [] (.arr 128 (.int .i64))) ?_ ?_
    · refine Evs.up 128 (fun i s => ∃ env' f, s = ⟨env', h ++ [⟨arr 16 g, 0, .own⟩, ⟨ib 128 fun _ => false, 0, .own⟩, ⟨ib 128 f, 0, .own⟩]⟩ ∧ env'.get 1 = .ptr h.length 0 [] (.arr 16 (.int .u8)) ∧ env'.get 2 = .ptr (h.length + 1) 0 [] (.arr 128 (.int .i64)) ∧ env'.get 3 = .ptr (h.length + 2) 0 [] (.arr 128 (.int .i64)) ∧ env'.get 4 = nat i ∧
        ∀ k, k < i → f k = gb (val16 g) k) ?_ ?_
        ⟨_, _, rfl, by simp, by simp, by simp, by simp, fun k hk => absurd hk (by omega)⟩
      · rintro i s hi ⟨env', f, rfl, e1, e2, e3, e4, hf⟩
        have e5 : i / 8 < 16 := by omega
        repeat (first | (with_reducible refine Evs.assoc ?_) | ((with_reducible refine Evs.some_bnd ?_); try dsimp only [sqK_nrm, sqK_exit, sqK_ret]) | ((with_reducible apply Evs.bcndT); (focus (simp (disch := omega) [e1, e2, e3, e4, bit8] <;> omega))) | ((with_reducible apply Evs.bcndF); (focus (simp (disch := omega) [e1, e2, e3, e4, bit8] <;> omega))) | ((with_reducible apply Evs.step); (focus ((conv => lhs; simp (disch := omega) [e1, e2, e3, e4, bit8]); done)); try dsimp only) | (simp only [sn53, snB]))
        refine Evs.ret ⟨rfl, _, _, rfl, by simp [e1], by simp [e2], by simp [e3], by simp, fun k hk => ?_⟩
        by_cases hki : k = i
        · subst hki; rw [upd_same]; exact (val16_bit _ _ hi).symm
        · rw [upd_ne _ _ hki]; exact hf k (by omega)
      · rintro s ⟨env', f, rfl, e1, e2, e3, e4, hf⟩
        repeat (first | (with_reducible refine Evs.assoc ?_) | ((with_reducible refine Evs.some_bnd ?_); try dsimp only [sqK_nrm, sqK_exit, sqK_ret]) | ((with_reducible apply Evs.bcndT); (focus (simp (disch := omega) [e4] <;> omega))) | ((with_reducible apply Evs.bcndF); (focus (simp (disch := omega) [e4] <;> omega))) | ((with_reducible apply Evs.step); (focus ((conv => lhs; simp (disch := omega) [e4]); done)); try dsimp only) | (simp only [sn53, snB]))
        rw [ib_congr hf]
        exact Evs.ret ⟨by simp, _, rfl, by simp [e2], by simp [e3]⟩
    · rintro r ⟨env', rfl, e2, e3⟩
      unfold bX
      repeat (first | (with_reducible refine Evs.assoc ?_) | ((with_reducible refine Evs.some_bnd ?_); try dsimp only [sqK_nrm, sqK_exit, sqK_ret]) | ((with_reducible apply Evs.bcndT); (focus (simp (disch := omega) [e2, e3] <;> omega))) | ((with_reducible apply Evs.bcndF); (focus (simp (disch := omega) [e2, e3] <;> omega))) | ((with_reducible apply Evs.step); (focus ((conv => lhs; simp (disch := omega) [e2, e3]); done)); try dsimp only) | (simp only [sn53, snB]))
      refine Evs.ret ⟨_, _, rfl, ?_⟩
      simp [e2]
  obtain ⟨r, hr, env, t, rfl, e0⟩ := main
  refine ⟨t, ?_⟩
  rw [hr]
  simp [e0, oneOrTuple]

noncomputable def c53 := conC (fun x : (Nat → BitVec 8) => [arr 16 x]) (fun (x : (Nat → BitVec 8)) h => True) (fun (x : (Nat → BitVec 8)) h => (bX (val16 x), h))
noncomputable def callS7 : Calling := addC callS6 53 c53
theorem c53_eq (g : Nat → BitVec 8) (h : Heap) : c53 [arr 16 g] h = some (bX (val16 g), h) :=
  conC_eq (enc := fun x : (Nat → BitVec 8) => [arr 16 x]) (P := fun (x : (Nat → BitVec 8)) h => True) (a := g) (f := fun (x : (Nat → BitVec 8)) h => (bX (val16 x), h)) (fun x y h e => by
    have e1 := arr_inj.1 (List.cons.inj e).1
    simp only [Prod.mk.injEq, and_true]
    rw [val16_congr e1]
    ) trivial
theorem callS7_ok : CallOK Try.prog callS7 := addC_con callS6_ok k53 fun x h hx => by
  obtain ⟨t, ht⟩ := walk53 callS6 h x
  exact (s53 callS6_ok ht).drop0 t rfl
@[simp] theorem callS7_ne {f : Nat} (args : List AV) (h : Heap) (hf : f ≠ 53) : callS7 f args h = callS6 f args h := addC_ne _ _ _ args h hf
@[simp] theorem callS7_sne {f : Nat} (args : List AV) (h : Heap) (hf : f ≠ 53) : still callS7 f args h = still callS6 f args h := still_ne _ _ _ args h hf
@[simp] theorem callS7_53 (g : Nat → BitVec 8) (h : Heap) : callS7 53 [arr 16 g] h = some (bX (val16 g), h) := by
  unfold callS7; rw [addC_same]; exact c53_eq g h
@[simp] theorem callS7_53s (g : Nat → BitVec 8) (h : Heap) : still callS7 53 [arr 16 g] h = some (bX (val16 g), h) := still_of fun t => by simp

/-! the bytes of a polynomial -/
def byF (x : BitVec 128) (m : Nat) (j : Nat) : BitVec 8 := (bytesX x j) >>> (min (128 - m - 8 * j) 8)
theorem byF_0 (x : BitVec 128) {j : Nat} (hj : j < 16) : byF x 0 j = 0#8 := by
  unfold byF
  rw [Nat.min_eq_right (by omega)]
  apply BitVec.eq_of_getLsbD_eq
  intro k hk
  rw [BitVec.getLsbD_ushiftRight, BitVec.getLsbD_of_ge _ _ (by omega)]; simp
theorem byF_128 (x : BitVec 128) (j : Nat) : byF x 128 j = bytesX x j := by
  unfold byF
  simp
theorem byF_other (x : BitVec 128) {m j : Nat} (hm : m < 128) (hj : j ≠ (127 - m) / 8) : byF x (m + 1) j = byF x m j := by
  unfold byF
  congr 1
  omega
theorem byF_step (x : BitVec 128) {m : Nat} (hm : m < 128) : 2#8 * byF x m ((127 - m) / 8) + BitVec.ofNat 8 (gb x (127 - m)).toNat = byF x (m + 1) ((127 - m) / 8) := by
  have e1 : min (128 - (m + 1) - 8 * ((127 - m) / 8)) 8 = (127 - m) % 8 := by omega
  have e2 : min (128 - m - 8 * ((127 - m) / 8)) 8 = (127 - m) % 8 + 1 := by omega
  have e3 : gb x (127 - m) = (bytesX x ((127 - m) / 8)).getLsbD ((127 - m) % 8) := by
    rw [bytesX_bit _ _ _ (Nat.mod_lt _ (by decide)), gb]; congr 1; omega
  unfold byF
  rw [e1, e2, e3]
  generalize bytesX x ((127 - m) / 8) = y
  have h8 : (127 - m) % 8 < 8 := Nat.mod_lt _ (by decide)
  revert h8
  generalize (127 - m) % 8 = k
  intro h8
  have key : (List.range 8).all (fun k => all256 fun y => bq (2#8 * y >>> (k + 1) + BitVec.ofNat 8 (y.getLsbD k).toNat) (y >>> k)) = true := by kernel_rfl
  simp only [List.all_eq_true, List.mem_range] at key
  exact bq_eq (all256_spec (key k h8) y)

theorem walk55 (call : Calling) (h : Heap) (x : BitVec 128) : ∃ t, evBody (cx55 call) Try.f55 n55_0 [bX x] h = some (arr 16 (bytesX x), h ++ t) := by
  rw [b55]
  have main : Evs (evC (cx55 call) n55_0 ⟨[(0, bX x), (1, .junk), (2, .junk), (3, .junk), (4, .junk), (6, .junk)], h⟩) (fun r => ∃ env t, r = (.ret, ⟨env, h ++ t⟩) ∧ mLoad (.arr 16 (.int .u8)) (env.get 2) (h ++ t) = some (arr 16 (bytesX x))) := by
    obtain ⟨env, he⟩ : ∃ env : Env, env = [(0, bX x), (1, .junk), (2, .junk), (3, .junk), (4, .junk), (6, .junk)] := ⟨_, rfl⟩
    rw [← he]
    have g0 : env.get 0 = bX x := by rw [he]; rfl
    clear he
    have hbx : bX x = ib 128 (gb x) := rfl
    repeat (first | (with_reducible refine Evs.assoc ?_) | ((with_reducible refine Evs.some_bnd ?_); try dsimp only [sqK_nrm, sqK_exit, sqK_ret]) | ((with_reducible apply Evs.bcndT); (focus (simp (disch := omega) [g0, hbx] <;> omega))) | ((with_reducible apply Evs.bcndF); (focus (simp (disch := omega) [g0, hbx] <;> omega))) | ((with_reducible apply Evs.step); (focus ((conv => lhs; simp (disch := omega) [g0, hbx]); done)); try dsimp only) | (simp only [sn55, snB]))
    refine Evs.bnd (Q := fun r => ∃ env', r = (.exit 0, ⟨env', h ++ [⟨ib 128 (gb x), 0, .own⟩, ⟨arr 16 fun _ => 0#8, 0, .own⟩, ⟨arr 16 (bytesX x), 0, .own⟩]⟩) ∧ env'.get 2 = .ptr (h.length + 1) 0 [] (.arr 16 (.int .u8)) ∧ env'.get 3 = .ptr (h.length + 2) 0 [] (.arr 16 (.int .u8))) ?_ ?_
    · refine Evs.loop (fun n s => ∃ env' m f, s = ⟨env', h ++ [⟨ib 128 (gb x), 0, .own⟩, ⟨arr 16 fun _ => 0#8, 0, .own⟩, ⟨arr 16 f, 0, .own⟩]⟩ ∧ n + m = 128 ∧ env'.get 1 = .ptr h.length 0 [] (.arr 128 (.int .i64)) ∧ env'.get 2 = .ptr (h.length + 1) 0 [] (.arr 16 (.int .u8)) ∧ env'.get 3 = .ptr (h.length + 2) 0 [] (.arr 16 (.int .u8)) ∧ env'.get 4 = .int .i64 (127 - (m : Int)) ∧ ∀ j, j < 16 → f j = byF x m j) ?_ (n := 128)
        ⟨_, 0, _, rfl, rfl, by simp, by simp, by simp, by simp [nat], fun j hj => (byF_0 x hj).symm⟩
      rintro n s ⟨env', m, f, rfl, hm, e1, e2, e3, e4, hf⟩
      by_cases hm8 : m = 128
      · subst hm8
        have e4' : env'.get 4 = .int .i64 (-1) := by rw [e4]; rfl
        have c0 : mBin .geq (.int .i64 (-1)) (nat 0) = some (.bool false) := by simp [mBin, mBinI, nat]
        repeat (first | (with_reducible refine Evs.assoc ?_) | ((with_reducible refine Evs.some_bnd ?_); try dsimp only [sqK_nrm, sqK_exit, sqK_ret]) | ((with_reducible apply Evs.bcndT); (focus (simp (disch := omega) [e1, e2, e3, e4', c0] <;> omega))) | ((with_reducible apply Evs.bcndF); (focus (simp (disch := omega) [e1, e2, e3, e4', c0] <;> omega))) | ((with_reducible apply Evs.step); (focus ((conv => lhs; simp (disch := omega) [e1, e2, e3, e4', c0]); done)); try dsimp only) | (simp only [sn55, snB]))
        have : arr 16 f = arr 16 (bytesX x) := arr_congr fun j hj => by rw [hf j hj, byF_128]
        rw [this]
        exact Evs.ret (.inr ⟨by simp, _, rfl, by simp [e2], by simp [e3]⟩)
      · have e4' : env'.get 4 = nat (127 - m) := by rw [e4]; unfold nat; congr 1; omega
        have c1 : mBin .sub (nat (127 - m)) (nat 1) = some (.int .i64 (126 - (m : Int))) := by
          simp only [mBin, mBinI, nat, if_true]
          rw [wrapi (by omega)]
          congr 2
          omega
        have hj : (127 - m) / 8 < 16 := by omega
        repeat (first | (with_reducible refine Evs.assoc ?_) | ((with_reducible refine Evs.some_bnd ?_); try dsimp only [sqK_nrm, sqK_exit, sqK_ret]) | ((with_reducible apply Evs.bcndT); (focus (simp (disch := omega) [e1, e2, e3, e4', c1] <;> omega))) | ((with_reducible apply Evs.bcndF); (focus (simp (disch := omega) [e1, e2, e3, e4', c1] <;> omega))) | ((with_reducible apply Evs.step); (focus ((conv => lhs; simp (disch := omega) [e1, e2, e3, e4', c1]); done)); try dsimp only) | (simp only [sn55, snB]))
        refine Evs.ret (.inl ⟨rfl, n - 1, by omega, _, m + 1, _, rfl, by omega, by simp [e1], by simp [e2], by simp [e3], by simp; omega, fun j hj' => ?_⟩)
        by_cases e : j = (127 - m) / 8
        · subst e
          rw [upd_same, hf _ hj, byF_step x (by omega)]
        · rw [upd_ne _ _ e, byF_other x (by omega) e]; exact hf j hj'
    · rintro r ⟨env', rfl, e2, e3⟩
      repeat (first | (with_reducible refine Evs.assoc ?_) | ((with_reducible refine Evs.some_bnd ?_); try dsimp only [sqK_nrm, sqK_exit, sqK_ret]) | ((with_reducible apply Evs.bcndT); (focus (simp (disch := omega) [e2, e3] <;> omega))) | ((with_reducible apply Evs.bcndF); (focus (simp (disch := omega) [e2, e3] <;> omega))) | ((with_reducible apply Evs.step); (focus ((conv => lhs; simp (disch := omega) [e2, e3]); done)); try dsimp only) | (simp only [sn55, snB]))
      refine Evs.ret ⟨_, _, rfl, ?_⟩
      simp [e2]
  obtain ⟨r, hr, env, t, rfl, e0⟩ := main
  refine ⟨t, ?_⟩
  rw [hr]
  simp [e0, oneOrTuple]

noncomputable def c55 := conC (fun x : (BitVec 128) => [bX x]) (fun (x : (BitVec 128)) h => True) (fun (x : (BitVec 128)) h => (arr 16 (bytesX x), h))
noncomputable def callS8 : Calling := addC callS7 55 c55
theorem c55_eq (a : BitVec 128) (h : Heap) : c55 [bX a] h = some (arr 16 (bytesX a), h) :=
  conC_eq (enc := fun x : (BitVec 128) => [bX x]) (P := fun (x : (BitVec 128)) h => True) (a := a) (f := fun (x : (BitVec 128)) h => (arr 16 (bytesX x), h)) (fun x y h e => by
    have e1 := bX_inj (List.cons.inj e).1
    rw [e1]
    ) trivial
theorem callS8_ok : CallOK Try.prog callS8 := addC_con callS7_ok k55 fun x h hx => by
  obtain ⟨t, ht⟩ := walk55 callS7 h x
  exact (s55 callS7_ok ht).drop0 t rfl
@[simp] theorem callS8_ne {f : Nat} (args : List AV) (h : Heap) (hf : f ≠ 55) : callS8 f args h = callS7 f args h := addC_ne _ _ _ args h hf
@[simp] theorem callS8_sne {f : Nat} (args : List AV) (h : Heap) (hf : f ≠ 55) : still callS8 f args h = still callS7 f args h := still_ne _ _ _ args h hf
@[simp] theorem callS8_55 (a : BitVec 128) (h : Heap) : callS8 55 [bX a] h = some (arr 16 (bytesX a), h) := by
  unfold callS8; rw [addC_same]; exact c55_eq a h
@[simp] theorem callS8_55s (a : BitVec 128) (h : Heap) : still callS8 55 [bX a] h = some (arr 16 (bytesX a), h) := still_of fun t => by simp

end Go.Vab

/-
  The document's product of polynomials, and dot.
-/
namespace Go.Vab
open Go Go.Proofs

theorem gM_bit (j : Nat) : gM.testBit j = (decide (j = 128) || decide (j = 127) || decide (j = 126) || decide (j = 121) || decide (j = 0)) := by
  by_cases h : j < 129
  · have key : (List.range 129).all (fun j => gM.testBit j == (decide (j = 128) || decide (j = 127) || decide (j = 126) || decide (j = 121) || decide (j = 0))) = true := by kernel_rfl
    simp only [List.all_eq_true, List.mem_range, beq_iff_eq] at key
    exact key j h
  · rw [Nat.testBit_lt_two_pow (Nat.lt_of_lt_of_le gM_lt (Nat.pow_le_pow_right (by decide) (by omega)))]
    simp [show ¬ j = 128 by omega, show ¬ j = 127 by omega, show ¬ j = 126 by omega, show ¬ j = 121 by omega, show ¬ j = 0 by omega]
def red (f : Nat → Bool) (i : Nat) : Nat → Bool :=
  upd (upd (upd (upd (upd f i false) (i - 1) (!f (i - 1))) (i - 2) (!f (i - 2))) (i - 7) (!f (i - 7))) (i - 128) (!f (i - 128))
theorem red_eq {f : Nat → Bool} {p s : Nat} (hs : s < 127) (hf : ∀ k, k < 255 → f k = p.testBit k) (hb : p.testBit (s + 128) = true) : ∀ k, k < 255 → red f (s + 128) k = (p ^^^ (gM <<< s)).testBit k := by
  intro k hk
  rw [Nat.testBit_xor, Nat.testBit_shiftLeft, gM_bit]
  unfold red
  rw [show s + 128 - 1 = s + 127 by omega, show s + 128 - 2 = s + 126 by omega, show s + 128 - 7 = s + 121 by omega, show s + 128 - 128 = s by omega]
  by_cases h0 : k = s
  · subst h0
    rw [upd_same, hf _ (by omega)]
    simp
  · rw [upd_ne _ _ h0]
    by_cases h1 : k = s + 121
    · subst h1
      rw [upd_same, hf _ (by omega), Nat.add_sub_cancel_left]
      simp
    · rw [upd_ne _ _ h1]
      by_cases h2 : k = s + 126
      · subst h2
        rw [upd_same, hf _ (by omega), Nat.add_sub_cancel_left]
        simp
      · rw [upd_ne _ _ h2]
        by_cases h3 : k = s + 127
        · subst h3
          rw [upd_same, hf _ (by omega), Nat.add_sub_cancel_left]
          simp
        · rw [upd_ne _ _ h3]
          by_cases h4 : k = s + 128
          · subst h4
            rw [upd_same, hb, Nat.add_sub_cancel_left]
            simp
          · rw [upd_ne _ _ h4, hf k hk]
            by_cases hle : s ≤ k
            · have q1 : ¬ k - s = 128 := by omega
              have q2 : ¬ k - s = 127 := by omega
              have q3 : ¬ k - s = 126 := by omega
              have q4 : ¬ k - s = 121 := by omega
              have q5 : ¬ k - s = 0 := by omega
              simp only [decide_eq_false q1, decide_eq_false q2, decide_eq_false q3, decide_eq_false q4, decide_eq_false q5, Bool.or_self, Bool.and_false, Bool.bne_false]
            · have : decide (k ≥ s) = false := decide_eq_false hle
              rw [this]
              simp

def timesX (x y : BitVec 128) : BitVec 128 := BitVec.ofNat 128 (timesF x.toNat y.toNat)
theorem timesX_toNat (x y : BitVec 128) : (timesX x y).toNat = timesF x.toNat y.toNat := by
  unfold timesX
  rw [BitVec.toNat_ofNat, timesF_eq _ y.isLt, Nat.mod_eq_of_lt (gmul_lt _ y.isLt)]
theorem timesX_bit (x y : BitVec 128) (k : Nat) : gb (timesX x y) k = (timesF x.toNat y.toNat).testBit k := by
  rw [gb, ← toNat_bit, timesX_toNat]

def H54 (h : Heap) (x y : BitVec 128) (f : Nat → Bool) : Heap := h ++ [⟨ib 128 (gb x), 0, .own⟩, ⟨ib 128 (gb y), 0, .own⟩, ⟨ib 128 fun _ => false, 0, .own⟩, ⟨ib 255 f, 0, .own⟩]
def B54 (L : Nat) (env : Env) : Prop := env.get 2 = .ptr L 0 [] (.arr 128 (.int .i64)) ∧ env.get 3 = .ptr (L + 1) 0 [] (.arr 128 (.int .i64)) ∧ env.get 4 = .ptr (L + 2) 0 [] (.arr 128 (.int .i64)) ∧ env.get 5 = .ptr (L + 3) 0 [] (.arr 255 (.int .i64))
theorem B54.same {L : Nat} {env env' : Env} (h : B54 L env) (hs : Same [2, 3, 4, 5] env env') : B54 L env' :=
  ⟨by rw [hs.get 2 rfl]; exact h.1, by rw [hs.get 3 rfl]; exact h.2.1, by rw [hs.get 4 rfl]; exact h.2.2.1, by rw [hs.get 5 rfl]; exact h.2.2.2⟩

theorem cl_lt (x : Nat) {y : Nat} (hy : y < 2 ^ 128) : ∀ i, i ≤ 128 → cl x y i < 2 ^ 255
  | 0, _ => Nat.two_pow_pos _
  | i + 1, h => by
    simp only [cl]
    have h1 : y <<< i < 2 ^ 255 := by
      rw [Nat.shiftLeft_eq]
      calc y * 2 ^ i < 2 ^ 128 * 2 ^ i := Nat.mul_lt_mul_of_pos_right hy (Nat.two_pow_pos i)
        _ = 2 ^ (128 + i) := (Nat.pow_add ..).symm
        _ ≤ 2 ^ 255 := Nat.pow_le_pow_right (by decide) (by omega)
    split
    · exact Nat.xor_lt_two_pow (cl_lt x hy i (by omega)) h1
    · exact cl_lt x hy i (by omega)

/-- The sums. -/
theorem sums54 (h : Heap) (x y : BitVec 128) (env : Env) (hb : B54 h.length env) (e6 : env.get 6 = nat 0) :
    Evs (evLoop (evC (cx54 callS8) n54_6) ⟨env, H54 h x y fun _ => false⟩) (fun r => ∃ env' f, r = (.exit 0, ⟨env', H54 h x y f⟩) ∧ Same [2, 3, 4, 5] env env' ∧ ∀ k, k < 255 → f k = (cl x.toNat y.toNat 128).testBit k) := by
  refine Evs.up 128 (fun i s => ∃ env' f, s = ⟨env', H54 h x y f⟩ ∧ env'.get 6 = nat i ∧ Same [2, 3, 4, 5] env env' ∧ ∀ k, k < 255 → f k = (cl x.toNat y.toNat i).testBit k) ?_ ?_
    ⟨_, _, rfl, e6, Same.refl _ _, fun k _ => by simp [cl]⟩
  · rintro i s hi ⟨env', f, rfl, f6, hs, hf⟩
    obtain ⟨b2, b3, b4, b5⟩ := hb.same hs
    unfold H54
    by_cases hx : gb x i = true
    · have hx' : x.toNat.testBit i = true := hx
      repeat (first | (with_reducible refine Evs.assoc ?_) | ((with_reducible refine Evs.some_bnd ?_); try dsimp only [sqK_nrm, sqK_exit, sqK_ret]) | ((with_reducible apply Evs.bcndT); (focus (simp (disch := omega) [b2, b3, b4, b5, f6, hx] <;> omega))) | ((with_reducible apply Evs.bcndF); (focus (simp (disch := omega) [b2, b3, b4, b5, f6, hx] <;> omega))) | ((with_reducible apply Evs.step); (focus ((conv => lhs; simp (disch := omega) [b2, b3, b4, b5, f6, hx]); done)); try dsimp only) | (simp only [sn54, snB]))
      refine Evs.bnd (Q := fun r => ∃ env2 f2, r = (.exit 2, ⟨env2, H54 h x y f2⟩) ∧ Same [2, 3, 4, 5, 6] env' env2 ∧ ∀ k, k < 255 → f2 k = (cl x.toNat y.toNat (i + 1)).testBit k) ?_ ?_
      · refine Evs.up 128 (fun q s => ∃ env2 f2, s = ⟨env2, H54 h x y f2⟩ ∧ env2.get 7 = nat q ∧ Same [2, 3, 4, 5, 6] env' env2 ∧ ∀ k, k < 255 → f2 k = ((cl x.toNat y.toNat i).testBit k ^^ (decide (i ≤ k) && decide (k < i + q) && gb y (k - i)))) ?_ ?_
          ⟨_, f, rfl, by simp, by repeat (first | exact Same.refl _ _ | refine Same.put rfl ?_), fun k hk => by
            rw [hf k hk]
            by_cases h1 : i ≤ k
            · have h2 : ¬ k < i := by omega
              simp [h2]
            · simp [h1]⟩
        · rintro q s hq ⟨env2, f2, rfl, f7, hs2, hf2⟩
          obtain ⟨c2, c3, c4, c5⟩ := (hb.same hs).same (hs2.sub rfl)
          have g6 := (hs2.get 6 rfl).trans f6
          unfold H54
          repeat (first | (with_reducible refine Evs.assoc ?_) | ((with_reducible refine Evs.some_bnd ?_); try dsimp only [sqK_nrm, sqK_exit, sqK_ret]) | ((with_reducible apply Evs.bcndT); (focus (simp (disch := omega) [c2, c3, c4, c5, f7, g6] <;> omega))) | ((with_reducible apply Evs.bcndF); (focus (simp (disch := omega) [c2, c3, c4, c5, f7, g6] <;> omega))) | ((with_reducible apply Evs.step); (focus ((conv => lhs; simp (disch := omega) [c2, c3, c4, c5, f7, g6]); done)); try dsimp only) | (simp only [sn54, snB]))
          refine Evs.ret ⟨rfl, _, _, rfl, by simp, by repeat (first | exact hs2 | refine Same.put rfl ?_), fun k hk => ?_⟩
          by_cases hki : k = i + q
          · subst hki
            rw [upd_same, hf2 _ hk]
            simp
          · rw [upd_ne _ _ hki, hf2 k hk]
            congr 2
            have : decide (k < i + (q + 1)) = decide (k < i + q) := by rw [decide_eq_decide]; omega
            rw [this]
        · rintro s ⟨env2, f2, rfl, f7, hs2, hf2⟩
          repeat (first | (with_reducible refine Evs.assoc ?_) | ((with_reducible refine Evs.some_bnd ?_); try dsimp only [sqK_nrm, sqK_exit, sqK_ret]) | ((with_reducible apply Evs.bcndT); (focus (simp (disch := omega) [f7] <;> omega))) | ((with_reducible apply Evs.bcndF); (focus (simp (disch := omega) [f7] <;> omega))) | ((with_reducible apply Evs.step); (focus ((conv => lhs; simp (disch := omega) [f7]); done)); try dsimp only) | (simp only [sn54, snB]))
          refine Evs.ret ⟨by simp, _, _, rfl, by repeat (first | exact hs2 | refine Same.put rfl ?_), fun k hk => ?_⟩
          rw [hf2 k hk]
          simp only [cl, hx', if_true, Nat.testBit_xor, Nat.testBit_shiftLeft]
          congr 1
          by_cases h1 : i ≤ k
          · by_cases h2 : k < i + 128
            · simp [h1, h2, gb, toNat_bit]
            · have : y.toNat.testBit (k - i) = false := Nat.testBit_lt_two_pow (Nat.lt_of_lt_of_le y.isLt (Nat.pow_le_pow_right (by decide) (by omega)))
              simp [h1, h2, this]
          · simp [h1]
      · rintro r ⟨env2, f2, rfl, hs2, hf2⟩
        have g6 := (hs2.get 6 rfl).trans f6
        repeat (first | (with_reducible refine Evs.assoc ?_) | ((with_reducible refine Evs.some_bnd ?_); try dsimp only [sqK_nrm, sqK_exit, sqK_ret]) | ((with_reducible apply Evs.bcndT); (focus (simp (disch := omega) [g6] <;> omega))) | ((with_reducible apply Evs.bcndF); (focus (simp (disch := omega) [g6] <;> omega))) | ((with_reducible apply Evs.step); (focus ((conv => lhs; simp (disch := omega) [g6]); done)); try dsimp only) | (simp only [sn54, snB]))
        refine Evs.ret ⟨rfl, _, _, rfl, by simp, ?_, hf2⟩
        exact Same.put rfl (hs.trans (hs2.sub rfl))
    · have hx' : ¬ x.toNat.testBit i = true := hx
      have hx2 : gb x i = false := by simpa using hx
      repeat (first | (with_reducible refine Evs.assoc ?_) | ((with_reducible refine Evs.some_bnd ?_); try dsimp only [sqK_nrm, sqK_exit, sqK_ret]) | ((with_reducible apply Evs.bcndT); (focus (simp (disch := omega) [b2, b3, b4, b5, f6, hx2, inBlk_other] <;> omega))) | ((with_reducible apply Evs.bcndF); (focus (simp (disch := omega) [b2, b3, b4, b5, f6, hx2, inBlk_other] <;> omega))) | ((with_reducible apply Evs.step); (focus ((conv => lhs; simp (disch := omega) [b2, b3, b4, b5, f6, hx2, inBlk_other]); done)); try dsimp only) | (simp only [sn54, snB]))
      refine Evs.ret ⟨rfl, _, _, rfl, by simp, by repeat (first | exact hs | refine Same.put rfl ?_), fun k hk => ?_⟩
      rw [hf k hk]
      simp only [cl, if_neg hx']
  · rintro s ⟨env', f, rfl, f6, hs, hf⟩
    repeat (first | (with_reducible refine Evs.assoc ?_) | ((with_reducible refine Evs.some_bnd ?_); try dsimp only [sqK_nrm, sqK_exit, sqK_ret]) | ((with_reducible apply Evs.bcndT); (focus (simp (disch := omega) [f6] <;> omega))) | ((with_reducible apply Evs.bcndF); (focus (simp (disch := omega) [f6] <;> omega))) | ((with_reducible apply Evs.step); (focus ((conv => lhs; simp (disch := omega) [f6]); done)); try dsimp only) | (simp only [sn54, snB]))
    exact Evs.ret ⟨by simp, _, _, rfl, by repeat (first | exact hs | refine Same.put rfl ?_), hf⟩

/-- The rest. -/
theorem rest54 (h : Heap) (x y : BitVec 128) (p : Nat) (f0 : Nat → Bool) (hf0 : ∀ k, k < 255 → f0 k = p.testBit k) (env : Env) (hb : B54 h.length env) (e8 : env.get 8 = nat 254) :
    Evs (evLoop (evC (cx54 callS8) n54_35) ⟨env, H54 h x y f0⟩) (fun r => ∃ env' f, r = (.exit 4, ⟨env', H54 h x y f⟩) ∧ Same [2, 3, 4, 5] env env' ∧ ∀ k, k < 255 → f k = (rdN p 127).testBit k) := by
  refine Evs.up 127 (fun n s => ∃ env' f, s = ⟨env', H54 h x y f⟩ ∧ env'.get 8 = nat (254 - n) ∧ Same [2, 3, 4, 5] env env' ∧ ∀ k, k < 255 → f k = (rdN p n).testBit k) ?_ ?_
    ⟨_, _, rfl, e8, Same.refl _ _, hf0⟩
  · rintro n s hn ⟨env', f, rfl, f8, hs, hf⟩
    obtain ⟨b2, b3, b4, b5⟩ := hb.same hs
    have e0 : 254 - (n + 1) = 254 - n - 1 := by omega
    rw [e0]
    have ht : (rdN p n).testBit (254 - n) = f (254 - n) := (hf _ (by omega)).symm
    generalize hi : 254 - n = i at *
    have n1 : ¬ i - 1 = i := by omega
    have n2 : ¬ i - 2 = i := by omega
    have n3 : ¬ i - 2 = i - 1 := by omega
    have n4 : ¬ i - 7 = i := by omega
    have n5 : ¬ i - 7 = i - 1 := by omega
    have n6 : ¬ i - 7 = i - 2 := by omega
    have n7 : ¬ i - 128 = i := by omega
    have n8 : ¬ i - 128 = i - 1 := by omega
    have n9 : ¬ i - 128 = i - 2 := by omega
    have n10 : ¬ i - 128 = i - 7 := by omega
    have u1 : ∀ (g : Nat → Bool) b, upd g i b (i - 1) = g (i - 1) := fun g b => upd_ne g b n1
    have u2 : ∀ (g : Nat → Bool) b, upd g i b (i - 2) = g (i - 2) := fun g b => upd_ne g b n2
    have u3 : ∀ (g : Nat → Bool) b, upd g (i - 1) b (i - 2) = g (i - 2) := fun g b => upd_ne g b n3
    have u4 : ∀ (g : Nat → Bool) b, upd g i b (i - 7) = g (i - 7) := fun g b => upd_ne g b n4
    have u5 : ∀ (g : Nat → Bool) b, upd g (i - 1) b (i - 7) = g (i - 7) := fun g b => upd_ne g b n5
    have u6 : ∀ (g : Nat → Bool) b, upd g (i - 2) b (i - 7) = g (i - 7) := fun g b => upd_ne g b n6
    have u7 : ∀ (g : Nat → Bool) b, upd g i b (i - 128) = g (i - 128) := fun g b => upd_ne g b n7
    have u8 : ∀ (g : Nat → Bool) b, upd g (i - 1) b (i - 128) = g (i - 128) := fun g b => upd_ne g b n8
    have u9 : ∀ (g : Nat → Bool) b, upd g (i - 2) b (i - 128) = g (i - 128) := fun g b => upd_ne g b n9
    have u10 : ∀ (g : Nat → Bool) b, upd g (i - 7) b (i - 128) = g (i - 128) := fun g b => upd_ne g b n10
    unfold H54
    by_cases hx : f i = true
    · repeat (first | (with_reducible refine Evs.assoc ?_) | ((with_reducible refine Evs.some_bnd ?_); try dsimp only [sqK_nrm, sqK_exit, sqK_ret]) | ((with_reducible apply Evs.bcndT); (focus (simp (disch := omega) [b2, b3, b4, b5, f8, hx, u1, u2, u3, u4, u5, u6, u7, u8, u9, u10] <;> omega))) | ((with_reducible apply Evs.bcndF); (focus (simp (disch := omega) [b2, b3, b4, b5, f8, hx, u1, u2, u3, u4, u5, u6, u7, u8, u9, u10] <;> omega))) | ((with_reducible apply Evs.step); (focus ((conv => lhs; simp (disch := omega) [b2, b3, b4, b5, f8, hx, u1, u2, u3, u4, u5, u6, u7, u8, u9, u10]); done)); try dsimp only) | (simp only [sn54, snB]))
      refine Evs.ret ⟨rfl, _, red f i, rfl, by simp, by repeat (first | exact hs | refine Same.put rfl ?_), fun k hk => ?_⟩
      have hs126 : i = (126 - n) + 128 := by omega
      have := red_eq (s := 126 - n) (by omega) hf (by rw [← hs126, ht, hx]) k hk
      rw [← hs126] at this
      rw [this]
      simp only [rdN, hi, ht, hx, if_true]
    · have hx2 : f i = false := by simpa using hx
      repeat (first | (with_reducible refine Evs.assoc ?_) | ((with_reducible refine Evs.some_bnd ?_); try dsimp only [sqK_nrm, sqK_exit, sqK_ret]) | ((with_reducible apply Evs.bcndT); (focus (simp (disch := omega) [b2, b3, b4, b5, f8, hx2] <;> omega))) | ((with_reducible apply Evs.bcndF); (focus (simp (disch := omega) [b2, b3, b4, b5, f8, hx2] <;> omega))) | ((with_reducible apply Evs.step); (focus ((conv => lhs; simp (disch := omega) [b2, b3, b4, b5, f8, hx2]); done)); try dsimp only) | (simp only [sn54, snB]))
      refine Evs.ret ⟨rfl, _, _, rfl, by simp, by repeat (first | exact hs | refine Same.put rfl ?_), fun k hk => ?_⟩
      rw [hf k hk]
      simp only [rdN, hi, ht, hx2, Bool.false_eq_true, if_false]
  · rintro s ⟨env', f, rfl, f8, hs, hf⟩
    repeat (first | (with_reducible refine Evs.assoc ?_) | ((with_reducible refine Evs.some_bnd ?_); try dsimp only [sqK_nrm, sqK_exit, sqK_ret]) | ((with_reducible apply Evs.bcndT); (focus (simp (disch := omega) [f8] <;> omega))) | ((with_reducible apply Evs.bcndF); (focus (simp (disch := omega) [f8] <;> omega))) | ((with_reducible apply Evs.step); (focus ((conv => lhs; simp (disch := omega) [f8]); done)); try dsimp only) | (simp only [sn54, snB]))
    exact Evs.ret ⟨by simp, _, _, rfl, by repeat (first | exact hs | refine Same.put rfl ?_), hf⟩

theorem walk54 (h : Heap) (x y : BitVec 128) : ∃ t, evBody (cx54 callS8) Try.f54 n54_0 [bX x, bX y] h = some (bX (timesX x y), h ++ t) := by
  rw [b54]
  have main : Evs (evC (cx54 callS8) n54_0 ⟨[(0, bX x), (1, bX y), (2, .junk), (3, .junk), (4, .junk), (5, .junk), (6, .junk), (7, .junk), (8, .junk), (9, .junk), (10, .junk), (12, .junk), (18, .junk), (20, .junk), (37, .junk), (43, .junk), (79, .junk)], h⟩) (fun r => ∃ env t, r = (.ret, ⟨env, h ++ t⟩) ∧ mLoad (.arr 128 (.int .i64)) (env.get 4) (h ++ t) = some (bX (timesX x y))) := by
    obtain ⟨env, he⟩ : ∃ env : Env, env = [(0, bX x), (1, bX y), (2, .junk), (3, .junk), (4, .junk), (5, .junk), (6, .junk), (7, .junk), (8, .junk), (9, .junk), (10, .junk), (12, .junk), (18, .junk), (20, .junk), (37, .junk), (43, .junk), (79, .junk)] := ⟨_, rfl⟩
    rw [← he]
    have g0 : env.get 0 = bX x := by rw [he]; rfl
    have g1 : env.get 1 = bX y := by rw [he]; rfl
    clear he
    have hbx : ∀ x, bX x = ib 128 (gb x) := fun _ => rfl
    repeat (first | (with_reducible refine Evs.assoc ?_) | ((with_reducible refine Evs.some_bnd ?_); try dsimp only [sqK_nrm, sqK_exit, sqK_ret]) | ((with_reducible apply Evs.bcndT); (focus (simp (disch := omega) [g0, g1, hbx] <;> omega))) | ((with_reducible apply Evs.bcndF); (focus (simp (disch := omega) [g0, g1, hbx] <;> omega))) | ((with_reducible apply Evs.step); (focus ((conv => lhs; simp (disch := omega) [g0, g1, hbx]); done)); try dsimp only) | (simp only [sn54, snB]))
    refine Evs.bnd (sums54 h x y _ ?_ ?_) ?_
    · exact ⟨by simp, by simp, by simp, by simp⟩
    · simp
    rintro r ⟨env2, f2, rfl, hs2, hf2⟩
    have hb2 : B54 h.length env2 := B54.same ⟨by simp, by simp, by simp, by simp⟩ hs2
    repeat (first | (with_reducible refine Evs.assoc ?_) | ((with_reducible refine Evs.some_bnd ?_); try dsimp only [sqK_nrm, sqK_exit, sqK_ret]) | ((with_reducible apply Evs.bcndT); (focus (simp (disch := omega) [g0] <;> omega))) | ((with_reducible apply Evs.bcndF); (focus (simp (disch := omega) [g0] <;> omega))) | ((with_reducible apply Evs.step); (focus ((conv => lhs; simp (disch := omega) [g0]); done)); try dsimp only) | (simp only [sn54, snB]))
    refine Evs.bnd (rest54 h x y (cl x.toNat y.toNat 128) f2 hf2 _ ?_ ?_) ?_
    · exact hb2.same (by repeat (first | exact Same.refl _ _ | refine Same.put rfl ?_))
    · simp
    rintro r ⟨env3, f3, rfl, hs3, hf3⟩
    have hb3 : B54 h.length env3 := (hb2.same (by repeat (first | exact Same.refl _ _ | refine Same.put rfl ?_))).same hs3
    obtain ⟨b2, b3, b4, b5⟩ := hb3
    unfold H54
    repeat (first | (with_reducible refine Evs.assoc ?_) | ((with_reducible refine Evs.some_bnd ?_); try dsimp only [sqK_nrm, sqK_exit, sqK_ret]) | ((with_reducible apply Evs.bcndT); (focus (simp (disch := omega) [b2, b3, b4, b5] <;> omega))) | ((with_reducible apply Evs.bcndF); (focus (simp (disch := omega) [b2, b3, b4, b5] <;> omega))) | ((with_reducible apply Evs.step); (focus ((conv => lhs; simp (disch := omega) [b2, b3, b4, b5]); done)); try dsimp only) | (simp only [sn54, snB]))
    refine Evs.bnd (Q := fun r => ∃ env4, r = (.exit 6, ⟨env4, h ++ [⟨ib 128 (gb x), 0, .own⟩, ⟨ib 128 (gb y), 0, .own⟩, ⟨ib 128 fun _ => false, 0, .own⟩, ⟨ib 255 f3, 0, .own⟩, ⟨bX (timesX x y), 0, .own⟩]⟩) ∧ env4.get 4 = .ptr (h.length + 2) 0 [] (.arr 128 (.int .i64)) ∧ env4.get 9 = .ptr (h.length + 4) 0 [] (.arr 128 (.int .i64))) ?_ ?_
    · refine Evs.up 128 (fun i s => ∃ env4 f4, s = ⟨env4, h ++ [⟨ib 128 (gb x), 0, .own⟩, ⟨ib 128 (gb y), 0, .own⟩, ⟨ib 128 fun _ => false, 0, .own⟩, ⟨ib 255 f3, 0, .own⟩, ⟨ib 128 f4, 0, .own⟩]⟩ ∧ env4.get 4 = .ptr (h.length + 2) 0 [] (.arr 128 (.int .i64)) ∧ env4.get 5 = .ptr (h.length + 3) 0 [] (.arr 255 (.int .i64)) ∧ env4.get 9 = .ptr (h.length + 4) 0 [] (.arr 128 (.int .i64)) ∧ env4.get 10 = nat i ∧ ∀ k, k < i → f4 k = f3 k) ?_ ?_
        ⟨_, _, rfl, by simp [b4], by simp [b5], by simp, by simp, fun k hk => absurd hk (by omega)⟩
      · rintro i s hi ⟨env4, f4, rfl, c4, c5, c9, c10, hf4⟩
        repeat (first | (with_reducible refine Evs.assoc ?_) | ((with_reducible refine Evs.some_bnd ?_); try dsimp only [sqK_nrm, sqK_exit, sqK_ret]) | ((with_reducible apply Evs.bcndT); (focus (simp (disch := omega) [c4, c5, c9, c10] <;> omega))) | ((with_reducible apply Evs.bcndF); (focus (simp (disch := omega) [c4, c5, c9, c10] <;> omega))) | ((with_reducible apply Evs.step); (focus ((conv => lhs; simp (disch := omega) [c4, c5, c9, c10]); done)); try dsimp only) | (simp only [sn54, snB]))
        refine Evs.ret ⟨rfl, _, _, rfl, by simp [c4], by simp [c5], by simp [c9], by simp, fun k hk => ?_⟩
        by_cases hki : k = i
        · subst hki; rw [upd_same]
        · rw [upd_ne _ _ hki]; exact hf4 k (by omega)
      · rintro s ⟨env4, f4, rfl, c4, c5, c9, c10, hf4⟩
        repeat (first | (with_reducible refine Evs.assoc ?_) | ((with_reducible refine Evs.some_bnd ?_); try dsimp only [sqK_nrm, sqK_exit, sqK_ret]) | ((with_reducible apply Evs.bcndT); (focus (simp (disch := omega) [c10] <;> omega))) | ((with_reducible apply Evs.bcndF); (focus (simp (disch := omega) [c10] <;> omega))) | ((with_reducible apply Evs.step); (focus ((conv => lhs; simp (disch := omega) [c10]); done)); try dsimp only) | (simp only [sn54, snB]))
        have : ib 128 f4 = bX (timesX x y) := by
          rw [hbx]
          exact ib_congr fun k hk => by rw [hf4 k hk, hf3 k (by omega), timesX_bit]; rfl
        rw [this]
        exact Evs.ret ⟨by simp, _, rfl, by simp [c4], by simp [c9]⟩
    · rintro r ⟨env4, rfl, c4, c9⟩
      repeat (first | (with_reducible refine Evs.assoc ?_) | ((with_reducible refine Evs.some_bnd ?_); try dsimp only [sqK_nrm, sqK_exit, sqK_ret]) | ((with_reducible apply Evs.bcndT); (focus (simp (disch := omega) [c4, c9, hbx] <;> omega))) | ((with_reducible apply Evs.bcndF); (focus (simp (disch := omega) [c4, c9, hbx] <;> omega))) | ((with_reducible apply Evs.step); (focus ((conv => lhs; simp (disch := omega) [c4, c9, hbx]); done)); try dsimp only) | (simp only [sn54, snB]))
      refine Evs.ret ⟨_, _, rfl, ?_⟩
      simp [c4, hbx]
  obtain ⟨r, hr, env, t, rfl, e0⟩ := main
  refine ⟨t, ?_⟩
  rw [hr]
  simp [e0, oneOrTuple]

noncomputable def c54 := conC (fun x : (BitVec 128) × (BitVec 128) => [bX x.1, bX x.2]) (fun (x : (BitVec 128) × (BitVec 128)) h => True) (fun (x : (BitVec 128) × (BitVec 128)) h => (bX (timesX x.1 x.2), h))
noncomputable def callS9 : Calling := addC callS8 54 c54
theorem c54_eq (a : BitVec 128) (b : BitVec 128) (h : Heap) : c54 [bX a, bX b] h = some (bX (timesX a b), h) :=
  conC_eq (enc := fun x : (BitVec 128) × (BitVec 128) => [bX x.1, bX x.2]) (P := fun (x : (BitVec 128) × (BitVec 128)) h => True) (a := (a, b)) (f := fun (x : (BitVec 128) × (BitVec 128)) h => (bX (timesX x.1 x.2), h)) (fun x y h e => by
    have e1 := bX_inj (List.cons.inj e).1
    have e2 := bX_inj (List.cons.inj (List.cons.inj e).2).1
    rw [e1, e2]
    ) trivial
theorem callS9_ok : CallOK Try.prog callS9 := addC_con callS8_ok k54 fun x h hx => by
  obtain ⟨t, ht⟩ := walk54 h x.1 x.2
  exact (s54 callS8_ok ht).drop0 t (bX_under _ _)
@[simp] theorem callS9_ne {f : Nat} (args : List AV) (h : Heap) (hf : f ≠ 54) : callS9 f args h = callS8 f args h := addC_ne _ _ _ args h hf
@[simp] theorem callS9_sne {f : Nat} (args : List AV) (h : Heap) (hf : f ≠ 54) : still callS9 f args h = still callS8 f args h := still_ne _ _ _ args h hf
@[simp] theorem callS9_54 (a : BitVec 128) (b : BitVec 128) (h : Heap) : callS9 54 [bX a, bX b] h = some (bX (timesX a b), h) := by
  unfold callS9; rw [addC_same]; exact c54_eq a b h
@[simp] theorem callS9_54s (a : BitVec 128) (b : BitVec 128) (h : Heap) : still callS9 54 [bX a, bX b] h = some (bX (timesX a b), h) := still_of fun t => by simp

end Go.Vab

/-
  The document's dot.
-/
namespace Go.Vab
open Go Go.Proofs

theorem gC_bits (k : Nat) (hk : k < 128) : gC.testBit k = (decide (k = 127) || decide (k = 126) || decide (k = 125) || decide (k = 120)) := by
  have key : (List.range 128).all (fun j => gC.testBit j == (decide (j = 127) || decide (j = 126) || decide (j = 125) || decide (j = 120))) = true := by kernel_rfl
  simp only [List.all_eq_true, List.mem_range, beq_iff_eq] at key
  exact key k hk
theorem dX_bit (x : BitVec 128) (k : Nat) : gb (dX x) k = (x.getLsbD (1 + k) ^^ (x.getLsbD 0 && gC.testBit k)) := by
  unfold gb
  rw [dX_eq, BitVec.getLsbD_xor, BitVec.getLsbD_ushiftRight]
  congr 1
  split
  · rename_i h; rw [h, gC_bit]; simp
  · rename_i h; rw [Bool.not_eq_true] at h; rw [h]; simp
/-- One division, as the document does it. -/
def shr1 (x : BitVec 128) (k : Nat) : Bool := if k < 127 then x.getLsbD (k + 1) else false
def tog (f : Nat → Bool) : Nat → Bool := upd (upd (upd (upd f 127 (!f 127)) 126 (!f 126)) 125 (!f 125)) 120 (!f 120)
theorem shr1_even (x : BitVec 128) (h : x.getLsbD 0 = false) (k : Nat) (hk : k < 128) : shr1 x k = gb (dX x) k := by
  rw [dX_bit, h, Bool.false_and, Bool.xor_false]
  unfold shr1
  by_cases h1 : k < 127
  · rw [if_pos h1, Nat.add_comm]
  · rw [if_neg h1, BitVec.getLsbD_of_ge _ _ (by omega)]
theorem shr1_odd (x : BitVec 128) (h : x.getLsbD 0 = true) (f : Nat → Bool) (hf : ∀ k, k < 128 → f k = shr1 x k) (k : Nat) (hk : k < 128) : tog f k = gb (dX x) k := by
  have e0 : ∀ k, k < 128 → f k = x.getLsbD (1 + k) := fun k hk => by
    rw [hf k hk]
    unfold shr1
    by_cases h1 : k < 127
    · rw [if_pos h1, Nat.add_comm]
    · rw [if_neg h1, BitVec.getLsbD_of_ge _ _ (by omega)]
  rw [dX_bit, h, Bool.true_and, gC_bits k hk, ← e0 k hk]
  unfold tog
  by_cases h1 : k = 120
  · subst h1; rw [upd_same]; simp
  · rw [upd_ne _ _ h1]
    by_cases h2 : k = 125
    · subst h2; rw [upd_same]; simp
    · rw [upd_ne _ _ h2]
      by_cases h3 : k = 126
      · subst h3; rw [upd_same]; simp
      · rw [upd_ne _ _ h3]
        by_cases h4 : k = 127
        · subst h4; rw [upd_same]; simp
        · rw [upd_ne _ _ h4]
          simp [h1, h2, h3, h4]

def itX : Nat → BitVec 128 → BitVec 128
  | 0, x => x
  | n + 1, x => dX (itX n x)
theorem itX_toNat (x : BitVec 128) : ∀ n, (itX n x).toNat = itN gD n x.toNat
  | 0 => rfl
  | n + 1 => by
    show (dX (itX n x)).toNat = gD (itN gD n x.toNat)
    rw [dX_toNat, itX_toNat x n]
theorem itX_dot (x y : BitVec 128) : itX 128 (timesX x y) = dotX x y := by
  apply BitVec.eq_of_toNat_eq
  rw [itX_toNat, timesX_toNat, dot_doc _ y.isLt, dotX_toNat]

def H32 (h : Heap) (a b : Nat → BitVec 8) (x : BitVec 128) (tr : Heap) : Heap := h ++ (⟨arr 16 a, 0, .own⟩ :: ⟨arr 16 b, 0, .own⟩ :: ⟨arr 16 fun _ => 0#8, 0, .own⟩ :: ⟨ib 128 (gb x), 0, .own⟩ :: tr)

theorem round32 (h : Heap) (a b : Nat → BitVec 8) (x : BitVec 128) (tr : Heap) (n : Nat) (hn : n < 128) (env : Env) (e4 : env.get 4 = .ptr (h.length + 2) 0 [] (.arr 16 (.int .u8))) (e5 : env.get 5 = .ptr (h.length + 3) 0 [] (.arr 128 (.int .i64))) (e6 : env.get 6 = nat n) :
    Evs (evC (cx32 callS9) n32_6 ⟨env, H32 h a b x tr⟩) (fun r => ∃ env' tr', r = (.nrm, ⟨env', H32 h a b (dX x) tr'⟩) ∧ env'.get 6 = nat (n + 1) ∧ Same [4, 5] env env') := by
  unfold H32
  repeat (first | (with_reducible refine Evs.assoc ?_) | ((with_reducible refine Evs.some_bnd ?_); try dsimp only [sqK_nrm, sqK_exit, sqK_ret]) | ((with_reducible apply Evs.bcndT); (focus (simp (disch := omega) [e4, e5, e6] <;> omega))) | ((with_reducible apply Evs.bcndF); (focus (simp (disch := omega) [e4, e5, e6] <;> omega))) | ((with_reducible apply Evs.step); (focus ((conv => lhs; simp (disch := omega) [e4, e5, e6]); done)); try dsimp only) | (simp only [sn32, snB]))
  refine Evs.bnd (Q := fun r => ∃ env2 f, r = (.exit 2, ⟨env2, H32 h a b x (tr ++ [⟨ib 128 f, 0, .own⟩])⟩) ∧ env2.get 7 = nat (gb x 0).toNat ∧ env2.get 8 = .ptr (h.length + (tr.length + 1 + 1 + 1 + 1)) 0 [] (.arr 128 (.int .i64)) ∧ Same [4, 5, 6] env env2 ∧ ∀ k, k < 128 → f k = shr1 x k) ?_ ?_
  · refine Evs.up 127 (fun i s => ∃ env2 f, s = ⟨env2, H32 h a b x (tr ++ [⟨ib 128 f, 0, .own⟩])⟩ ∧ env2.get 7 = nat (gb x 0).toNat ∧ env2.get 8 = .ptr (h.length + (tr.length + 1 + 1 + 1 + 1)) 0 [] (.arr 128 (.int .i64)) ∧ env2.get 9 = nat i ∧ Same [4, 5, 6] env env2 ∧ ∀ k, k < 128 → f k = if k < i then shr1 x k else false) ?_ ?_
      ⟨_, _, rfl, by simp, by simp, by simp, by repeat (first | exact Same.refl _ _ | refine Same.put rfl ?_), fun k _ => by simp⟩
    · rintro i s hi ⟨env2, f, rfl, f7, f8, f9, hs, hf⟩
      have f5 := (hs.get 5 rfl).trans e5
      unfold H32
      repeat (first | (with_reducible refine Evs.assoc ?_) | ((with_reducible refine Evs.some_bnd ?_); try dsimp only [sqK_nrm, sqK_exit, sqK_ret]) | ((with_reducible apply Evs.bcndT); (focus (simp (disch := omega) [f5, f8, f9] <;> omega))) | ((with_reducible apply Evs.bcndF); (focus (simp (disch := omega) [f5, f8, f9] <;> omega))) | ((with_reducible apply Evs.step); (focus ((conv => lhs; simp (disch := omega) [f5, f8, f9]); done)); try dsimp only) | (simp only [sn32, snB]))
      refine Evs.ret ⟨rfl, _, _, rfl, by simp [f7], by simp [f8], by simp, by repeat (first | exact hs | refine Same.put rfl ?_), fun k hk => ?_⟩
      by_cases hki : k = i
      · subst hki
        rw [upd_same, if_pos (by omega)]
        unfold shr1
        rw [if_pos hi]; rfl
      · rw [upd_ne _ _ hki, hf k hk]
        by_cases hlt : k < i
        · rw [if_pos hlt, if_pos (by omega)]
        · rw [if_neg hlt, if_neg (by omega)]
    · rintro s ⟨env2, f, rfl, f7, f8, f9, hs, hf⟩
      repeat (first | (with_reducible refine Evs.assoc ?_) | ((with_reducible refine Evs.some_bnd ?_); try dsimp only [sqK_nrm, sqK_exit, sqK_ret]) | ((with_reducible apply Evs.bcndT); (focus (simp (disch := omega) [f9] <;> omega))) | ((with_reducible apply Evs.bcndF); (focus (simp (disch := omega) [f9] <;> omega))) | ((with_reducible apply Evs.step); (focus ((conv => lhs; simp (disch := omega) [f9]); done)); try dsimp only) | (simp only [sn32, snB]))
      refine Evs.ret ⟨by simp, _, _, rfl, by simp [f7], by simp [f8], by repeat (first | exact hs | refine Same.put rfl ?_), fun k hk => ?_⟩
      rw [hf k hk]
      by_cases hlt : k < 127
      · rw [if_pos hlt]
      · rw [if_neg hlt]; unfold shr1; rw [if_neg hlt]
  · rintro r ⟨env2, f, rfl, f7, f8, hs, hf⟩
    have f5 := (hs.get 5 rfl).trans e5
    have f6 := (hs.get 6 rfl).trans e6
    have n1 : (126 : Nat) ≠ 127 := by decide
    unfold H32
    by_cases h0 : x.getLsbD 0 = true
    · have hx : gb x 0 = true := h0
      rw [hx] at f7
      have u1 : ∀ b, upd f 127 b 126 = f 126 := fun b => upd_ne f b (by decide)
      have u2 : ∀ b c, upd (upd f 127 b) 126 c 125 = f 125 := fun b c => by rw [upd_ne _ _ (by decide), upd_ne _ _ (by decide)]
      have u3 : ∀ b c d, upd (upd (upd f 127 b) 126 c) 125 d 120 = f 120 := fun b c d => by rw [upd_ne _ _ (by decide), upd_ne _ _ (by decide), upd_ne _ _ (by decide)]
      repeat (first | (with_reducible refine Evs.assoc ?_) | ((with_reducible refine Evs.some_bnd ?_); try dsimp only [sqK_nrm, sqK_exit, sqK_ret]) | ((with_reducible apply Evs.bcndT); (focus (simp (disch := omega) [f5, f6, f7, f8, u1, u2, u3] <;> omega))) | ((with_reducible apply Evs.bcndF); (focus (simp (disch := omega) [f5, f6, f7, f8, u1, u2, u3] <;> omega))) | ((with_reducible apply Evs.step); (focus ((conv => lhs; simp (disch := omega) [f5, f6, f7, f8, u1, u2, u3]); done)); try dsimp only) | (simp only [sn32, snB]))
      have : ib 128 (upd (upd (upd (upd f 127 (!f 127)) 126 (!f 126)) 125 (!f 125)) 120 (!f 120)) = ib 128 (gb (dX x)) := ib_congr fun k hk => shr1_odd x h0 f hf k hk
      rw [this]
      exact Evs.ret ⟨_, _, rfl, by simp, by repeat (first | exact hs.sub rfl | refine Same.put rfl ?_)⟩
    · have h0' : x.getLsbD 0 = false := by simpa using h0
      have hx : gb x 0 = false := h0'
      rw [hx] at f7
      repeat (first | (with_reducible refine Evs.assoc ?_) | ((with_reducible refine Evs.some_bnd ?_); try dsimp only [sqK_nrm, sqK_exit, sqK_ret]) | ((with_reducible apply Evs.bcndT); (focus (simp (disch := omega) [f5, f6, f7, f8] <;> omega))) | ((with_reducible apply Evs.bcndF); (focus (simp (disch := omega) [f5, f6, f7, f8] <;> omega))) | ((with_reducible apply Evs.step); (focus ((conv => lhs; simp (disch := omega) [f5, f6, f7, f8]); done)); try dsimp only) | (simp only [sn32, snB]))
      have : ib 128 f = ib 128 (gb (dX x)) := ib_congr fun k hk => by rw [hf k hk]; exact shr1_even x h0' k hk
      rw [this]
      exact Evs.ret ⟨_, _, rfl, by simp, by repeat (first | exact hs.sub rfl | refine Same.put rfl ?_)⟩

theorem walk32 (h : Heap) (a b : Nat → BitVec 8) : ∃ t, evBody (cx32 callS9) Try.f32 n32_0 [arr 16 a, arr 16 b] h = some (arr 16 (dotB a b), h ++ t) := by
  rw [b32]
  have main : Evs (evC (cx32 callS9) n32_0 ⟨[(0, arr 16 a), (1, arr 16 b), (2, .junk), (3, .junk), (4, .junk), (5, .junk), (6, .junk), (7, .junk), (8, .junk), (9, .junk), (16, .junk), (22, .junk), (32, .junk)], h⟩) (fun r => ∃ env t, r = (.ret, ⟨env, h ++ t⟩) ∧ mLoad (.arr 16 (.int .u8)) (env.get 4) (h ++ t) = some (arr 16 (dotB a b))) := by
    obtain ⟨env, he⟩ : ∃ env : Env, env = [(0, arr 16 a), (1, arr 16 b), (2, .junk), (3, .junk), (4, .junk), (5, .junk), (6, .junk), (7, .junk), (8, .junk), (9, .junk), (16, .junk), (22, .junk), (32, .junk)] := ⟨_, rfl⟩
    rw [← he]
    have g0 : env.get 0 = arr 16 a := by rw [he]; rfl
    have g1 : env.get 1 = arr 16 b := by rw [he]; rfl
    clear he
    have hbx : ∀ x, bX x = ib 128 (gb x) := fun _ => rfl
    have h55 : ∀ (x : BitVec 128) (H : Heap), callS8 55 [ib 128 (gb x)] H = some (arr 16 (bytesX x), H) := fun x H => by
      have := callS8_55 x H
      rw [hbx] at this
      simpa using this
    have h54 : ∀ (x y : BitVec 128) (H : Heap), still callS9 54 [ib 128 (gb x), ib 128 (gb y)] H = some (bX (timesX x y), H) := fun x y H => callS9_54s x y H
    repeat (first | (with_reducible refine Evs.assoc ?_) | ((with_reducible refine Evs.some_bnd ?_); try dsimp only [sqK_nrm, sqK_exit, sqK_ret]) | ((with_reducible apply Evs.bcndT); (focus (simp (disch := omega) [g0, g1, hbx, h54] <;> omega))) | ((with_reducible apply Evs.bcndF); (focus (simp (disch := omega) [g0, g1, hbx, h54] <;> omega))) | ((with_reducible apply Evs.step); (focus ((conv => lhs; simp (disch := omega) [g0, g1, hbx, h54]); done)); try dsimp only) | (simp only [sn32, snB]))
    refine Evs.bnd (Q := fun r => ∃ env' tr, r = (.exit 0, ⟨env', H32 h a b (dotX (val16 a) (val16 b)) tr⟩) ∧ env'.get 4 = .ptr (h.length + 2) 0 [] (.arr 16 (.int .u8)) ∧ env'.get 5 = .ptr (h.length + 3) 0 [] (.arr 128 (.int .i64))) ?_ ?_
    · rw [← itX_dot]
      refine Evs.up 128 (fun n s => ∃ env' tr, s = ⟨env', H32 h a b (itX n (timesX (val16 a) (val16 b))) tr⟩ ∧ env'.get 4 = .ptr (h.length + 2) 0 [] (.arr 16 (.int .u8)) ∧ env'.get 5 = .ptr (h.length + 3) 0 [] (.arr 128 (.int .i64)) ∧ env'.get 6 = nat n) ?_ ?_
        ⟨_, [], rfl, by simp, by simp, by simp⟩
      · rintro n s hn ⟨env', tr, rfl, e4, e5, e6⟩
        refine (round32 h a b _ tr n hn env' e4 e5 e6).mono ?_
        rintro r ⟨env2, tr2, rfl, f6, hs⟩
        exact ⟨rfl, _, _, rfl, (hs.get 4 rfl).trans e4, (hs.get 5 rfl).trans e5, f6⟩
      · rintro s ⟨env', tr, rfl, e4, e5, e6⟩
        repeat (first | (with_reducible refine Evs.assoc ?_) | ((with_reducible refine Evs.some_bnd ?_); try dsimp only [sqK_nrm, sqK_exit, sqK_ret]) | ((with_reducible apply Evs.bcndT); (focus (simp (disch := omega) [e6] <;> omega))) | ((with_reducible apply Evs.bcndF); (focus (simp (disch := omega) [e6] <;> omega))) | ((with_reducible apply Evs.step); (focus ((conv => lhs; simp (disch := omega) [e6]); done)); try dsimp only) | (simp only [sn32, snB]))
        exact Evs.ret ⟨by simp, _, _, rfl, by simp [e4], by simp [e5]⟩
    · rintro r ⟨env', tr, rfl, e4, e5⟩
      unfold H32
      repeat (first | (with_reducible refine Evs.assoc ?_) | ((with_reducible refine Evs.some_bnd ?_); try dsimp only [sqK_nrm, sqK_exit, sqK_ret]) | ((with_reducible apply Evs.bcndT); (focus (simp (disch := omega) [e4, e5, h55] <;> omega))) | ((with_reducible apply Evs.bcndF); (focus (simp (disch := omega) [e4, e5, h55] <;> omega))) | ((with_reducible apply Evs.step); (focus ((conv => lhs; simp (disch := omega) [e4, e5, h55]); done)); try dsimp only) | (simp only [sn32, snB]))
      exact Evs.ret ⟨_, _, rfl, by simp [e4, dotB]⟩
  obtain ⟨r, hr, env, t, rfl, e0⟩ := main
  refine ⟨t, ?_⟩
  rw [hr]
  simp [e0, oneOrTuple]

noncomputable def c32 := conC (fun x : (Nat → BitVec 8) × (Nat → BitVec 8) => [arr 16 x.1, arr 16 x.2]) (fun (x : (Nat → BitVec 8) × (Nat → BitVec 8)) h => True) (fun (x : (Nat → BitVec 8) × (Nat → BitVec 8)) h => (arr 16 (dotB x.1 x.2), h))
noncomputable def callS10 : Calling := addC callS9 32 c32
theorem c32_eq (a : Nat → BitVec 8) (b : Nat → BitVec 8) (h : Heap) : c32 [arr 16 a, arr 16 b] h = some (arr 16 (dotB a b), h) :=
  conC_eq (enc := fun x : (Nat → BitVec 8) × (Nat → BitVec 8) => [arr 16 x.1, arr 16 x.2]) (P := fun (x : (Nat → BitVec 8) × (Nat → BitVec 8)) h => True) (a := (a, b)) (f := fun (x : (Nat → BitVec 8) × (Nat → BitVec 8)) h => (arr 16 (dotB x.1 x.2), h)) (fun x y h e => by
    have e1 := arr_inj.1 (List.cons.inj e).1
    have e2 := arr_inj.1 (List.cons.inj (List.cons.inj e).2).1
    simp only [dotB]
    rw [val16_congr e1, val16_congr e2]
    ) trivial
theorem callS10_ok : CallOK Try.prog callS10 := addC_con callS9_ok k32 fun x h hx => by
  obtain ⟨t, ht⟩ := walk32 h x.1 x.2
  exact (s32 callS9_ok ht).drop0 t rfl
@[simp] theorem callS10_ne {f : Nat} (args : List AV) (h : Heap) (hf : f ≠ 32) : callS10 f args h = callS9 f args h := addC_ne _ _ _ args h hf
@[simp] theorem callS10_sne {f : Nat} (args : List AV) (h : Heap) (hf : f ≠ 32) : still callS10 f args h = still callS9 f args h := still_ne _ _ _ args h hf
@[simp] theorem callS10_32 (a : Nat → BitVec 8) (b : Nat → BitVec 8) (h : Heap) : callS10 32 [arr 16 a, arr 16 b] h = some (arr 16 (dotB a b), h) := by
  unfold callS10; rw [addC_same]; exact c32_eq a b h
@[simp] theorem callS10_32s (a : Nat → BitVec 8) (b : Nat → BitVec 8) (h : Heap) : still callS10 32 [arr 16 a, arr 16 b] h = some (arr 16 (dotB a b), h) := still_of fun t => by simp

end Go.Vab

/-
  Rows of bytes and slices of them; memory of which one block is kept.
-/
namespace Go.Vab
open Go

theorem arr0 (g : Nat → BitVec 8) : arr 0 g = arr 0 fun _ => 0#8 := arr_congr fun i hi => absurd hi (by omega)
@[simp] theorem arr_join (n m : Nat) (g f : Nat → BitVec 8) : (arr n g).join (arr m f) = some (arr (n + m) fun i => if i < n then g i else f (i - n)) := by
  simp only [arr, bytes, AV.join, if_true]
  congr 2
  rw [← List.map_append]
  congr 1
  apply List.ext_getElem?
  intro i
  rw [List.getElem?_append, range_map_getD, range_map_getD, range_map_getD, List.length_map, List.length_range]
  by_cases h : i < n
  · simp [h, show i < n + m by omega]
  · by_cases h2 : i - n < m
    · simp [h, h2, show i < n + m by omega]
    · simp [h, h2, show ¬ i < n + m by omega]
@[simp] theorem arr_splice (m n off k : Nat) (f g : Nat → BitVec 8) : (arr m f).splice off k (arr n g) = if off + k ≤ m ∧ k ≤ n then some (arr m fun i => if off ≤ i ∧ i < off + k then g (i - off) else f i) else none := by
  simp only [arr, bytes, AV.splice, List.length_map, List.length_range, true_and]
  by_cases hc : off + k ≤ m ∧ k ≤ n
  · rw [if_pos hc, if_pos hc]
    congr 2
    simp only [← List.map_take, ← List.map_drop]
    rw [← List.map_append, ← List.map_append]
    congr 1
    simp only [List.map_take, List.map_drop]
    apply List.ext_getElem?
    intro i
    rw [range_map_getD, List.append_assoc, List.getElem?_append, List.getElem?_append]
    simp only [List.length_take, List.length_map, List.length_range, List.getElem?_take, List.getElem?_drop, range_map_getD]
    obtain ⟨h1, h2⟩ := hc
    rw [Nat.min_eq_left (by omega : off ≤ m), Nat.min_eq_left h2]
    by_cases a1 : i < off
    · simp [a1, show i < m by omega, show ¬ off ≤ i by omega]
    · by_cases a2 : i < off + k
      · have : i - off < k := by omega
        simp [a1, a2, this, show i < m by omega, show off ≤ i by omega, show i - off < n by omega]
      · have a3 : ¬ i - off < k := by omega
        have a4 : off + k + (i - off - k) = i := by omega
        simp [a1, a2, a3, a4, show off ≤ i by omega]
  · rw [if_neg hc, if_neg hc]

@[simp] theorem ite_and {α : Type} {a b c d : Nat} (x y : α) (h : a ≤ b ∧ c ≤ d) : (if a ≤ b ∧ c ≤ d then x else y) = x := if_pos h

theorem get_append : ∀ (p : List Nat) (v : AV) (q : List Nat), v.get (p ++ q) = bnd (v.get p) fun r => r.get q
  | [], v, q => by simp
  | j :: p, .node vs, q => by
    simp only [List.cons_append, get_node]
    cases vs[j]? with
    | none => rfl
    | some v => simp only [bnd_some]; exact get_append p v q
  | j :: p, .ints k xs, q => by
    simp only [List.cons_append, AV.get]
    cases p with
    | nil =>
      cases q with
      | nil =>
        simp only [List.nil_append]
        cases xs[j]? <;> simp
      | cons a q =>
        simp only [List.nil_append]
        cases xs[j]? <;> simp [AV.get]
    | cons a p => simp
  | j :: p, .junk, q | j :: p, .undef, q | j :: p, .bool _, q | j :: p, .int _ _, q | j :: p, .str _, q | j :: p, .nilptr, q | j :: p, .ptr .., q | j :: p, .win .., q | j :: p, .nilslice, q | j :: p, .slice .., q
  | j :: p, .nilmap, q | j :: p, .map _, q | j :: p, .nilfn, q | j :: p, .fn .., q | j :: p, .tuple _, q => by simp [AV.get]

def slOk : AV → Nat → Prop
  | .nilslice, n => n = 0
  | .slice _ ver _ t off len none, n => len = n ∧ off + len ≤ ver ∧ t = .int .u8
  | .slice _ _ _ t _ len (some c), n => len = n ∧ len ≤ c ∧ t = .int .u8
  | _, _ => False

/-- A slice of bytes, and what it holds. -/
def Byt (h : Heap) (x : AV) (n : Nat) (g : Nat → BitVec 8) : Prop := mElems (.int .u8) x h = some (arr n g) ∧ slOk x n

theorem Byt.app {h : Heap} {x : AV} {n : Nat} {g : Nat → BitVec 8} (hb : Byt h x n g) (t : Heap) : Byt (h ++ t) x n g := ⟨mElems_app hb.1 t, hb.2⟩
theorem Byt.elems {h : Heap} {x : AV} {n : Nat} {g : Nat → BitVec 8} (hb : Byt h x n g) (t : Heap) : mElems (.int .u8) x (h ++ t) = some (arr n g) := (hb.app t).1
theorem Byt.len {h : Heap} {x : AV} {n : Nat} {g : Nat → BitVec 8} (hb : Byt h x n g) : mLenS x = some (nat n) := by
  obtain ⟨_, h2⟩ := hb
  unfold slOk at h2
  split at h2
  · subst h2; rfl
  · rw [← h2.1]; rfl
  · rw [← h2.1]; rfl
  · cases h2
theorem arr_len_inj {n m : Nat} {g f : Nat → BitVec 8} (h : arr n g = arr m f) : n = m := by
  have := congrArg AV.rowLen h
  simpa using this
theorem Byt.det {h : Heap} {x : AV} {n m : Nat} {g f : Nat → BitVec 8} (hb : Byt h x n g) (hc : Byt h x m f) : n = m ∧ ∀ i, i < n → g i = f i := by
  have e : arr n g = arr m f := Option.some.inj (hb.1.symm.trans hc.1)
  have := arr_len_inj e
  subst this
  exact ⟨rfl, arr_inj.1 e⟩
theorem Byt.congr {h : Heap} {x : AV} {n : Nat} {g f : Nat → BitVec 8} (hb : Byt h x n g) (e : ∀ i, i < n → g i = f i) : Byt h x n f := ⟨by rw [hb.1, arr_congr e], hb.2⟩
theorem Byt.nil (h : Heap) (g : Nat → BitVec 8) : Byt h .nilslice 0 g := ⟨by simp [mElems, arr, bytes], rfl⟩
theorem mElems_slc {i ver : Nat} {path : List Nat} {off len : Nat} {cap : Option Nat} {h : Heap} : mElems (.int .u8) (.slice i ver path (.int .u8) off len cap) h = bnd (blkAt h i ver) fun b => bnd (b.v.get path) fun r => r.cut off len := by simp [mElems]

theorem cut_ints {r : AV} {off len n : Nat} {g : Nat → BitVec 8} (h : r.cut off len = some (arr n g)) : n = len ∧ ∀ i, i < n → r.get [off + i] = some (u8 (g i)) := by
  cases r <;> simp only [AV.cut] at h <;> try (cases h; done)
  case ints k xs =>
    split at h
    · rename_i hl
      simp only [Option.some.injEq, arr, bytes, AV.ints.injEq] at h
      obtain ⟨hk, hx⟩ := h
      have hn : n = len := by
        have := congrArg List.length hx
        simp at this; omega
      refine ⟨hn, fun i hi => ?_⟩
      have := congrArg (fun l => l[i]?) hx
      simp only [List.getElem?_take, List.getElem?_drop, List.map_map, if_pos (show i < len by omega)] at this
      simp only [AV.get, this, List.getElem?_map, List.getElem?_range hi, Option.map_some]
      rw [hk]; rfl
    · cases h
  case node vs =>
    split at h
    · simp [arr, bytes] at h
    · cases h

theorem Byt.idx {h : Heap} {x : AV} {n : Nat} {g : Nat → BitVec 8} (hb : Byt h x n g) {i : Nat} (hi : i < n) : ∃ p, mIdxS (.int .u8) x (nat i) = some p ∧ mLoad (.int .u8) p h = some (u8 (g i)) ∧ ∀ t, mLoad (.int .u8) p (h ++ t) = some (u8 (g i)) := by
  have key : ∀ b ver path off len cap, x = .slice b ver path (.int .u8) off len cap → len = n → ∃ p, mIdxS (.int .u8) x (nat i) = some p ∧ mLoad (.int .u8) p h = some (u8 (g i)) ∧ ∀ t, mLoad (.int .u8) p (h ++ t) = some (u8 (g i)) := by
    rintro b ver path off len cap rfl rfl
    obtain ⟨h1, h2⟩ := hb
    rw [mElems_slc] at h1
    obtain ⟨bb, e1, e2⟩ := bnd_eq_some.1 h1
    obtain ⟨r, e3, e4⟩ := bnd_eq_some.1 e2
    have hl : mLoad (.int .u8) (.ptr b ver (path ++ [off + i]) (.int .u8)) h = some (u8 (g i)) := by
      rw [mLoad_ptr, e1, bnd_some, get_append, e3, bnd_some]
      exact (cut_ints e4).2 i hi
    exact ⟨.ptr b ver (path ++ [off + i]) (.int .u8), by simp [mIdxS, hi], hl, fun t => mLoad_app hl t⟩
  have h2 := hb.2
  unfold slOk at h2
  split at h2
  · omega
  · obtain ⟨e1, _, e3⟩ := h2; subst e3; exact key _ _ _ _ _ _ rfl e1
  · obtain ⟨e1, _, e3⟩ := h2; subst e3; exact key _ _ _ _ _ _ rfl e1
  · cases h2

theorem Byt.sub {h : Heap} {b ver : Nat} {path : List Nat} {off len n : Nat} {cap : Option Nat} {g : Nat → BitVec 8} (hb : Byt h (.slice b ver path (.int .u8) off len cap) n g) {l k : Nat} (hk : l + k ≤ n) :
    mElems (.int .u8) (.slice b ver path (.int .u8) (off + l) k (cap.map (· - l))) h = some (arr k fun i => g (l + i)) := by
  have h1 := hb.1
  rw [mElems_slc] at h1 ⊢
  obtain ⟨bb, e1, e2⟩ := bnd_eq_some.1 h1
  obtain ⟨r, e3, e4⟩ := bnd_eq_some.1 e2
  rw [e1, bnd_some, e3, bnd_some]
  cases r <;> simp only [AV.cut] at e4 <;> try (cases e4; done)
  case ints q xs =>
    split at e4
    · rename_i hl
      have hn := (cut_ints (r := .ints q xs) (off := off) (len := len) (by simp only [AV.cut]; rw [if_pos hl]; exact e4)).1
      simp only [AV.cut]
      rw [if_pos (by omega)]
      simp only [Option.some.injEq, arr, bytes, AV.ints.injEq] at e4 ⊢
      refine ⟨e4.1, ?_⟩
      have := congrArg (fun z => (z.drop l).take k) e4.2
      simp only [List.drop_take, List.drop_drop, List.take_take] at this
      rw [show min k (len - l) = k by omega] at this
      rw [this]
      apply List.ext_getElem?
      intro i
      simp only [List.getElem?_take, List.getElem?_drop, List.getElem?_map]
      by_cases hi : i < k
      · rw [if_pos hi, List.getElem?_range hi, List.getElem?_range (by omega)]; rfl
      · rw [if_neg hi, List.getElem?_eq_none (l := List.range k) (by simpa using hi)]; rfl
    · cases e4
  case node vs =>
    split at e4
    · simp [arr, bytes] at e4
    · cases e4

theorem Byt.from {h : Heap} {x : AV} {n : Nat} {g : Nat → BitVec 8} (hb : Byt h x n g) {l : Nat} (hl : l ≤ n) : ∃ y, mSliceS (.int .u8) x (some (nat l)) none none = some y ∧ Byt h y (n - l) fun i => g (l + i) := by
  have h2 := hb.2
  unfold slOk at h2
  split at h2
  · subst h2
    have : l = 0 := by omega
    subst this
    exact ⟨.nilslice, by simp [mSliceS, optBound, mBound], Byt.nil _ _⟩
  · obtain ⟨e1, e2, e3⟩ := h2; subst e3; subst e1
    rename_i i ver p off len
    refine ⟨.slice i ver p (.int .u8) (off + l) (len - l) none, ?_, ⟨hb.sub (by omega), by show _ ∧ _ ∧ _; exact ⟨rfl, by omega, rfl⟩⟩⟩
    simp [mSliceS, optBound, mBound, hl]
  · obtain ⟨e1, e2, e3⟩ := h2; subst e3; subst e1
    rename_i i ver p off len c
    refine ⟨.slice i ver p (.int .u8) (off + l) (len - l) (some (c - l)), ?_, ⟨hb.sub (by omega), by show _ ∧ _ ∧ _; exact ⟨rfl, by omega, rfl⟩⟩⟩
    simp [mSliceS, optBound, mBound, hl]
  · cases h2

theorem Byt.upto {h : Heap} {x : AV} {n : Nat} {g : Nat → BitVec 8} (hb : Byt h x n g) {l : Nat} (hl : l ≤ n) : ∃ y, mSliceS (.int .u8) x none (some (nat l)) none = some y ∧ Byt h y l g := by
  have h2 := hb.2
  unfold slOk at h2
  split at h2
  · subst h2
    have : l = 0 := by omega
    subst this
    exact ⟨.nilslice, by simp [mSliceS, optBound, mBound], Byt.nil _ _⟩
  · obtain ⟨e1, e2, e3⟩ := h2; subst e3; subst e1
    rename_i i ver p off len
    refine ⟨.slice i ver p (.int .u8) off l none, ?_, ⟨by simpa using hb.sub (l := 0) (k := l) (by omega), by show _ ∧ _ ∧ _; exact ⟨rfl, by omega, rfl⟩⟩⟩
    simp [mSliceS, optBound, mBound, show l ≤ ver - off by omega]
  · obtain ⟨e1, e2, e3⟩ := h2; subst e3; subst e1
    rename_i i ver p off len c
    refine ⟨.slice i ver p (.int .u8) off l (some c), ?_, ⟨by simpa using hb.sub (l := 0) (k := l) (by omega), by show _ ∧ _ ∧ _; exact ⟨rfl, by omega, rfl⟩⟩⟩
    simp [mSliceS, optBound, mBound, show l ≤ c by omega]
  · cases h2

/-- A slice of an array of one's own. -/
@[simp] theorem mSliceA_all (n : Nat) (u : Ty) (b ver : Nat) (path : List Nat) : mSliceA (.arr n u) (.ptr b ver path (.arr n u)) none none none = some (.slice b ver path u 0 n (some n)) := by simp [mSliceA, optBound]
@[simp] theorem mSliceA_from (n : Nat) (u : Ty) (b ver : Nat) (path : List Nat) (l : Nat) : mSliceA (.arr n u) (.ptr b ver path (.arr n u)) (some (nat l)) none none = if l ≤ n then some (.slice b ver path u l (n - l) (some (n - l))) else none := by
  by_cases h : l ≤ n <;> simp [mSliceA, optBound, mBound, h]
@[simp] theorem mSliceA_upto (n : Nat) (u : Ty) (b ver : Nat) (path : List Nat) (k : Nat) : mSliceA (.arr n u) (.ptr b ver path (.arr n u)) none (some (nat k)) none = if k ≤ n then some (.slice b ver path u 0 k (some n)) else none := by
  by_cases h : k ≤ n <;> simp [mSliceA, optBound, mBound, h]

theorem mCopy_own {h : Heap} {x : AV} {n m : Nat} {g f : Nat → BitVec 8} {i ver off len : Nat} {cap : Option Nat} {b : Blk} (hx : mElems (.int .u8) x h = some (arr n g)) (hb : blkAt h i ver = some b) (hv : b.v = arr m f) (hm : b.mode ≠ .ro) (hl : off + len ≤ m) :
    mCopy (.int .u8) (.slice i ver [] (.int .u8) off len cap) x h = some (nat (min n len), h.set i { b with v := arr m fun j => if off ≤ j ∧ j < off + min n len then g (j - off) else f j }) := by
  simp only [mCopy, hx, bnd_some, arr_rowLen, Ty.beq_self, if_true, hb, if_neg hm, hv, get_nil, arr_splice, put_nil]
  rw [if_pos ⟨by omega, by omega⟩]
  rfl

/-- Bytes as a string. -/
def strOf (n : Nat) (g : Nat → BitVec 8) : ByteArray := ⟨((List.range n).map fun i => UInt8.ofNat (g i).toNat).toArray⟩
theorem strOf_congr {n : Nat} {g f : Nat → BitVec 8} (h : ∀ i, i < n → g i = f i) : strOf n g = strOf n f := by
  unfold strOf
  congr 2
  exact List.map_congr_left fun i hi => by rw [h i (List.mem_range.1 hi)]
theorem Byt.str {h : Heap} {x : AV} {n : Nat} {g : Nat → BitVec 8} (hb : Byt h x n g) : mStr x h = some (.str (strOf n g)) := by
  have key : ∀ y : AV, (∀ s, y ≠ .str s) → mElems (.int .u8) y h = some (arr n g) → mStr y h = some (.str (strOf n g)) := by
    intro y hy he
    unfold mStr
    split
    · exact absurd rfl (hy _)
    · rw [he]
      simp only [bnd_some, arr, bytes, strOf, List.map_map]
      congr 5
  refine key x ?_ hb.1
  intro s e
  have h2 := hb.2
  rw [e] at h2
  exact h2
theorem Byt.strT {h : Heap} {x : AV} {n : Nat} {g : Nat → BitVec 8} (hb : Byt h x n g) (t : Heap) : mStr x (h ++ t) = some (.str (strOf n g)) := (hb.app t).str
theorem strOf_inj {n m : Nat} {g f : Nat → BitVec 8} (h : strOf n g = strOf m f) : n = m ∧ ∀ i, i < n → g i = f i := by
  unfold strOf at h
  have h1 : (List.range n).map (fun i => UInt8.ofNat (g i).toNat) = (List.range m).map fun i => UInt8.ofNat (f i).toNat := by
    have := congrArg ByteArray.data h
    simpa using this
  have hn : n = m := by simpa using congrArg List.length h1
  subst hn
  refine ⟨rfl, fun i hi => ?_⟩
  have := congrArg (fun l => l[i]?) h1
  rw [range_map_getD, range_map_getD, if_pos hi, if_pos hi, Option.some.injEq] at this
  have h3 := congrArg UInt8.toNat this
  have q : ∀ x : BitVec 8, (UInt8.ofNat x.toNat).toNat = x.toNat := fun x => by simp
  rw [q, q] at h3
  exact BitVec.eq_of_toNat_eq h3

/-! Memory of which one block is kept. -/
def Gh.pull (E : Gh) (n j : Nat) : Gh where
  n := n + 1
  blk i := if i = n then E.blk j else E.blk i
  base i := if i = n then E.base j else E.base i
  room i := if i = n then E.room j else E.room i
  ver i := if i = n then E.ver j else E.ver i
  many i := if i = n then E.many j else E.many i
  ty i := if i = n then E.ty j else E.ty i

theorem Gh.pull_ext (E : Gh) (n j : Nat) : Ext (E.cut n) (E.pull n j) := by
  have ne : ∀ i, i < n → i ≠ n := fun i hi => by omega
  refine ⟨Nat.le_succ _, fun i hi => ?_, fun i hi => ?_, fun i hi => ?_, fun i hi _ => ?_⟩
  · simp only [Gh.pull, if_neg (ne i hi)]; exact Nat.le_refl _
  · simp only [Gh.pull, if_neg (ne i hi)]; rfl
  · simp only [Gh.pull, if_neg (ne i hi)]; rfl
  · simp only [Gh.pull, if_neg (ne i hi)]; exact ⟨rfl, rfl, rfl⟩

theorem Moves.pull {E E' : Gh} {h t : Heap} {w w' : World} {j : Nat} {b : Blk} (R : RelHeap E h w) (m : Moves E h w E' (h ++ t) w') (hj : t[j]? = some b) (hb : ∃ k xs, b.v = .ints k xs) :
    Moves E h w (E'.pull h.length (h.length + j)) (h ++ [b]) w' := by
  have get : ∀ i c, h[i]? = some c → (h ++ t)[i]? = some c := fun i c hi => by
    rw [List.getElem?_append_left (List.getElem?_eq_some_iff.1 hi).1]; exact hi
  have getb : (h ++ t)[h.length + j]? = some b := by rw [List.getElem?_append_right (by omega)]; simpa using hj
  have spl : ∀ i c, (h ++ [b])[i]? = some c → (i < h.length ∧ h[i]? = some c) ∨ (i = h.length ∧ c = b) := by
    intro i c hi
    rw [List.getElem?_append] at hi
    split at hi
    · exact .inl ⟨by assumption, hi⟩
    · right
      have hl := (List.getElem?_eq_some_iff.1 hi).1
      simp at hl
      have : i = h.length := by omega
      subst this
      simp at hi
      exact ⟨rfl, hi.symm⟩
  have src : ∀ i c, (h ++ [b])[i]? = some c → ∃ i', (h ++ t)[i']? = some c ∧ (E'.pull h.length (h.length + j)).blk i = E'.blk i' ∧ (E'.pull h.length (h.length + j)).room i = E'.room i' ∧ ((i < h.length ∧ i' = i) ∨ (i = h.length ∧ i' = h.length + j)) := by
    intro i c hi
    rcases spl i c hi with ⟨h1, h2⟩ | ⟨h1, h2⟩
    · exact ⟨i, get i c h2, by simp [Gh.pull, show i ≠ h.length by omega], by simp [Gh.pull, show i ≠ h.length by omega], .inl ⟨h1, rfl⟩⟩
    · subst h1; subst h2
      exact ⟨h.length + j, getb, by simp [Gh.pull], by simp [Gh.pull], .inr ⟨rfl, rfl⟩⟩
  refine ⟨⟨?_, fun i hi => ?_, fun i hi => ?_, fun i hi => ?_, fun i hi he => ?_⟩, ⟨?_, fun i c hi => ?_, fun i k c d hi hk hp ho he => ?_⟩, m.size, m.keep, fun x hx => ?_, m.io⟩
  · show E.n ≤ h.length + 1; rw [R.n]; omega
  · rw [R.n] at hi; simp only [Gh.pull, if_neg (show i ≠ h.length by omega)]; exact m.ext.ver i (by rw [R.n]; exact hi)
  · rw [R.n] at hi; simp only [Gh.pull, if_neg (show i ≠ h.length by omega)]; exact m.ext.many i (by rw [R.n]; exact hi)
  · rw [R.n] at hi; simp only [Gh.pull, if_neg (show i ≠ h.length by omega)]; exact m.ext.ty i (by rw [R.n]; exact hi)
  · have hi' := hi
    rw [R.n] at hi
    simp only [Gh.pull, if_neg (show i ≠ h.length by omega)] at he ⊢
    exact m.ext.same i hi' he
  · simp [Gh.pull]
  · rcases spl i c hi with ⟨h1, h2⟩ | ⟨h1, h2⟩
    · have ne : i ≠ h.length := by omega
      have q := m.rel.at_ i c (get i c h2)
      obtain ⟨l, b1, b2, b3⟩ := q.body
      have hu : c.v.under h.length = true := by
        obtain ⟨l', g1, _⟩ := (R.at_ i c h2).body
        have := VRl.under _ _ g1
        rw [R.n] at this; exact this
      refine ⟨by simp only [Gh.pull, if_neg ne]; exact q.ver, ?_, ⟨l, VRl.mono (Gh.pull_ext _ _ _) _ _ (VRl.cut _ _ hu b1), ?_, ?_⟩, ?_⟩
      · have := q.fits; unfold Fits at this ⊢; simp only [Gh.pull, if_neg ne]; exact this
      · have := b2; unfold Placed at this ⊢; simp only [Gh.pull, if_neg ne]; exact this
      · have := b3; unfold Placed at this ⊢; simp only [Gh.pull, if_neg ne]; exact this
      · simp only [Gh.pull, if_neg ne]; exact q.grow
    · subst h1; subst h2
      have q := m.rel.at_ _ _ getb
      obtain ⟨l, b1, b2, b3⟩ := q.body
      obtain ⟨k, xs, hv⟩ := hb
      refine ⟨by simp only [Gh.pull, if_true]; exact q.ver, ?_, ⟨l, ?_, ?_, ?_⟩, ?_⟩
      · have := q.fits; unfold Fits at this ⊢; simp only [Gh.pull, if_true]; exact this
      · rw [hv] at b1 ⊢; simpa only [VRl] using b1
      · have := b2; unfold Placed at this ⊢; simp only [Gh.pull, if_true]; exact this
      · have := b3; unfold Placed at this ⊢; simp only [Gh.pull, if_true]; exact this
      · simp only [Gh.pull, if_true]; exact q.grow
  · obtain ⟨i', a1, a2, a3, a4⟩ := src i c hi
    obtain ⟨k', c1, c2, c3, c4⟩ := src k d hk
    have hp' : Placed E' i' c := by unfold Placed at hp ⊢; rw [← a3]; exact hp
    have ho' : Own E' k' d := ⟨ho.1, by have := ho.2; unfold Placed at this ⊢; rw [← c3]; exact this⟩
    have := m.rel.inj i' k' c d a1 c1 hp' ho' (by rw [← a2, ← c2]; exact he)
    rcases a4 with ⟨a5, a6⟩ | ⟨a5, a6⟩ <;> rcases c4 with ⟨c5, c6⟩ | ⟨c5, c6⟩ <;> omega
  · obtain ⟨i, c, hi, ho, he⟩ := hx
    obtain ⟨i', a1, a2, a3, a4⟩ := src i c hi
    exact m.img x ⟨i', c, a1, ⟨ho.1, by have := ho.2; unfold Placed at this ⊢; rw [← a3]; exact this⟩, by rw [← a2]; exact he⟩

theorem SlcAt.pull {E : Gh} {n j ver : Nat} {path : List Nat} {t : Ty} {off len : Nat} {cap : Option Nat} {a : Addr} {c : Nat} (h : SlcAt E j ver path t off len cap a c) : SlcAt (E.pull n j) n ver path t off len cap a c := by
  obtain ⟨_, h2, h3, h4, h5, h6⟩ := h
  refine ⟨Nat.lt_succ_self _, by simp only [Gh.pull, if_true]; exact h2, h3, h4, h5, fun hv => ?_⟩
  simp only [Gh.pull, if_true] at hv ⊢
  exact h6 hv

section
variable {P : Program} {f : Nat} {args : List AV} {h : Heap} {ver : Nat} {path : List Nat} {ty : Ty} {off len : Nat} {cap : Option Nat}
theorem Spec.pull (t : Heap) (j : Nat) (b : Blk) (hs : Spec P f args h (.slice (h.length + j) ver path ty off len cap) (h ++ t)) (hj : t[j]? = some b) (hb : ∃ k xs, b.v = .ints k xs) :
    Spec P f args h (.slice h.length ver path ty off len cap) (h ++ [b]) := by
  intro E w xs R hxs
  refine (hs E w xs R hxs).mono fun e w' hp => ?_
  obtain ⟨E', x, rfl, h1, h2⟩ := hp
  refine ⟨E'.pull h.length (h.length + j), x, rfl, ?_, h2.pull R hj hb⟩
  simp only [VRel] at h1 ⊢
  obtain ⟨a, c, e, hp⟩ := h1
  exact ⟨a, c, e, hp.pull⟩
theorem Spec.pullT (t : Heap) (j : Nat) (b : Blk) {k : IntKind} {n : Int} (hs : Spec P f args h (.tuple [.slice (h.length + j) ver path ty off len cap, .int k n]) (h ++ t)) (hj : t[j]? = some b) (hb : ∃ k xs, b.v = .ints k xs) :
    Spec P f args h (.tuple [.slice h.length ver path ty off len cap, .int k n]) (h ++ [b]) := by
  intro E w xs R hxs
  refine (hs E w xs R hxs).mono fun e w' hp => ?_
  obtain ⟨E', x, rfl, h1, h2⟩ := hp
  refine ⟨E'.pull h.length (h.length + j), x, rfl, ?_, h2.pull R hj hb⟩
  simp only [VRel, VRc] at h1 ⊢
  obtain ⟨ys, e, y1, ys1, e1, ⟨a, c, e2, hp⟩, y2, ys2, e3, e4, e5⟩ := h1
  exact ⟨ys, e, y1, ys1, e1, ⟨a, c, e2, hp.pull⟩, y2, ys2, e3, e4, e5⟩
end

/-- A contract whose arguments say what lies in memory. -/
theorem conC_eqP {α : Type} {enc : α → List AV} {P : α → Heap → Prop} {f : α → Heap → AV × Heap} (inj : ∀ a b h, P a h → P b h → enc a = enc b → f a h = f b h) {a : α} {h : Heap} (hp : P a h) : conC enc P f (enc a) h = some (f a h) := by
  have hx : ∃ b, enc b = enc a ∧ P b h := ⟨a, rfl, hp⟩
  unfold conC
  rw [dif_pos hx]
  congr 1
  exact inj _ _ h hx.choose_spec.2 hp hx.choose_spec.1

end Go.Vab

/- How the evaluator reads the functions of a seat. Printed by wip/tools/gen.py (own work). -/
namespace Go.Vab
open Go Go.Proofs
noncomputable section
variable (call : Calling) (env : Env) (h : Heap) (s : St)
/-! vestry/siv.Keys -/
def cx34 (call : Calling) : Ctx := ⟨call, TT, 36, [10, 11, 12, 13, 14, 15, 16, 17, 18, 19, 20, 22, 23, 24, 25, 26, 27, 28, 29, 30, 31, 32, 33, 34, 35]⟩
def n34_0 : Code := bodyOf Try.f34
def n34_1 : Code := cR n34_0
def n34_2 : Code := cL n34_1
def n34_3 : Code := cR n34_2
def n34_4 : Code := cB n34_3
def n34_5 : Code := cB n34_4
def n34_6 : Code := cR n34_5
def n34_7 : Code := cL n34_6
def n34_8 : Code := cL n34_7
def n34_9 : Code := cR n34_7
def n34_10 : Code := cR n34_6
def n34_11 : Code := cL n34_10
def n34_12 : Code := cB n34_11
def n34_13 : Code := cR n34_12
def n34_14 : Code := cR n34_13
def n34_15 : Code := cR n34_14
def n34_16 : Code := cR n34_15
def n34_17 : Code := cR n34_16
def n34_18 : Code := cR n34_17
def n34_19 : Code := cL n34_18
def n34_20 : Code := cR n34_18
def n34_21 : Code := cR n34_10
def n34_22 : Code := cR n34_1
def n34_23 : Code := cR n34_22
@[simp] theorem n34_8_eq : evC (cx34 call) n34_8 s = some (.nrm, s) := xK
@[simp] theorem n34_9_eq : evC (cx34 call) n34_9 s = some (.exit 0, s) := xX 0
@[simp] theorem n34_7_eq : evC (cx34 call) n34_7 s = cnd (s.env.get 9) (evC (cx34 call) n34_8 s) (evC (cx34 call) n34_9 s) := xC 9 _ _
theorem n34_19_ok : drawOk (cOps n34_19).toList = true := by kernel_rfl
@[simp] theorem n34_19_eq : evC (cx34 call) n34_19 ⟨env, h⟩ = (bnd (pureV h (mBin .mul (nat 8) (env.get 6))) fun r1 => bnd (pureV r1.2 (mSliceA (.arr 16 (.int .u8)) (env.get 4) (some r1.1) none none)) fun r2 => bnd (pureV r2.2 (mSliceA (.arr 16 (.int .u8)) (env.get 7) none (some (nat 8)) none)) fun r3 => bnd (mCopy (.int .u8) r2.1 r3.1 r3.2) fun r4 => some (.nrm, ⟨env, r4.2⟩)) := (xD 9 (cOps n34_19) n34_19_ok).trans (by
  refine opsK_0 ?_
  refine oT 22 (env.get 6) ?_
  refine oP 23 fun r1 => ?_
  refine oP 24 fun r2 => ?_
  refine oP 25 fun r3 => ?_
  refine oP 26 fun r4 => ?_
  exact oE)
theorem n34_20_ok : drawOk (cOps n34_20).toList = true := by kernel_rfl
@[simp] theorem n34_20_eq : evC (cx34 call) n34_20 ⟨env, h⟩ = (bnd (pureV h (mBin .sub (env.get 6) (nat 2))) fun r1 => bnd (pureV r1.2 (mBin .mul (nat 8) r1.1)) fun r2 => bnd (pureV r2.2 (mSliceA (.arr 32 (.int .u8)) (env.get 5) (some r2.1) none none)) fun r3 => bnd (pureV r3.2 (mSliceA (.arr 16 (.int .u8)) (env.get 7) none (some (nat 8)) none)) fun r4 => bnd (mCopy (.int .u8) r3.1 r4.1 r4.2) fun r5 => some (.nrm, ⟨env, r5.2⟩)) := (xD 10 (cOps n34_20) n34_20_ok).trans (by
  refine opsK_0 ?_
  refine oT 27 (env.get 6) ?_
  refine oP 28 fun r1 => ?_
  refine oP 29 fun r2 => ?_
  refine oP 30 fun r3 => ?_
  refine oP 31 fun r4 => ?_
  refine oP 32 fun r5 => ?_
  exact oE)
@[simp] theorem n34_18_eq : evC (cx34 call) n34_18 s = cnd (s.env.get 21) (evC (cx34 call) n34_19 s) (evC (cx34 call) n34_20 s) := xC 21 _ _
@[simp] theorem n34_17_eq : evC (cx34 call) n34_17 ⟨env, h⟩ = (bnd (pureV h (mBin .lss (env.get 6) (nat 2))) fun r1 => evC (cx34 call) n34_18 ⟨(Env.put env 21 r1.1), r1.2⟩) := (xSR 8 (cOps (cL n34_17)) (cR n34_17)).trans (by
  refine opsK_0 ?_
  refine oT 20 (env.get 6) ?_
  refine oP 21 fun r1 => ?_
  exact oE)
@[simp] theorem n34_16_eq : evC (cx34 call) n34_16 ⟨env, h⟩ = (bnd (pureV h (mLoad (.arr 32 (.int .u8)) (env.get 2) h)) fun r0 => bnd (pureV r0.2 (mLoad (.arr 16 (.int .u8)) (env.get 7) r0.2)) fun r1 => bnd (call 19 [r0.1, r1.1] r1.2) fun r2 => bnd (stU (.arr 16 (.int .u8)) (env.get 7) r2.1 r2.2) fun r3 => evC (cx34 call) n34_17 ⟨env, r3.2⟩) := (xSR 7 (cOps (cL n34_16)) (cR n34_16)).trans (by
  refine opsK_0 ?_
  refine oP 17 fun r0 => ?_
  refine oP 18 fun r1 => ?_
  refine oP 19 fun r2 => ?_
  refine oN fun r3 => ?_
  exact oE)
theorem n34_15_ok : drawOk (cOps (cL n34_15)).toList = true := by kernel_rfl
@[simp] theorem n34_15_eq : evC (cx34 call) n34_15 ⟨env, h⟩ = (bnd (pureV h (mSliceA (.arr 16 (.int .u8)) (env.get 7) (some (nat 4)) none none)) fun r0 => bnd (pureV r0.2 (mSliceA (.arr 12 (.int .u8)) (env.get 3) none none none)) fun r1 => bnd (mCopy (.int .u8) r0.1 r1.1 r1.2) fun r2 => evC (cx34 call) n34_16 ⟨env, r2.2⟩) := (xSD 6 (cOps (cL n34_15)) (cR n34_15) n34_15_ok).trans (by
  refine opsK_0 ?_
  refine oP 14 fun r0 => ?_
  refine oP 15 fun r1 => ?_
  refine oP 16 fun r2 => ?_
  exact oE)
@[simp] theorem n34_14_eq : evC (cx34 call) n34_14 ⟨env, h⟩ = (bnd (pureV h (mConv .u8 (env.get 6))) fun r1 => bnd (pureV r1.2 (mIdxA (.arr 16 (.int .u8)) (env.get 7) (nat 0))) fun r2 => bnd (stU (.int .u8) r2.1 r1.1 r2.2) fun r3 => evC (cx34 call) n34_15 ⟨env, r3.2⟩) := (xSR 5 (cOps (cL n34_14)) (cR n34_14)).trans (by
  refine opsK_0 ?_
  refine oT 11 (env.get 6) ?_
  refine oP 12 fun r1 => ?_
  refine oP 13 fun r2 => ?_
  refine oN fun r3 => ?_
  exact oE)
@[simp] theorem n34_13_eq : evC (cx34 call) n34_13 ⟨env, h⟩ = (bnd (mNew (.arr 16 (.int .u8)) (arr 16 fun _ => 0#8) h) fun r0 => evC (cx34 call) n34_14 ⟨(Env.put env 7 r0.1), r0.2⟩) := (xSR 4 (cOps (cL n34_13)) (cR n34_13)).trans (by
  refine opsK_0 ?_
  refine oP 7 fun r0 => ?_
  exact oE)
@[simp] theorem n34_12_eq : evC (cx34 call) n34_12 ⟨env, h⟩ = ( evC (cx34 call) n34_13 ⟨(Env.put env 6 (env.get 8)), h⟩) := (xSR 3 (cOps (cL n34_12)) (cR n34_12)).trans (by
  refine opsK_0 ?_
  refine oT 10 (env.get 8) ?_
  refine oT 6 (env.get 8) ?_
  exact oE)
@[simp] theorem n34_11_eq : evC (cx34 call) n34_11 s = bnd (evC (cx34 call) n34_12 s) fun r => some (inBlk 1 r) := xB 1 _
@[simp] theorem n34_21_eq : evC (cx34 call) n34_21 ⟨env, h⟩ = (bnd (pureV h (mBin .add (env.get 8) (nat 1))) fun r0 => some (.nrm, ⟨(Env.put env 8 r0.1), r0.2⟩)) := (xR 11 (cOps n34_21)).trans (by
  refine opsK_0 ?_
  refine oP 33 fun r0 => ?_
  refine oT 8 r0.1 ?_
  exact oE)
@[simp] theorem n34_10_eq : evC (cx34 call) n34_10 s = bnd (evC (cx34 call) n34_11 s) (sqK (evC (cx34 call) n34_21)) := xS _ _
@[simp] theorem n34_6_eq : evC (cx34 call) n34_6 s = bnd (evC (cx34 call) n34_7 s) (sqK (evC (cx34 call) n34_10)) := xS _ _
@[simp] theorem n34_5_eq : evC (cx34 call) n34_5 ⟨env, h⟩ = (bnd (pureV h (mBin .lss (env.get 8) (nat 6))) fun r0 => evC (cx34 call) n34_6 ⟨(Env.put env 9 r0.1), r0.2⟩) := (xSR 2 (cOps (cL n34_5)) (cR n34_5)).trans (by
  refine opsK_0 ?_
  refine oP 9 fun r0 => ?_
  exact oE)
@[simp] theorem n34_4_eq : evC (cx34 call) n34_4 s = evLoop (evC (cx34 call) n34_5) s := xL _
@[simp] theorem n34_3_eq : evC (cx34 call) n34_3 s = bnd (evC (cx34 call) n34_4 s) fun r => some (inBlk 0 r) := xB 0 _
@[simp] theorem n34_2_eq : evC (cx34 call) n34_2 ⟨env, h⟩ = ( evC (cx34 call) n34_3 ⟨(Env.put env 8 (nat 0)), h⟩) := (xSR 1 (cOps (cL n34_2)) (cR n34_2)).trans (by
  refine opsK_0 ?_
  refine oT 8 (nat 0) ?_
  exact oE)
@[simp] theorem n34_23_eq : evC (cx34 call) n34_23 s = some (.ret, s) := xE
@[simp] theorem n34_22_eq : evC (cx34 call) n34_22 ⟨env, h⟩ = (bnd (pureV h (mLoad (.arr 16 (.int .u8)) (env.get 4) h)) fun r0 => bnd (pureV r0.2 (mLoad (.arr 32 (.int .u8)) (env.get 5) r0.2)) fun r1 => bnd (stU (.arr 16 (.int .u8)) (env.get 4) r0.1 r1.2) fun r2 => bnd (stU (.arr 32 (.int .u8)) (env.get 5) r1.1 r2.2) fun r3 => evC (cx34 call) n34_23 ⟨env, r3.2⟩) := (xSR 12 (cOps (cL n34_22)) (cR n34_22)).trans (by
  refine opsK_0 ?_
  refine oP 34 fun r0 => ?_
  refine oP 35 fun r1 => ?_
  refine oN fun r2 => ?_
  refine oN fun r3 => ?_
  exact oE)
@[simp] theorem n34_1_eq : evC (cx34 call) n34_1 s = bnd (evC (cx34 call) n34_2 s) (sqK (evC (cx34 call) n34_22)) := xS _ _
@[simp] theorem n34_0_eq : evC (cx34 call) n34_0 ⟨env, h⟩ = (bnd (mNew (.arr 32 (.int .u8)) (env.get 0) h) fun r0 => bnd (mNew (.arr 12 (.int .u8)) (env.get 1) r0.2) fun r1 => bnd (mNew (.arr 16 (.int .u8)) (arr 16 fun _ => 0#8) r1.2) fun r2 => bnd (mNew (.arr 32 (.int .u8)) (arr 32 fun _ => 0#8) r2.2) fun r3 => evC (cx34 call) n34_1 ⟨(Env.put (Env.put (Env.put (Env.put env 2 r0.1) 3 r1.1) 4 r2.1) 5 r3.1), r3.2⟩) := (xSR 0 (cOps (cL n34_0)) (cR n34_0)).trans (by
  refine opsK_0 ?_
  refine oP 2 fun r0 => ?_
  refine oP 3 fun r1 => ?_
  refine oP 4 fun r2 => ?_
  refine oP 5 fun r3 => ?_
  exact oE)
theorem b34 (call : Calling) (a0 a1 : AV) (h : Heap) : evBody (cx34 call) Try.f34 n34_0 [a0, a1] h = bnd (evC (cx34 call) n34_0 ⟨[(0, a0), (1, a1), (2, .junk), (3, .junk), (4, .junk), (5, .junk), (6, .junk), (7, .junk), (8, .junk), (9, .junk), (21, .junk)], h⟩) (retK fun s => bnd (bnd (mLoad (.arr 16 (.int .u8)) (s.env.get 4) s.heap) fun v => bnd (bnd (mLoad (.arr 32 (.int .u8)) (s.env.get 5) s.heap) fun v => bnd (some []) fun vs => some (v :: vs)) fun vs => some (v :: vs)) fun vs => some (oneOrTuple vs)) := by kernel_rfl
theorem fn34 : Try.prog.funcs[34]? = some Try.f34 := by kernel_rfl
theorem k34 : Callable Try.prog 34 := ⟨Try.f34, fn34, by kernel_rfl, by kernel_rfl⟩
theorem s34 {call : Calling} (hc : CallOK Try.prog call) {args : List AV} {h h' : Heap} {v : AV} (he : evBody (cx34 call) Try.f34 n34_0 args h = some (v, h')) : Spec Try.prog 34 args h v h' := body_sound (C := cx34 call) TT_ok hc mixed_ok fn34 (by kernel_rfl) (by kernel_rfl) he
def sn34 := Y n34_8_eq (Y n34_9_eq (Y n34_7_eq (Y n34_19_eq (Y n34_20_eq (Y n34_18_eq (Y n34_17_eq (Y n34_16_eq (Y n34_15_eq (Y n34_14_eq (Y n34_13_eq (Y n34_12_eq (Y n34_11_eq (Y n34_21_eq (Y n34_10_eq (Y n34_6_eq (Y n34_5_eq (Y n34_4_eq (Y n34_3_eq (Y n34_2_eq (Y n34_23_eq (Y n34_22_eq (Y n34_1_eq (n34_0_eq)))))))))))))))))))))))
end
end Go.Vab

/-
  The keys of a message, walked.
-/
namespace Go.Vab
open Go Go.Proofs

@[simp] theorem mCopy_slc (i ver : Nat) (path : List Nat) (off len : Nat) (cap : Option Nat) (x : AV) (h : Heap) : mCopy (.int .u8) (.slice i ver path (.int .u8) off len cap) x h = bnd (mElems (.int .u8) x h) fun new => bnd new.rowLen fun n => bnd (blkAt h i ver) fun b => if b.mode = .ro then none else bnd (b.v.get path) fun r => bnd (r.splice off (min n len) new) fun r' => bnd (b.v.put path r') fun v' => some (nat (min n len), h.set i { b with v := v' }) := by
  simp only [mCopy, Ty.beq_self, if_true]
  rfl
attribute [simp] mElems_slc

def kblk (nonce : Nat → BitVec 8) (i : Nat) : Nat → BitVec 8 := fun j => if 4 ≤ j ∧ j < 16 then nonce (j - 4) else upd (fun _ => 0#8) 0 (BitVec.ofNat 8 i) j
def kF (key nonce : Nat → BitVec 8) (i : Nat) : Nat → BitVec 8 := encF (wd key) (kblk nonce i)
def keyA (key nonce : Nat → BitVec 8) : Nat → BitVec 8 := fun j => kF key nonce (j / 8) (j % 8)
def keyE (key nonce : Nat → BitVec 8) : Nat → BitVec 8 := fun j => kF key nonce (2 + j / 8) (j % 8)

theorem kblk_congr {n n' : Nat → BitVec 8} (h : ∀ i, i < 12 → n i = n' i) (i : Nat) : ∀ j, j < 16 → kblk n i j = kblk n' i j := by
  intro j hj
  unfold kblk
  split
  · exact h _ (by omega)
  · rfl
theorem kF_congr {k k' n n' : Nat → BitVec 8} (hk : ∀ i, i < 32 → k i = k' i) (hn : ∀ i, i < 12 → n i = n' i) (i : Nat) : ∀ j, j < 16 → kF k n i j = kF k' n' i j :=
  encF_congr (fun i _ p hp => wd_congr hk i p hp) (kblk_congr hn i)
theorem keyA_congr {k k' n n' : Nat → BitVec 8} (hk : ∀ i, i < 32 → k i = k' i) (hn : ∀ i, i < 12 → n i = n' i) : ∀ j, j < 16 → keyA k n j = keyA k' n' j := fun j _ => kF_congr hk hn _ _ (by omega)
theorem keyE_congr {k k' n n' : Nat → BitVec 8} (hk : ∀ i, i < 32 → k i = k' i) (hn : ∀ i, i < 12 → n i = n' i) : ∀ j, j < 32 → keyE k n j = keyE k' n' j := fun j _ => kF_congr hk hn _ _ (by omega)

def H34 (h : Heap) (key nonce a e : Nat → BitVec 8) (tr : Heap) : Heap := h ++ (⟨arr 32 key, 0, .own⟩ :: ⟨arr 12 nonce, 0, .own⟩ :: ⟨arr 16 a, 0, .own⟩ :: ⟨arr 32 e, 0, .own⟩ :: tr)

theorem walk34 (h : Heap) (key nonce : Nat → BitVec 8) : ∃ t, evBody (cx34 callS10) Try.f34 n34_0 [arr 32 key, arr 12 nonce] h = some (.tuple [arr 16 (keyA key nonce), arr 32 (keyE key nonce)], h ++ t) := by
  rw [b34]
  have main : Evs (evC (cx34 callS10) n34_0 ⟨[(0, arr 32 key), (1, arr 12 nonce), (2, .junk), (3, .junk), (4, .junk), (5, .junk), (6, .junk), (7, .junk), (8, .junk), (9, .junk), (21, .junk)], h⟩) (fun r => ∃ env t, r = (.ret, ⟨env, h ++ t⟩) ∧ mLoad (.arr 16 (.int .u8)) (env.get 4) (h ++ t) = some (arr 16 (keyA key nonce)) ∧ mLoad (.arr 32 (.int .u8)) (env.get 5) (h ++ t) = some (arr 32 (keyE key nonce))) := by
    obtain ⟨env, he⟩ : ∃ env : Env, env = [(0, arr 32 key), (1, arr 12 nonce), (2, .junk), (3, .junk), (4, .junk), (5, .junk), (6, .junk), (7, .junk), (8, .junk), (9, .junk), (21, .junk)] := ⟨_, rfl⟩
    rw [← he]
    have g0 : env.get 0 = arr 32 key := by rw [he]; rfl
    have g1 : env.get 1 = arr 12 nonce := by rw [he]; rfl
    clear he
    repeat (first | (with_reducible refine Evs.assoc ?_) | ((with_reducible refine Evs.some_bnd ?_); try dsimp only [sqK_nrm, sqK_exit, sqK_ret]) | ((with_reducible apply Evs.bcndT); (focus (simp (disch := omega) [g0, g1] <;> omega))) | ((with_reducible apply Evs.bcndF); (focus (simp (disch := omega) [g0, g1] <;> omega))) | ((with_reducible apply Evs.step); (focus ((conv => lhs; simp (disch := omega) [g0, g1]); done)); try dsimp only) | (simp only [sn34, snB]))
    refine Evs.bnd (Q := fun r => ∃ env' tr a e, r = (.exit 0, ⟨env', H34 h key nonce a e tr⟩) ∧ env'.get 4 = .ptr (h.length + 2) 0 [] (.arr 16 (.int .u8)) ∧ env'.get 5 = .ptr (h.length + 3) 0 [] (.arr 32 (.int .u8)) ∧ (∀ j, j < 16 → a j = keyA key nonce j) ∧ (∀ j, j < 32 → e j = keyE key nonce j)) ?_ ?_
    · refine Evs.up 6 (fun i s => ∃ env' tr a e, s = ⟨env', H34 h key nonce a e tr⟩ ∧ env'.get 2 = .ptr h.length 0 [] (.arr 32 (.int .u8)) ∧ env'.get 3 = .ptr (h.length + 1) 0 [] (.arr 12 (.int .u8)) ∧ env'.get 4 = .ptr (h.length + 2) 0 [] (.arr 16 (.int .u8)) ∧ env'.get 5 = .ptr (h.length + 3) 0 [] (.arr 32 (.int .u8)) ∧ env'.get 8 = nat i ∧ (∀ j, j < 16 → j < 8 * i → a j = keyA key nonce j) ∧ (∀ j, j < 32 → j + 16 < 8 * i → e j = keyE key nonce j)) ?_ ?_
        ⟨_, [], _, _, rfl, by simp, by simp, by simp, by simp, by simp, fun j _ hj => absurd hj (by omega), fun j _ hj => absurd hj (by omega)⟩
      · rintro i s hi ⟨env', tr, a, e, rfl, e2, e3, e4, e5, e8, ha, he⟩
        unfold H34
        by_cases h2 : i < 2
        · repeat (first | (with_reducible refine Evs.assoc ?_) | ((with_reducible refine Evs.some_bnd ?_); try dsimp only [sqK_nrm, sqK_exit, sqK_ret]) | ((with_reducible apply Evs.bcndT); (focus (simp (disch := omega) [e2, e3, e4, e5, e8] <;> omega))) | ((with_reducible apply Evs.bcndF); (focus (simp (disch := omega) [e2, e3, e4, e5, e8] <;> omega))) | ((with_reducible apply Evs.step); (focus ((conv => lhs; simp (disch := omega) [e2, e3, e4, e5, e8]); done)); try dsimp only) | (simp only [sn34, snB]))
          refine Evs.ret ⟨rfl, _, _, _, _, rfl, by simp [e2], by simp [e3], by simp [e4], by simp [e5], by simp, fun j hj hlt => ?_, fun j hj hlt => ?_⟩
          · split
            · rename_i hc
              have q1 : j / 8 = i := by omega
              have q2 : j % 8 = j - 8 * i := by omega
              unfold keyA
              rw [q1, q2]; rfl
            · exact ha j hj (by omega)
          · omega
        · repeat (first | (with_reducible refine Evs.assoc ?_) | ((with_reducible refine Evs.some_bnd ?_); try dsimp only [sqK_nrm, sqK_exit, sqK_ret]) | ((with_reducible apply Evs.bcndT); (focus (simp (disch := omega) [e2, e3, e4, e5, e8] <;> omega))) | ((with_reducible apply Evs.bcndF); (focus (simp (disch := omega) [e2, e3, e4, e5, e8] <;> omega))) | ((with_reducible apply Evs.step); (focus ((conv => lhs; simp (disch := omega) [e2, e3, e4, e5, e8]); done)); try dsimp only) | (simp only [sn34, snB]))
          refine Evs.ret ⟨rfl, _, _, _, _, rfl, by simp [e2], by simp [e3], by simp [e4], by simp [e5], by simp, fun j hj hlt => ?_, fun j hj hlt => ?_⟩
          · exact ha j hj (by omega)
          · split
            · rename_i hc
              have q1 : 2 + j / 8 = i := by omega
              have q2 : j % 8 = j - 8 * (i - 2) := by omega
              unfold keyE
              rw [q1, q2]; rfl
            · exact he j hj (by omega)
      · rintro s ⟨env', tr, a, e, rfl, e2, e3, e4, e5, e8, ha, he⟩
        repeat (first | (with_reducible refine Evs.assoc ?_) | ((with_reducible refine Evs.some_bnd ?_); try dsimp only [sqK_nrm, sqK_exit, sqK_ret]) | ((with_reducible apply Evs.bcndT); (focus (simp (disch := omega) [e8] <;> omega))) | ((with_reducible apply Evs.bcndF); (focus (simp (disch := omega) [e8] <;> omega))) | ((with_reducible apply Evs.step); (focus ((conv => lhs; simp (disch := omega) [e8]); done)); try dsimp only) | (simp only [sn34, snB]))
        exact Evs.ret ⟨by simp, _, _, _, _, rfl, by simp [e4], by simp [e5], fun j hj => ha j hj (by omega), fun j hj => he j hj (by omega)⟩
    · rintro r ⟨env', tr, a, e, rfl, e4, e5, ha, he⟩
      unfold H34
      repeat (first | (with_reducible refine Evs.assoc ?_) | ((with_reducible refine Evs.some_bnd ?_); try dsimp only [sqK_nrm, sqK_exit, sqK_ret]) | ((with_reducible apply Evs.bcndT); (focus (simp (disch := omega) [e4, e5] <;> omega))) | ((with_reducible apply Evs.bcndF); (focus (simp (disch := omega) [e4, e5] <;> omega))) | ((with_reducible apply Evs.step); (focus ((conv => lhs; simp (disch := omega) [e4, e5]); done)); try dsimp only) | (simp only [sn34, snB]))
      refine Evs.ret ⟨_, _, rfl, ?_, ?_⟩
      · simp [e4]; exact arr_congr ha
      · simp [e5]; exact arr_congr he
  obtain ⟨r, hr, env, t, rfl, e0, e1⟩ := main
  refine ⟨t, ?_⟩
  rw [hr]
  simp [e0, e1, oneOrTuple]

noncomputable def c34 := conC (fun x : (Nat → BitVec 8) × (Nat → BitVec 8) => [arr 32 x.1, arr 12 x.2]) (fun (x : (Nat → BitVec 8) × (Nat → BitVec 8)) h => True) (fun (x : (Nat → BitVec 8) × (Nat → BitVec 8)) h => (.tuple [arr 16 (keyA x.1 x.2), arr 32 (keyE x.1 x.2)], h))
noncomputable def callS11 : Calling := addC callS10 34 c34
theorem c34_eq (k : Nat → BitVec 8) (n : Nat → BitVec 8) (h : Heap) : c34 [arr 32 k, arr 12 n] h = some (.tuple [arr 16 (keyA k n), arr 32 (keyE k n)], h) :=
  conC_eq (enc := fun x : (Nat → BitVec 8) × (Nat → BitVec 8) => [arr 32 x.1, arr 12 x.2]) (P := fun (x : (Nat → BitVec 8) × (Nat → BitVec 8)) h => True) (a := (k, n)) (f := fun (x : (Nat → BitVec 8) × (Nat → BitVec 8)) h => (.tuple [arr 16 (keyA x.1 x.2), arr 32 (keyE x.1 x.2)], h)) (fun x y h e => by
    have e1 := arr_inj.1 (List.cons.inj e).1
    have e2 := arr_inj.1 (List.cons.inj (List.cons.inj e).2).1
    show (AV.tuple [_, _], _) = (AV.tuple [_, _], _)
    rw [arr_congr (keyA_congr e1 e2), arr_congr (keyE_congr e1 e2)]
    ) trivial
theorem callS11_ok : CallOK Try.prog callS11 := addC_con callS10_ok k34 fun x h hx => by
  obtain ⟨t, ht⟩ := walk34 h x.1 x.2
  exact (s34 callS10_ok ht).drop0 t rfl
@[simp] theorem callS11_ne {f : Nat} (args : List AV) (h : Heap) (hf : f ≠ 34) : callS11 f args h = callS10 f args h := addC_ne _ _ _ args h hf
@[simp] theorem callS11_sne {f : Nat} (args : List AV) (h : Heap) (hf : f ≠ 34) : still callS11 f args h = still callS10 f args h := still_ne _ _ _ args h hf
@[simp] theorem callS11_34 (k : Nat → BitVec 8) (n : Nat → BitVec 8) (h : Heap) : callS11 34 [arr 32 k, arr 12 n] h = some (.tuple [arr 16 (keyA k n), arr 32 (keyE k n)], h) := by
  unfold callS11; rw [addC_same]; exact c34_eq k n h
@[simp] theorem callS11_34s (k : Nat → BitVec 8) (n : Nat → BitVec 8) (h : Heap) : still callS11 34 [arr 32 k, arr 12 n] h = some (.tuple [arr 16 (keyA k n), arr 32 (keyE k n)], h) := still_of fun t => by simp

end Go.Vab

/-
  append, for bytes.
-/
namespace Go.Vab
open Go

@[simp] theorem mFresh_eq (t : Ty) (row : AV) (n : Nat) (h : Heap) : mFresh t row n h = (.slice h.length n [] t 0 n none, h ++ [⟨row, n, .open⟩]) := rfl
@[simp] theorem mExtract_0 (a : AV) (vs : List AV) : mExtract (.tuple (a :: vs)) 0 = some a := rfl
@[simp] theorem mExtract_1 (a b : AV) (vs : List AV) : mExtract (.tuple (a :: b :: vs)) 1 = some b := rfl
@[simp] theorem mLenS_slc (i ver : Nat) (path : List Nat) (t : Ty) (off len : Nat) (cap : Option Nat) : mLenS (.slice i ver path t off len cap) = some (nat len) := rfl
@[simp] theorem mLenS_nil : mLenS .nilslice = some (nat 0) := rfl
@[simp] theorem mBinT_eql (a b : ByteArray) : mBinT .eql (.str a) (.str b) = some (.bool (decide (a = b))) := rfl
theorem room_and {α : Type} (a : Nat) (x y : α) : (if a * 1 ≤ roomBound ∧ a ≤ roomBound ∧ 1 ≤ 1000000 then x else y) = if a ≤ 140737488355328 then x else y := by
  unfold roomBound
  by_cases h : a ≤ 140737488355328
  · rw [if_pos h, if_pos ⟨by omega, h, by omega⟩]
  · rw [if_neg h, if_neg (fun q => h q.2.1)]
@[simp] theorem mApp_nil (x : AV) (h : Heap) : mApp (.int .u8) 1 .nilslice x h = bnd (mElems (.int .u8) x h) fun new => bnd new.rowLen fun n => if n = 0 then some (.nilslice, h) else if n ≤ 140737488355328 then some (.slice h.length n [] (.int .u8) 0 n none, h ++ [⟨new, n, .open⟩]) else none := by
  unfold mApp
  congr 1; funext new; congr 1; funext n
  simp only [room_and, mFresh_eq]
@[simp] theorem mApp_slc (i ver : Nat) (path : List Nat) (off len c : Nat) (x : AV) (h : Heap) : mApp (.int .u8) 1 (.slice i ver path (.int .u8) off len (some c)) x h =
    bnd (mElems (.int .u8) x h) fun new => bnd new.rowLen fun n => bnd (blkAt h i ver) fun b => bnd (b.v.get path) fun r => bnd (r.cut off len) fun old => bnd (old.join new) fun all =>
      if len + n ≤ 140737488355328 then
        if c = 0 then some (.slice h.length (len + n) [] (.int .u8) 0 (len + n) none, h ++ [⟨all, len + n, .open⟩])
        else if len + n ≤ c then (if b.mode = .ro then none else bnd (r.splice (off + len) n new) fun r' => bnd (b.v.put path r') fun v' => some (.slice i ver path (.int .u8) off (len + n) (some c), h.set i { b with v := v' }))
        else some (.slice h.length (len + n) [] (.int .u8) 0 (len + n) none, h ++ [⟨all, len + n, .open⟩])
      else none := by
  unfold mApp
  congr 1; funext new; congr 1; funext n
  simp only [room_and, mFresh_eq, mElems_slc, bnd_assoc]
  cases blkAt h i ver with
  | none => rfl
  | some b =>
    simp only [bnd_some]
    cases b.v.get path with
    | none => rfl
    | some r => simp only [bnd_some]
@[simp] theorem mApp_open (i ver len : Nat) (x : AV) (h : Heap) : mApp (.int .u8) 1 (.slice i ver [] (.int .u8) 0 len none) x h =
    bnd (mElems (.int .u8) x h) fun new => bnd new.rowLen fun n => bnd (blkAt h i ver) fun b => bnd (b.v.cut 0 len) fun old => bnd (old.join new) fun all =>
      if len + n ≤ 140737488355328 then (if b.mode = .open ∧ len = ver then some (.slice i (len + n) [] (.int .u8) 0 (len + n) none, h.set i { b with v := all, ver := len + n }) else none) else none := by
  unfold mApp
  congr 1; funext new; congr 1; funext n
  simp only [room_and, mElems_slc, bnd_assoc]
  cases blkAt h i ver with
  | none => rfl
  | some b =>
    simp only [bnd_some, get_nil]
    simp

/-- A slice of a row of one's own. -/
theorem Byt.own {h : Heap} {i ver off n m c : Nat} {b : Blk} {f : Nat → BitVec 8} (hb : blkAt h i ver = some b) (hv : b.v = arr m f) (hl : off + n ≤ m) (hc : n ≤ c) : Byt h (.slice i ver [] (.int .u8) off n (some c)) n fun j => f (off + j) := by
  refine ⟨?_, rfl, hc, rfl⟩
  rw [mElems_slc, hb, bnd_some, get_nil, bnd_some, hv, arr_cut, if_pos hl]
theorem Byt.grown {h : Heap} {i ver n m : Nat} {b : Blk} {f : Nat → BitVec 8} (hb : blkAt h i ver = some b) (hv : b.v = arr m f) (hl : n ≤ m) (hc : n ≤ ver) : Byt h (.slice i ver [] (.int .u8) 0 n none) n f := by
  refine ⟨?_, rfl, by omega, rfl⟩
  rw [mElems_slc, hb, bnd_some, get_nil, bnd_some, hv, arr_cut, if_pos (by omega)]
  congr 1
  exact arr_congr fun i _ => by rw [Nat.zero_add]

theorem Byt.arr16 {h : Heap} {x : AV} {g : Nat → BitVec 8} (hb : Byt h x 16 g) : ∃ p, mArrayAt 16 (.int .u8) x = some p ∧ ∀ t, mLoad (.arr 16 (.int .u8)) p (h ++ t) = some (arr 16 g) := by
  have key : ∀ b ver path off cap, x = .slice b ver path (.int .u8) off 16 cap → ∃ p, mArrayAt 16 (.int .u8) x = some p ∧ ∀ t, mLoad (.arr 16 (.int .u8)) p (h ++ t) = some (arr 16 g) := by
    rintro b ver path off cap rfl
    refine ⟨.win b ver path (.int .u8) off 16, by simp [mArrayAt], fun t => ?_⟩
    have := hb.elems t
    rw [mElems_slc] at this
    rw [mLoad_win]; exact this
  have h2 := hb.2
  unfold slOk at h2
  split at h2
  · omega
  · obtain ⟨e1, _, e3⟩ := h2; subst e3; subst e1; exact key _ _ _ _ _ rfl
  · obtain ⟨e1, _, e3⟩ := h2; subst e3; subst e1; exact key _ _ _ _ _ rfl
  · cases h2

def ansV (code L len cap : Nat) : AV := if code = 0 then .tuple [.slice L 0 [] (.int .u8) 0 len (some cap), nat 0] else .tuple [.nilslice, nat code]
def ansH (code : Nat) (h : Heap) (b : Blk) : Heap := if code = 0 then h ++ [b] else h

end Go.Vab

/-
  The seat's slices of bytes, read.
-/
namespace Go.Proofs.Ytfolmjdaemoojaa
open Go.Vab

theorem tt5of {el : TI} (h : TT 5 = some el) : el.ty = .int .u8 := by
  rw [tt5] at h
  rw [← Option.some.inj h]

theorem rd37 {h : Heap} {n : Nat} {a : AV} (hr : Rd Try.prog TT h n 37 a) : ∃ (m : Nat) (g : Nat → BitVec 8), Byt h a m g ∧ m ≤ maxLen := by
  cases n with
  | zero => exact hr.elim
  | succ n =>
    simp only [Rd, und37] at hr
    rcases hr with rfl | ⟨i, el, row, mo, len, cap, rfl, h2, h3, h4, h5, h6, h7⟩
    · exact ⟨0, fun _ => 0#8, Byt.nil _ _, Nat.zero_le _⟩
    · have e := tt5of h2
      rw [e] at h4 ⊢
      obtain ⟨g, rfl⟩ := row5 h4 h7
      exact ⟨len, g, (Byt.own (b := ⟨Vab.arr cap g, 0, mo⟩) (off := 0) (by unfold blkAt; rw [h3]; rfl) rfl (by omega) h5).congr fun i _ => by rw [Nat.zero_add], by omega⟩

end Go.Proofs.Ytfolmjdaemoojaa

/-
  From a law's contract to its row, where the contract asks for the form's own reach.
-/
namespace Go.Vab
open Go Go.RowKit Go.WideShapes Go.ChangeShapes

/-- No slice of bytes is longer than the form's reach. -/
def Slim (P : Program) (ts : List TypeId) (avs : List AV) : Prop := ∀ (j : Nat) t e i ver p ty off len cap, ts[j]? = some t → P.underlying t = some (.slice e) → P.bytesOf e = 1 → avs[j]? = some (.slice i ver p ty off len cap) → len ≤ reachBytes

theorem slim_of {H : Type} {enc : TypeId × Value → H} {P : Program} {W : World} {E : Gh} : ∀ (ts : List TypeId) (vs : List Value) (ds : List (DataW H)) (ps : List MemPlace) (avs : List AV), DataW.TrodAll enc P W 0 (fun _ => true) true ts vs ds ps → VRc E avs vs →
    (DataW.weightsEach P ts ds).all (· ≤ reachBytes) = true → Slim P ts avs
  | [], _, _, _, _, _, _, _ => fun j t e i ver p ty off len cap hj => by simp at hj
  | t :: ts, v :: vs, d :: ds, ps, [], _, hV, _ => fun j t' e i ver p ty off len cap _ _ _ ha => by simp at ha
  | t :: ts, v :: vs, d :: ds, ps, a :: avs, h, hV, hw => by
    obtain ⟨p, q, ⟨n, h1⟩, h2, _⟩ := h
    simp only [VRc] at hV
    obtain ⟨x, xs, e, hx, hxs⟩ := hV
    cases e
    simp only [DataW.weightsEach, List.all_append, Bool.and_eq_true] at hw
    intro j t' e i ver p' ty off len cap hj hu hb ha
    cases j with
    | succ j => exact slim_of ts vs ds q avs h2 hxs hw.2 j t' e i ver p' ty off len cap (by simpa using hj) hu hb (by simpa using ha)
    | zero =>
      simp only [List.getElem?_cons_zero, Option.some.injEq] at hj ha
      subst hj
      subst ha
      simp only [VRel] at hx
      obtain ⟨ad, c, rfl, _⟩ := hx
      rcases DataW.trod_slice hu h1 with ⟨hc, _⟩ | ⟨a', len', cap', elems, rest, n', _, hc, hd, _, _, hmx, hlen, _⟩
      · simp [Value.cells] at hc
      · simp only [Value.cells, List.cons.injEq, Value.slice.injEq, and_true] at hc
        simp only [Prod.mk.injEq] at hd
        have hw1 := hw.1
        rw [hd.1] at hw1
        simp only [DataW.weights, hu, List.all_cons, Bool.and_eq_true, decide_eq_true_eq, List.length_map, hb, Nat.mul_one] at hw1
        have := hw1.1
        have e2 : len = len' := hc.2.1
        omega
  | _ :: _, [], _, _, _, h, _, _ => by simp [DataW.TrodAll] at h
  | _ :: _, _ :: _, [], _, _, h, _, _ => by simp [DataW.TrodAll] at h

theorem law_lifted_sized {C : Checked} {tt : Nat → Option TI} {ok : List TypeId} {os : Os} {f : FuncId} {fn : Func} {s : ChangeSpec} {b : Nat} {H : Type} {enc : TypeId × Value → H} (T : TTok C.prog tt) (hok : plainB C.prog tt ok = true)
    (own : ownKnob C.prog.godebug = none) (hl : laidOutB C.prog = true) (started : os.Started) (noInit : C.prog.inits.idxOf? f = none) (hfn : C.prog.funcs[f]? = some fn) (hvars : s.vars = [])
    (hread : (fn.params.toList.all fun t => C.prog.readableRec t && decide (t < C.prog.types.size) && ok.contains t && (tt t).isSome) = true) (hres : fn.resultTypes = #[b]) (hbool : C.prog.underlying b = some .bool)
    (hs : ∀ ds : List (DataW H), ds.length = fn.params.size → s.fn H ds = { results := [.lit (.bool true)], args := ds })
    (witness : ∃ (w : World) (tape : Tape) (i : Input), w.os = os ∧ (w.forCall tape i).Shaped C.prog ∧ i.vars = [] ∧ Input.okWide C.prog (w.forCall tape i) .any w.heap.size f i ∧
      s.pre6 enc C.prog fn [] false (w.forCall tape i).memory i.args ∧ ({ modest := false } : Assume).holds C.prog (lone (Frame.enter C.prog f i.args .normal) [] (w.forCall tape i)))
    (spec : ∀ avs h, Handed C.prog tt h fn.params.toList avs → Slim C.prog fn.params.toList avs → ∃ h', Spec C.prog f avs h (.bool true) h') :
    ReturnsInHanded {} C os f .any (s.pre6 enc C.prog fn [] false) (s.post enc C.prog fn false true false false) := by
  refine returnsInHanded_of_change_sized own started noInit hfn witness ?_
  intro W base args ds gs before hval hW _ hwt _
  simp only [List.all_eq_true, Bool.and_eq_true, decide_eq_true_eq] at hread
  have hW0 := hW
  obtain ⟨p, q, h1, h2, he, hz, hn⟩ := hW
  have hgs : gs = [] := by
    rw [hvars] at h2
    cases gs with
    | nil => rfl
    | cons _ _ => simp [DataW.TrodVars] at h2
  subst hgs
  obtain ⟨E, l, avs, R, N, X, V, L, D⟩ := read_args T hok fn.params.toList args.toList ds p (fun t ht => (hread t ht).1.2) (fun t ht => Option.isSome_iff_exists.1 (hread t ht).2) h1 (fun j t v hj hv => hval j t v (by simpa using hj) (by simpa using hv)) E00 [] (rel00 W) (fun i b hb => by simp at hb)
  simp only [List.nil_append] at R N D
  have hsl : Slim C.prog fn.params.toList avs := by
    refine slim_of fn.params.toList args.toList ds p avs h1 V ?_
    have ev : s.plain.varTypes C.prog = [] := by
      unfold DataSpec.varTypes
      simp [ChangeSpec.plain, hvars]
    rw [ev, List.append_nil, List.append_nil] at hwt
    exact hwt
  obtain ⟨h', hsp⟩ := spec avs l ⟨L, D⟩ hsl
  have hlen : ds.length = fn.params.size := by
    have : ∀ (ts : List TypeId) (vs : List Value) (ds : List (DataW H)) (ps : List MemPlace), DataW.TrodAll enc C.prog W 0 (fun _ => true) true ts vs ds ps → ds.length = ts.length := by
      intro ts
      induction ts with
      | nil =>
        intro vs ds ps h
        cases vs <;> cases ds <;> simp [DataW.TrodAll] at h ⊢
      | cons t ts ih =>
        intro vs ds ps h
        cases vs <;> cases ds <;> simp only [DataW.TrodAll] at h
        obtain ⟨_, _, _, h, _⟩ := h
        simp [ih _ _ _ h]
    rw [this _ _ _ _ h1]; simp
  have hc := hsp E W args.toList R V
  simp only [Array.toArray_toList] at hc
  refine hc.mono fun e W' hp => ?_
  obtain ⟨E', x, rfl, hx, m⟩ := hp
  simp only [VRel] at hx
  subst hx
  exact ⟨_, rfl, post_true hl hvars (fun t ht => (hread t ht).1.1) hres hbool (hs ds hlen) hW0 (below_of_moves N m)⟩

end Go.Vab
