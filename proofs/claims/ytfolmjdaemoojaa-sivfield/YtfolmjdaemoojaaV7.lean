/-
  The law SivField, walked.
-/
import Derived.Test.YtfolmjdaemoojaaV6
set_option linter.all false
set_option linter.unusedSectionVars false
namespace Go.Vab
open Go Go.Proofs

theorem dotB_comm (a b : Nat → BitVec 8) : dotB a b = dotB b a := by unfold dotB; rw [dotX_comm]
theorem dotB_assoc (a b c : Nat → BitVec 8) : dotB (dotB a b) c = dotB a (dotB b c) := by unfold dotB; rw [val_bytes, val_bytes, dotX_assoc]
theorem bytesX_xor (x y : BitVec 128) (i : Nat) : bytesX (x ^^^ y) i = bytesX x i ^^^ bytesX y i := by
  unfold bytesX
  rw [BitVec.ushiftRight_xor_distrib, BitVec.setWidth_xor]
theorem dotB_add (a b c : Nat → BitVec 8) : dotB a (fun i => b i ^^^ c i) = fun i => dotB a b i ^^^ dotB a c i := by
  funext i
  unfold dotB
  rw [val16_xor, dotX_addR, bytesX_xor]
theorem zero_iff (g : Nat → BitVec 8) : arrEq 16 g (fun _ => 0#8) = true ↔ val16 g = 0#128 := by
  rw [arrEq_iff]
  constructor
  · intro h
    rw [val16_congr (f := fun _ => 0#8) h]
    rfl
  · intro h i hi
    rw [← bytes_val g hi, h]
    unfold bytesX
    simp
theorem dotB_zero (a b : Nat → BitVec 8) : arrEq 16 (dotB a b) (fun _ => 0#8) = (arrEq 16 a (fun _ => 0#8) || arrEq 16 b (fun _ => 0#8)) := by
  have : arrEq 16 (dotB a b) (fun _ => 0#8) = true ↔ (arrEq 16 a (fun _ => 0#8) || arrEq 16 b (fun _ => 0#8)) = true := by
    rw [Bool.or_eq_true, zero_iff, zero_iff, zero_iff, dotB, val_bytes, dotX_zero]
  cases h1 : arrEq 16 (dotB a b) (fun _ => 0#8) <;> cases h2 : (arrEq 16 a (fun _ => 0#8) || arrEq 16 b (fun _ => 0#8)) <;> simp_all

theorem walk13 (h : Heap) (a b c : Nat → BitVec 8) : ∃ t, evBody (cx13 callS20) Try.f13 n13_0 [arr 16 a, arr 16 b, arr 16 c] h = some (.bool true, h ++ t) := by
  have f0 : fillRow (.arr 16 (.int .u8)) (arr 16 fun _ => 0#8) [] = some (arr 16 fun _ => 0#8) := by simp [fillRow]
  have q1 : arrEq 16 (dotB a b) (dotB b a) = true := by rw [dotB_comm]; exact arrEq_self _ _
  have q2 : arrEq 16 (dotB (dotB a b) c) (dotB a (dotB b c)) = true := by rw [dotB_assoc]; exact arrEq_self _ _
  have q3 : arrEq 16 (dotB a fun i => b i ^^^ c i) (fun i => dotB a b i ^^^ dotB a c i) = true := by rw [dotB_add]; exact arrEq_self _ _
  have q4 := dotB_zero a b
  rw [b13]
  have main : Evs (evC (cx13 callS20) n13_0 ⟨[(0, arr 16 a), (1, arr 16 b), (2, arr 16 c), (3, .junk), (4, .junk), (5, .junk), (6, .junk), (7, .junk), (8, .junk)], h⟩) (fun r => ∃ env t, r = (.ret, ⟨env, h ++ t⟩) ∧ env.get 6 = .bool true) := by
    obtain ⟨env, he⟩ : ∃ env : Env, env = [(0, arr 16 a), (1, arr 16 b), (2, arr 16 c), (3, .junk), (4, .junk), (5, .junk), (6, .junk), (7, .junk), (8, .junk)] := ⟨_, rfl⟩
    rw [← he]
    have g0 : env.get 0 = arr 16 a := by rw [he]; rfl
    have g1 : env.get 1 = arr 16 b := by rw [he]; rfl
    have g2 : env.get 2 = arr 16 c := by rw [he]; rfl
    clear he
    cases za : arrEq 16 a (fun _ => 0#8)
    · rw [za] at q4
      arun (sn13) [g0, g1, g2, f0, q1, q2, q3, q4, za]
      exact Evs.ret ⟨_, _, rfl, by simp⟩
    · rw [za] at q4
      arun (sn13) [g0, g1, g2, f0, q1, q2, q3, q4, za]
      exact Evs.ret ⟨_, _, rfl, by simp⟩
  obtain ⟨r, hr, env, t, rfl, e0⟩ := main
  refine ⟨t, ?_⟩
  rw [hr]
  simp [e0, oneOrTuple]

end Go.Vab
