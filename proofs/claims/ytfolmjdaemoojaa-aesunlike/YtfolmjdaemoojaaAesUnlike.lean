/-
  The statement AesUnlike, whole: unlike blocks stay unlike under one key; a block with one bit turned is unlike. No condition.
-/
import Derived.Test.YtfolmjdaemoojaaV3
import Derived.Test.YtfolmjdaemoojaaV5
set_option linter.all false
set_option linter.unusedSectionVars false
namespace Go.Proofs.Ytfolmjdaemoojaa
open Go.Vab

theorem aesUnlike_lifted (os : Os) (started : os.Started) (H : Type) (enc : TypeId × Value → H) :
    ReturnsInHanded {} Try.checked os 6 .any (Rows.aesUnlikeSpec.pre6 enc Try.prog Try.f6 [] false) (Rows.aesUnlikeSpec.post enc Try.prog Try.f6 false true false false) := by
  refine law_lifted (b := 4) TT_ok plainV ownV laidV started (by kernel_rfl) fn6 rfl (by kernel_rfl) (by kernel_rfl) boolV ?_
    (ChangeSpec.witness6 (enc := enc) (C := Try.checked) false ⟨#[], #[.agg (Array.replicate 32 (.int .u8 0)), .agg (Array.replicate 16 (.int .u8 0)), .agg (Array.replicate 16 (.int .u8 0)), .int .u8 0], []⟩ 8 (by kernel_rfl) (by kernel_rfl) (by kernel_rfl) (by kernel_rfl)) ?_
  · intro ds hd
    match ds, hd with
    | [_, _, _, _], _ => rfl
  · intro xs h ⟨hl, hr⟩
    match xs, hl with
    | [a, b, c, d], _ =>
      obtain ⟨_, _, ht0, hy0, r0⟩ := hr 0 26 a rfl rfl
      obtain ⟨_, _, ht1, hy1, r1⟩ := hr 1 27 b rfl rfl
      obtain ⟨_, _, ht2, hy2, r2⟩ := hr 2 27 c rfl rfl
      obtain ⟨_, _, ht3, hy3, r3⟩ := hr 3 5 d rfl rfl
      obtain ⟨x, rfl⟩ := rd26 ht0 hy0 r0
      obtain ⟨y, rfl⟩ := rd27 ht1 hy1 r1
      obtain ⟨z, rfl⟩ := rd27 ht2 hy2 r2
      obtain ⟨u, rfl⟩ := rd5 r3
      obtain ⟨t, hw⟩ := walk6 h x y z u
      exact ⟨h ++ t, s6 callA15_ok hw⟩

theorem aesUnlike_holds : Rows.AesUnlikeSaid :=
  OpenClaim.holds_of_wide 6 Try.f6 rfl rfl rfl rfl rfl rfl rfl ⟨rfl, rfl, rfl, rfl, rfl⟩ rfl rfl rfl rfl rfl (by kernel_rfl) fn6 (by kernel_rfl)
    (of_decide_eq_true (by kernel_rfl)) (by unfold Func.isWrapper; rw [if_neg (of_decide_eq_false (by kernel_rfl))]; exact ⟨rfl, rfl⟩)
    (fun os started H enc _ => aesUnlike_lifted os started H enc)

end Go.Proofs.Ytfolmjdaemoojaa
