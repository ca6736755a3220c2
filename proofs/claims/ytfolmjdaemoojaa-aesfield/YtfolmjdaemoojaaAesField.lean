/-
  The statement AesField, whole: products hang on no order and on no brackets and spread over sums; of two elements but 0 none is 0; unlike elements have unlike substitutes, and none is its own. No condition.
-/
import Derived.Test.YtfolmjdaemoojaaV2
import Derived.Test.YtfolmjdaemoojaaV3
set_option linter.all false
set_option linter.unusedSectionVars false
namespace Go.Proofs.Ytfolmjdaemoojaa
open Go.Vab

theorem aesField_lifted (os : Os) (started : os.Started) (H : Type) (enc : TypeId × Value → H) :
    ReturnsInHanded {} Try.checked os 5 .any (Rows.aesFieldSpec.pre6 enc Try.prog Try.f5 [] false) (Rows.aesFieldSpec.post enc Try.prog Try.f5 false true false false) := by
  refine law_lifted (b := 4) TT_ok plainV ownV laidV started (by kernel_rfl) fn5 rfl (by kernel_rfl) (by kernel_rfl) boolV ?_
    (ChangeSpec.witness6 (enc := enc) (C := Try.checked) false ⟨#[], #[.int .u8 0, .int .u8 0, .int .u8 0], []⟩ 8 (by kernel_rfl) (by kernel_rfl) (by kernel_rfl) (by kernel_rfl)) ?_
  · intro ds hd
    match ds, hd with
    | [_, _, _], _ => rfl
  · intro xs h ⟨hl, hr⟩
    match xs, hl with
    | [a, b, c], _ =>
      obtain ⟨_, r0⟩ := hr 0 5 a rfl rfl
      obtain ⟨_, r1⟩ := hr 1 5 b rfl rfl
      obtain ⟨_, r2⟩ := hr 2 5 c rfl rfl
      obtain ⟨x, rfl⟩ := rd5 r0
      obtain ⟨y, rfl⟩ := rd5 r1
      obtain ⟨z, rfl⟩ := rd5 r2
      exact ⟨h, s5 callA7_ok (walk5 x y z h)⟩

theorem aesField_holds : Rows.AesFieldSaid :=
  OpenClaim.holds_of_wide 5 Try.f5 rfl rfl rfl rfl rfl rfl rfl ⟨rfl, rfl, rfl, rfl, rfl⟩ rfl rfl rfl rfl rfl (by kernel_rfl) fn5 (by kernel_rfl)
    (of_decide_eq_true (by kernel_rfl)) (by unfold Func.isWrapper; rw [if_neg (of_decide_eq_false (by kernel_rfl))]; exact ⟨rfl, rfl⟩)
    (fun os started H enc _ => aesField_lifted os started H enc)

end Go.Proofs.Ytfolmjdaemoojaa
