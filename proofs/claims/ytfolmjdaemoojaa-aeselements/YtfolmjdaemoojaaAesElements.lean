/-
  The statement AesElements, whole: the product of any two elements, and the substitute of one, are the document's. No condition.
-/
import Derived.Test.YtfolmjdaemoojaaV3
import Derived.Test.YtfolmjdaemoojaaV5
set_option linter.all false
set_option linter.unusedSectionVars false
namespace Go.Proofs.Ytfolmjdaemoojaa
open Go.Vab

theorem aesElements_lifted (os : Os) (started : os.Started) (H : Type) (enc : TypeId × Value → H) :
    ReturnsInHanded {} Try.checked os 3 .any (Rows.aesElementsSpec.pre6 enc Try.prog Try.f3 [] false) (Rows.aesElementsSpec.post enc Try.prog Try.f3 false true false false) := by
  refine law_lifted (b := 4) TT_ok plainV ownV laidV started (by kernel_rfl) fn3 rfl (by kernel_rfl) (by kernel_rfl) boolV ?_
    (ChangeSpec.witness6 (enc := enc) (C := Try.checked) false ⟨#[], #[.int .u8 0, .int .u8 0], []⟩ 8 (by kernel_rfl) (by kernel_rfl) (by kernel_rfl) (by kernel_rfl)) ?_
  · intro ds hd
    match ds, hd with
    | [_, _], _ => rfl
  · intro xs h ⟨hl, hr⟩
    match xs, hl with
    | [a, b], _ =>
      obtain ⟨_, _, ht0, hy0, r0⟩ := hr 0 5 a rfl rfl
      obtain ⟨_, _, ht1, hy1, r1⟩ := hr 1 5 b rfl rfl
      obtain ⟨x, rfl⟩ := rd5 r0
      obtain ⟨y, rfl⟩ := rd5 r1
      obtain ⟨t, hw⟩ := walk3 h x y
      exact ⟨h ++ t, s3 callA15_ok hw⟩

theorem aesElements_holds : Rows.AesElementsSaid :=
  OpenClaim.holds_of_wide 3 Try.f3 rfl rfl rfl rfl rfl rfl rfl ⟨rfl, rfl, rfl, rfl, rfl⟩ rfl rfl rfl rfl rfl (by kernel_rfl) fn3 (by kernel_rfl)
    (of_decide_eq_true (by kernel_rfl)) (by unfold Func.isWrapper; rw [if_neg (of_decide_eq_false (by kernel_rfl))]; exact ⟨rfl, rfl⟩)
    (fun os started H enc _ => aesElements_lifted os started H enc)

end Go.Proofs.Ytfolmjdaemoojaa
