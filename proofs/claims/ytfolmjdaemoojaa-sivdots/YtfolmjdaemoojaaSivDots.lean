/-
  The statement SivDots, whole: the package's dot is the document's, for every pair. No condition.
-/
import Derived.Test.YtfolmjdaemoojaaV3
import Derived.Test.YtfolmjdaemoojaaV7
set_option linter.all false
set_option linter.unusedSectionVars false
namespace Go.Proofs.Ytfolmjdaemoojaa
open Go.Vab

theorem sivDots_lifted (os : Os) (started : os.Started) (H : Type) (enc : TypeId × Value → H) :
    ReturnsInHanded {} Try.checked os 11 .any (Rows.sivDotsSpec.pre6 enc Try.prog Try.f11 [] false) (Rows.sivDotsSpec.post enc Try.prog Try.f11 false true false false) := by
  refine law_lifted (b := 4) TT_ok plainV ownV laidV started (by kernel_rfl) fn11 rfl (by kernel_rfl) (by kernel_rfl) boolV ?_
    (ChangeSpec.witness6 (enc := enc) (C := Try.checked) false ⟨#[], #[.agg (Array.replicate 16 (.int .u8 0)), .agg (Array.replicate 16 (.int .u8 0))], []⟩ 8 (by kernel_rfl) (by kernel_rfl) (by kernel_rfl) (by kernel_rfl)) ?_
  · intro ds hd
    match ds, hd with
    | [_, _], _ => rfl
  · intro xs h ⟨hl, hr⟩
    match xs, hl with
    | [a, b], _ =>
      obtain ⟨_, _, ht0, hy0, r0⟩ := hr 0 27 a rfl rfl
      obtain ⟨_, _, ht1, hy1, r1⟩ := hr 1 27 b rfl rfl
      obtain ⟨x, rfl⟩ := rd27 ht0 hy0 r0
      obtain ⟨y, rfl⟩ := rd27 ht1 hy1 r1
      obtain ⟨t, hw⟩ := walk11 h x y
      exact ⟨h ++ t, s11 callS20_ok hw⟩

theorem sivDots_holds : Rows.SivDotsSaid :=
  OpenClaim.holds_of_wide 11 Try.f11 rfl rfl rfl rfl rfl rfl rfl ⟨rfl, rfl, rfl, rfl, rfl⟩ rfl rfl rfl rfl rfl (by kernel_rfl) fn11 (by kernel_rfl)
    (of_decide_eq_true (by kernel_rfl)) (by unfold Func.isWrapper; rw [if_neg (of_decide_eq_false (by kernel_rfl))]; exact ⟨rfl, rfl⟩)
    (fun os started H enc _ => sivDots_lifted os started H enc)

end Go.Proofs.Ytfolmjdaemoojaa
