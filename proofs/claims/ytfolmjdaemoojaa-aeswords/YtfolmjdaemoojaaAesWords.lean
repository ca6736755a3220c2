/-
  The statement AesWords, whole: the words of any key are the document's. No condition.
-/
import Derived.Test.YtfolmjdaemoojaaV3
import Derived.Test.YtfolmjdaemoojaaV5
set_option linter.all false
set_option linter.unusedSectionVars false
namespace Go.Proofs.Ytfolmjdaemoojaa
open Go.Vab

theorem aesWords_lifted (os : Os) (started : os.Started) (H : Type) (enc : TypeId × Value → H) :
    ReturnsInHanded {} Try.checked os 7 .any (Rows.aesWordsSpec.pre6 enc Try.prog Try.f7 [] false) (Rows.aesWordsSpec.post enc Try.prog Try.f7 false true false false) := by
  refine law_lifted (b := 4) TT_ok plainV ownV laidV started (by kernel_rfl) fn7 rfl (by kernel_rfl) (by kernel_rfl) boolV ?_
    (ChangeSpec.witness6 (enc := enc) (C := Try.checked) false ⟨#[], #[.agg (Array.replicate 32 (.int .u8 0))], []⟩ 8 (by kernel_rfl) (by kernel_rfl) (by kernel_rfl) (by kernel_rfl)) ?_
  · intro ds hd
    match ds, hd with
    | [_], _ => rfl
  · intro xs h ⟨hl, hr⟩
    match xs, hl with
    | [a], _ =>
      obtain ⟨_, _, ht0, hy0, r0⟩ := hr 0 26 a rfl rfl
      obtain ⟨x, rfl⟩ := rd26 ht0 hy0 r0
      obtain ⟨t, hw⟩ := walk7 h x
      exact ⟨h ++ t, s7 callA15_ok hw⟩

theorem aesWords_holds : Rows.AesWordsSaid :=
  OpenClaim.holds_of_wide 7 Try.f7 rfl rfl rfl rfl rfl rfl rfl ⟨rfl, rfl, rfl, rfl, rfl⟩ rfl rfl rfl rfl rfl (by kernel_rfl) fn7 (by kernel_rfl)
    (of_decide_eq_true (by kernel_rfl)) (by unfold Func.isWrapper; rw [if_neg (of_decide_eq_false (by kernel_rfl))]; exact ⟨rfl, rfl⟩)
    (fun os started H enc _ => aesWords_lifted os started H enc)

end Go.Proofs.Ytfolmjdaemoojaa
