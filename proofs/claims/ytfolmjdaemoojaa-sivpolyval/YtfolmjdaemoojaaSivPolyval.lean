/-
  The statement SivPolyval, whole: the package's Polyval and Keys are the document's, for every input. No condition.
-/
import Derived.Test.YtfolmjdaemoojaaV6
import Derived.Test.YtfolmjdaemoojaaV8
set_option linter.all false
set_option linter.unusedSectionVars false
namespace Go.Proofs.Ytfolmjdaemoojaa
open Go.Vab

theorem sivPolyval_lifted (os : Os) (started : os.Started) (H : Type) (enc : TypeId × Value → H) :
    ReturnsInHanded {} Try.checked os 12 .any (Rows.sivPolyvalSpec.pre6 enc Try.prog Try.f12 [] false) (Rows.sivPolyvalSpec.post enc Try.prog Try.f12 false true false false) := by
  refine law_lifted (b := 4) TT_ok plainV ownV laidV started (by kernel_rfl) fn12 rfl (by kernel_rfl) (by kernel_rfl) boolV ?_
    (ChangeSpec.witness6 (enc := enc) (C := Try.checked) false ⟨#[], #[.agg (Array.replicate 16 (.int .u8 0)), .slice none 0 0, .agg (Array.replicate 32 (.int .u8 0)), .agg (Array.replicate 12 (.int .u8 0))], []⟩ 8 (by kernel_rfl) (by kernel_rfl) (by kernel_rfl) (by kernel_rfl)) ?_
  · intro ds hd
    match ds, hd with
    | [_, _, _, _], _ => rfl
  · intro xs h ⟨hl, hr⟩
    match xs, hl with
    | [a, b, c, d], _ =>
      obtain ⟨_, _, ht0, hy0, r0⟩ := hr 0 27 a rfl rfl
      obtain ⟨_, _, ht1, hy1, r1⟩ := hr 1 37 b rfl rfl
      obtain ⟨_, _, ht2, hy2, r2⟩ := hr 2 26 c rfl rfl
      obtain ⟨_, _, ht3, hy3, r3⟩ := hr 3 36 d rfl rfl
      obtain ⟨x, rfl⟩ := rd27 ht0 hy0 r0
      obtain ⟨n, f, hf, _⟩ := rd37 r1
      obtain ⟨k, rfl⟩ := rd26 ht2 hy2 r2
      obtain ⟨y, rfl⟩ := rd36 ht3 hy3 r3
      obtain ⟨t, hw⟩ := walk12 h x k y b n f hf
      exact ⟨h ++ t, s12 callS26_ok hw⟩

theorem sivPolyval_holds : Rows.SivPolyvalSaid :=
  OpenClaim.holds_of_wide 12 Try.f12 rfl rfl rfl rfl rfl rfl rfl ⟨rfl, rfl, rfl, rfl, rfl⟩ rfl rfl rfl rfl rfl (by kernel_rfl) fn12 (by kernel_rfl)
    (of_decide_eq_true (by kernel_rfl)) (by unfold Func.isWrapper; rw [if_neg (of_decide_eq_false (by kernel_rfl))]; exact ⟨rfl, rfl⟩)
    (fun os started H enc _ => sivPolyval_lifted os started H enc)

end Go.Proofs.Ytfolmjdaemoojaa
