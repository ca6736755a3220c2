/-
  The statement SivBack, whole: what is sealed opens again to the same text, for every key, nonce, aad and text. No condition.
-/
import Derived.Test.YtfolmjdaemoojaaV6
import Derived.Test.YtfolmjdaemoojaaV7
set_option linter.all false
set_option linter.unusedSectionVars false
namespace Go.Proofs.Ytfolmjdaemoojaa
open Go.Vab

theorem sivBack_lifted (os : Os) (started : os.Started) (H : Type) (enc : TypeId × Value → H) :
    ReturnsInHanded {} Try.checked os 10 .any (Rows.sivBackSpec.pre6 enc Try.prog Try.f10 [] false) (Rows.sivBackSpec.post enc Try.prog Try.f10 false true false false) := by
  refine law_lifted (b := 4) TT_ok plainV ownV laidV started (by kernel_rfl) fn10 rfl (by kernel_rfl) (by kernel_rfl) boolV ?_
    (ChangeSpec.witness6 (enc := enc) (C := Try.checked) false ⟨#[], #[.agg (Array.replicate 32 (.int .u8 0)), .agg (Array.replicate 12 (.int .u8 0)), .slice none 0 0, .slice none 0 0], []⟩ 8 (by kernel_rfl) (by kernel_rfl) (by kernel_rfl) (by kernel_rfl)) ?_
  · intro ds hd
    match ds, hd with
    | [_, _, _, _], _ => rfl
  · intro xs h ⟨hl, hr⟩
    match xs, hl with
    | [a, b, c, d], _ =>
      obtain ⟨_, _, ht0, hy0, r0⟩ := hr 0 26 a rfl rfl
      obtain ⟨_, _, ht1, hy1, r1⟩ := hr 1 36 b rfl rfl
      obtain ⟨_, _, ht2, hy2, r2⟩ := hr 2 37 c rfl rfl
      obtain ⟨_, _, ht3, hy3, r3⟩ := hr 3 37 d rfl rfl
      obtain ⟨x, rfl⟩ := rd26 ht0 hy0 r0
      obtain ⟨y, rfl⟩ := rd36 ht1 hy1 r1
      obtain ⟨na, fa, ha, _⟩ := rd37 r2
      obtain ⟨nt, ft, ht, _⟩ := rd37 r3
      obtain ⟨t, hw⟩ := walk10 h x y c d na nt fa ft ha ht
      exact ⟨h ++ t, s10 callS20_ok hw⟩

theorem sivBack_holds : Rows.SivBackSaid :=
  OpenClaim.holds_of_wide 10 Try.f10 rfl rfl rfl rfl rfl rfl rfl ⟨rfl, rfl, rfl, rfl, rfl⟩ rfl rfl rfl rfl rfl (by kernel_rfl) fn10 (by kernel_rfl)
    (of_decide_eq_true (by kernel_rfl)) (by unfold Func.isWrapper; rw [if_neg (of_decide_eq_false (by kernel_rfl))]; exact ⟨rfl, rfl⟩)
    (fun os started H enc _ => sivBack_lifted os started H enc)

end Go.Proofs.Ytfolmjdaemoojaa
