/-
  The statement AesEncrypts, whole: any block under any key is the document's. No condition.
-/
import Derived.Test.YtfolmjdaemoojaaV3
import Derived.Test.YtfolmjdaemoojaaV5
set_option linter.all false
set_option linter.unusedSectionVars false
namespace Go.Proofs.Ytfolmjdaemoojaa
open Go.Vab

theorem aesEncrypts_lifted (os : Os) (started : os.Started) (H : Type) (enc : TypeId × Value → H) :
    ReturnsInHanded {} Try.checked os 4 .any (Rows.aesEncryptsSpec.pre6 enc Try.prog Try.f4 [] false) (Rows.aesEncryptsSpec.post enc Try.prog Try.f4 false true false false) := by
  refine law_lifted (b := 4) TT_ok plainV ownV laidV started (by kernel_rfl) fn4 rfl (by kernel_rfl) (by kernel_rfl) boolV ?_
    (ChangeSpec.witness6 (enc := enc) (C := Try.checked) false ⟨#[], #[.agg (Array.replicate 32 (.int .u8 0)), .agg (Array.replicate 16 (.int .u8 0))], []⟩ 8 (by kernel_rfl) (by kernel_rfl) (by kernel_rfl) (by kernel_rfl)) ?_
  · intro ds hd
    match ds, hd with
    | [_, _], _ => rfl
  · intro xs h ⟨hl, hr⟩
    match xs, hl with
    | [a, b], _ =>
      obtain ⟨_, _, ht0, hy0, r0⟩ := hr 0 26 a rfl rfl
      obtain ⟨_, _, ht1, hy1, r1⟩ := hr 1 27 b rfl rfl
      obtain ⟨x, rfl⟩ := rd26 ht0 hy0 r0
      obtain ⟨y, rfl⟩ := rd27 ht1 hy1 r1
      obtain ⟨t, hw⟩ := walk4 h x y
      exact ⟨h ++ t, s4 callA15_ok hw⟩

theorem aesEncrypts_holds : Rows.AesEncryptsSaid :=
  OpenClaim.holds_of_wide 4 Try.f4 rfl rfl rfl rfl rfl rfl rfl ⟨rfl, rfl, rfl, rfl, rfl⟩ rfl rfl rfl rfl rfl (by kernel_rfl) fn4 (by kernel_rfl)
    (of_decide_eq_true (by kernel_rfl)) (by unfold Func.isWrapper; rw [if_neg (of_decide_eq_false (by kernel_rfl))]; exact ⟨rfl, rfl⟩)
    (fun os started H enc _ => aesEncrypts_lifted os started H enc)

end Go.Proofs.Ytfolmjdaemoojaa
