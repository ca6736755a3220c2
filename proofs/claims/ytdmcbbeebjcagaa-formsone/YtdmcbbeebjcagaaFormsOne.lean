/-
  The statement FormsOne, whole: two states, two actions that may be have one form exactly where they are alike, for all of them. No condition.
-/
import Derived.Test.YtdmcbbeebjcagaaV3
import Derived.Test.YtdmcbbeebjcagaaV6
import Derived.Test.YtdmcbbeebjcagaaV7
import Derived.Test.YtdmcbbeebjcagaaRows
set_option linter.all false
set_option linter.unusedSectionVars false
namespace Go.Proofs.Ytdmcbbeebjcagaa
open Go.Vab

/-- A state's cells, all zero. -/
def wSt : Array Value := #[.int .u32 0] ++ Array.replicate 64 (.int .u8 0) ++ #[.slice none 0 0] ++ Array.replicate 3 (.int .u8 0) ++ Array.replicate 5 (.slice none 0 0)
def wAct : Array Value := #[.int .u32 0] ++ Array.replicate 98 (.int .u8 0) ++ #[.slice none 0 0] ++ Array.replicate 3 (.int .u8 0) ++ #[.slice none 0 0]

theorem formsOne_lifted (os : Os) (started : os.Started) (H : Type) (enc : TypeId × Value → H) :
    ReturnsInHanded {} Try.checked os 5 .any (Rows.formsOneSpec.pre6 enc Try.prog Try.f5 [] false) (Rows.formsOneSpec.post enc Try.prog Try.f5 false true false false) := by
  refine Vas.law_lifted_sized (b := 4) TT_ok Vas.plainV Vas.ownV Vas.laidV started (by kernel_rfl) fn5 rfl (by kernel_rfl) (by kernel_rfl) Vas.boolV ?_
    (ChangeSpec.witness6 (enc := enc) (C := Try.checked) false ⟨#[], #[.agg wSt, .agg wSt, .agg wAct, .agg wAct], []⟩ 8 (by kernel_rfl) (by kernel_rfl) (by kernel_rfl) (by kernel_rfl)) (by kernel_rfl) (by kernel_rfl) ?_
  · intro ds hd
    match ds, hd with
    | [_, _, _, _], _ => rfl
  · intro xs h ⟨hl, hr⟩
    match xs, hl with
    | [a, b, c, d], _ =>
      obtain ⟨_, _, ht0, hy0, r0⟩ := hr 0 37 a rfl rfl
      obtain ⟨_, _, ht1, hy1, r1⟩ := hr 1 37 b rfl rfl
      obtain ⟨_, _, ht2, hy2, r2⟩ := hr 2 42 c rfl rfl
      obtain ⟨_, _, ht3, hy3, r3⟩ := hr 3 42 d rfl rfl
      obtain ⟨xa, _, _, _, _, _, _, rfl, ra⟩ := Vas.rd_st ht0 hy0 r0
      obtain ⟨xb, _, _, _, _, _, _, rfl, rb⟩ := Vas.rd_st ht1 hy1 r1
      obtain ⟨xc, _, _, rfl, rc⟩ := Vas.rd_act ht2 hy2 r2
      obtain ⟨xd, _, _, rfl, rd⟩ := Vas.rd_act ht3 hy3 r3
      exact c5 (fun r => (c37 r).mono fun _ e => ⟨_, e, mayS_slim⟩) ra rb rc rd

theorem formsOne_holds : Rows.FormsOneSaid :=
  OpenClaim.holds_of_wide 5 Try.f5 rfl rfl rfl rfl rfl rfl rfl ⟨rfl, rfl, rfl, rfl, rfl⟩ rfl rfl rfl rfl rfl (by kernel_rfl) fn5 (by kernel_rfl)
    (of_decide_eq_true (by kernel_rfl)) (by unfold Func.isWrapper; rw [if_neg (of_decide_eq_false (by kernel_rfl))]; exact ⟨rfl, rfl⟩)
    (fun os started H enc _ => formsOne_lifted os started H enc)

end Go.Proofs.Ytdmcbbeebjcagaa
