/-
  The statement RolesBack, whole: who was invited and is not any more, who was banned and is not any more, leaves the group as it was, for all states, persons and roles. No condition.
-/
import Derived.Test.YtjoepfedeidgaaaGreatV2
import Derived.Test.YtjoepfedeidgaaaGreatV7
import Derived.Test.YtjoepfedeidgaaaGreatRows
set_option linter.all false
set_option linter.unusedSectionVars false
namespace Go.Proofs.YtjoepfedeidgaaaGreat
open Go.Vab
def wSt : Array Value := #[.int .u32 0] ++ Array.replicate 64 (.int .u8 0) ++ #[.slice none 0 0] ++ Array.replicate 3 (.int .u8 0) ++ Array.replicate 5 (.slice none 0 0)
def wPt : Array Value := Array.replicate 32 (.int .u8 0)
def wCi : Array Value := Array.replicate 64 (.int .u8 0)
theorem rolesBack_lifted (os : Os) (started : os.Started) (H : Type) (enc : TypeId × Value → H) :
  ReturnsInHanded {} Tryz.checked os 8 .any (Rows.rolesBackSpec.pre6 enc Tryz.prog Tryz.f8 [] false) (Rows.rolesBackSpec.post enc Tryz.prog Tryz.f8 false true false false) := by
 refine Vas.law_lifted_sized (b := 4) TT_ok Vas.plainV Vas.ownV Vas.laidV started (by kernel_rfl) fn8 rfl (by kernel_rfl) (by kernel_rfl) Vas.boolV ?_
  (ChangeSpec.witness6 (enc := enc) (C := Tryz.checked) false ⟨#[], #[.agg wSt, .agg wPt, .agg wCi, .int .u8 0], []⟩ 8 (by kernel_rfl) (by kernel_rfl) (by kernel_rfl) (by kernel_rfl)) (by kernel_rfl) (by kernel_rfl) ?_
 ·intro ds hd
  match ds, hd with
  | [_, _, _, _], _ => rfl
 ·intro xs h ⟨hl, hr⟩
  match xs, hl with
  | [a, b, c, d], _ =>
   obtain ⟨_, _, ht0, hy0, r0⟩ := hr 0 37 a rfl rfl
   obtain ⟨_, _, ht1, hy1, r1⟩ := hr 1 24 b rfl rfl
   obtain ⟨_, _, ht2, hy2, r2⟩ := hr 2 40 c rfl rfl
   obtain ⟨_, _, ht3, hy3, r3⟩ := hr 3 28 d rfl rfl
   obtain ⟨xa, _, _, _, _, _, _, rfl, ra⟩ := Vas.rd_st ht0 hy0 r0
   obtain ⟨xb, rfl⟩ := Vas.rd_pt _ _ _ (by cases ht1; exact hy1) r1
   obtain ⟨xc, rfl⟩ := Vas.rd_ci _ _ _ (by cases ht2; exact hy2) r2
   obtain ⟨xd, rfl⟩ := Vas.rdI8 Vas.und_role _ _ _ hy3 r3
   exact c8 ra
theorem rolesBack_holds : Rows.RolesBackSaid :=
 OpenClaim.holds_of_wide 8 Tryz.f8 rfl rfl rfl rfl rfl rfl rfl ⟨rfl, rfl, rfl, rfl, rfl⟩ rfl rfl rfl rfl rfl (by kernel_rfl) fn8 (by kernel_rfl)
  (of_decide_eq_true (by kernel_rfl)) (by unfold Func.isWrapper; rw [if_neg (of_decide_eq_false (by kernel_rfl))]; exact ⟨rfl, rfl⟩)
  (fun os started H enc _ => rolesBack_lifted os started H enc)
end Go.Proofs.YtjoepfedeidgaaaGreat
