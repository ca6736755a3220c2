/-
  The statement RolesPlays, whole: a group's life, action by action, for all rows of moves. No condition.
-/
import Derived.Test.YtjoepfedeidgaaaGreatV7
import Derived.Test.YtjoepfedeidgaaaGreatRows
set_option linter.all false
set_option linter.unusedSectionVars false
namespace Go.Proofs.YtjoepfedeidgaaaGreat
open Go.Vab
theorem rolesPlays_lifted (os : Os) (started : os.Started) (H : Type) (enc : TypeId × Value → H) :
  ReturnsInHanded {} Tryz.checked os 5 .any (Rows.rolesPlaysSpec.pre6 enc Tryz.prog Tryz.f5 [] false) (Rows.rolesPlaysSpec.post enc Tryz.prog Tryz.f5 false true false false) := by
 refine Vas.law_lifted_sized (b := 4) TT_ok Vas.plainV3 Vas.ownV Vas.laidV started (by kernel_rfl) fn5 rfl (by kernel_rfl) (by kernel_rfl) Vas.boolV ?_
  (ChangeSpec.witness6 (enc := enc) (C := Tryz.checked) false ⟨#[], #[.slice none 0 0], []⟩ 8 (by kernel_rfl) (by kernel_rfl) (by kernel_rfl) (by kernel_rfl)) (by kernel_rfl) (by kernel_rfl) ?_
 ·intro ds hd
  match ds, hd with
  | [_], _ => rfl
 ·intro xs h ⟨hl, hr⟩
  match xs, hl with
  | [a], _ =>
   obtain ⟨_, _, ht0, hy0, r0⟩ := hr 0 57 a rfl rfl
   obtain ⟨ms, rm⟩ := Vas.rd_mvs r0
   exact c5 rm
theorem rolesPlays_holds : Rows.RolesPlaysSaid :=
 OpenClaim.holds_of_wide 5 Tryz.f5 rfl rfl rfl rfl rfl rfl rfl ⟨rfl, rfl, rfl, rfl, rfl⟩ rfl rfl rfl rfl rfl (by kernel_rfl) fn5 (by kernel_rfl)
  (of_decide_eq_true (by kernel_rfl)) (by unfold Func.isWrapper; rw [if_neg (of_decide_eq_false (by kernel_rfl))]; exact ⟨rfl, rfl⟩)
  (fun os started H enc _ => rolesPlays_lifted os started H enc)
end Go.Proofs.YtjoepfedeidgaaaGreat
