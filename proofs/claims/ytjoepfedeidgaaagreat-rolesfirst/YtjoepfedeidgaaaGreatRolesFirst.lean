/-
  The statement RolesFirst, whole: a new group's state, or the refusal, is the document's, and what is handed in stays; for all keys, titles, passwords and persons. No condition.
-/
import Derived.Test.YtjoepfedeidgaaaGreatV2
import Derived.Test.YtjoepfedeidgaaaGreatV7
import Derived.Test.YtjoepfedeidgaaaGreatRows
set_option linter.all false
set_option linter.unusedSectionVars false
namespace Go.Proofs.YtjoepfedeidgaaaGreat
open Go.Vab
def wCi : Array Value := Array.replicate 64 (.int .u8 0)
def wAc : Array Value := Array.replicate 3 (.int .u8 0)
theorem rolesFirst_lifted (os : Os) (started : os.Started) (H : Type) (enc : TypeId × Value → H) :
  ReturnsInHanded {} Tryz.checked os 4 .any (Rows.rolesFirstSpec.pre6 enc Tryz.prog Tryz.f4 [] false) (Rows.rolesFirstSpec.post enc Tryz.prog Tryz.f4 false true false false) := by
 refine Vas.law_lifted_sized (b := 4) TT_ok Vas.plainV Vas.ownV Vas.laidV started (by kernel_rfl) fn4 rfl (by kernel_rfl) (by kernel_rfl) Vas.boolV ?_
  (ChangeSpec.witness6 (enc := enc) (C := Tryz.checked) false ⟨#[], #[.agg wCi, .slice none 0 0, .agg wAc, .slice none 0 0, .agg wCi], []⟩ 8 (by kernel_rfl) (by kernel_rfl) (by kernel_rfl) (by kernel_rfl)) (by kernel_rfl) (by kernel_rfl) ?_
 ·intro ds hd
  match ds, hd with
  | [_, _, _, _, _], _ => rfl
 ·intro xs h ⟨hl, hr⟩
  match xs, hl with
  | [a, b, c, d, e], _ =>
   obtain ⟨_, _, ht0, hy0, r0⟩ := hr 0 26 a rfl rfl
   obtain ⟨_, _, ht1, hy1, r1⟩ := hr 1 27 b rfl rfl
   obtain ⟨_, _, ht2, hy2, r2⟩ := hr 2 31 c rfl rfl
   obtain ⟨_, _, ht3, hy3, r3⟩ := hr 3 27 d rfl rfl
   obtain ⟨_, _, ht4, hy4, r4⟩ := hr 4 40 e rfl rfl
   obtain ⟨xa, rfl⟩ := Vas.rd_pub _ _ _ (by cases ht0; exact hy0) r0
   obtain ⟨xb, rb⟩ := Vas.rd_bs _ _ _ r1
   obtain ⟨xc, rfl⟩ := Vas.rd_acc _ _ _ (by cases ht2; exact hy2) r2
   obtain ⟨xd, rd⟩ := Vas.rd_bs _ _ _ r3
   obtain ⟨xe, rfl⟩ := Vas.rd_ci _ _ _ (by cases ht4; exact hy4) r4
   exact c4 rb rd
theorem rolesFirst_holds : Rows.RolesFirstSaid :=
 OpenClaim.holds_of_wide 4 Tryz.f4 rfl rfl rfl rfl rfl rfl rfl ⟨rfl, rfl, rfl, rfl, rfl⟩ rfl rfl rfl rfl rfl (by kernel_rfl) fn4 (by kernel_rfl)
  (of_decide_eq_true (by kernel_rfl)) (by unfold Func.isWrapper; rw [if_neg (of_decide_eq_false (by kernel_rfl))]; exact ⟨rfl, rfl⟩)
  (fun os started H enc _ => rolesFirst_lifted os started H enc)
end Go.Proofs.YtjoepfedeidgaaaGreat
