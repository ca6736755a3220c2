/-
  The statement RolesSteps, whole: what any action makes of any state, or why it does not, is the document's, for all states, persons and actions. No condition.
-/
import Derived.Test.YtjoepfedeidgaaaGreatV2
import Derived.Test.YtjoepfedeidgaaaGreatV7
import Derived.Test.YtjoepfedeidgaaaGreatRows
set_option linter.all false
set_option linter.unusedSectionVars false
set_option maxHeartbeats 8000000
set_option maxRecDepth 20000
namespace Go.Proofs.YtjoepfedeidgaaaGreat
open Go.Vab
def wSt:Array Value:=#[.int .u32 0]++Array.replicate 64 (.int .u8 0)++#[.slice none 0 0]++Array.replicate 3 (.int .u8 0)++Array.replicate 5 (.slice none 0 0)
def wPt:Array Value:=Array.replicate 32 (.int .u8 0)
def wAct:Array Value:=#[.int .u32 0]++Array.replicate 98 (.int .u8 0)++#[.slice none 0 0]++Array.replicate 3 (.int .u8 0)++#[.slice none 0 0]
theorem rolesSteps_lifted (os : Os) (started : os.Started) (H : Type) (enc : TypeId × Value → H) :
  ReturnsInHanded {} Tryz.checked os 3 .any (Rows.rolesStepsSpec.pre6 enc Tryz.prog Tryz.f3 [] false) (Rows.rolesStepsSpec.post enc Tryz.prog Tryz.f3 false true false false):=by
 refine Vas.law_lifted_sized (b:=4) Z8 Vas.plainV Vas.ownV Vas.laidV started (by kernel_rfl) fn3 rfl (by kernel_rfl) (by kernel_rfl) Vas.boolV ?_
  (ChangeSpec.witness6 (enc:=enc) (C:=Tryz.checked) false ⟨#[],#[.agg wSt,.agg wPt,.agg wAct],[]⟩ 8 (by kernel_rfl) (by kernel_rfl) (by kernel_rfl) (by kernel_rfl)) (by kernel_rfl) (by kernel_rfl) ?_
 ·intro ds hd
  match ds,hd with
  | [_,_,_],_ => rfl
 ·intro xs h ⟨hl,hr⟩
  match xs,hl with
  | [a,b,c],_ =>
   obtain ⟨_,_,ht0,hy0,r0⟩:=hr 0 37 a rfl rfl
   obtain ⟨_,_,ht1,hy1,r1⟩:=hr 1 24 b rfl rfl
   obtain ⟨_,_,ht2,hy2,r2⟩:=hr 2 42 c rfl rfl
   obtain ⟨xa,_,_,_,_,_,_,rfl,ra⟩:=Vas.rd_st ht0 hy0 r0
   obtain ⟨xb,rfl⟩:=Vas.rd_pt _ _ _ (by cases ht1;exact hy1) r1
   obtain ⟨xc,_,_,rfl,rc⟩:=Vas.rd_act ht2 hy2 r2
   exact c3 ra rc
theorem rolesSteps_holds:Rows.RolesStepsSaid :=
 OpenClaim.holds_of_wide 3 Tryz.f3 rfl rfl rfl rfl rfl rfl rfl ⟨rfl,rfl,rfl,rfl,rfl⟩ rfl rfl rfl rfl rfl (by kernel_rfl) fn3 (by kernel_rfl)
  (of_decide_eq_true (by kernel_rfl)) (by unfold Func.isWrapper;rw [if_neg (of_decide_eq_false (by kernel_rfl))];exact ⟨rfl,rfl⟩)
  (fun os started H enc _ => rolesSteps_lifted os started H enc)
end Go.Proofs.YtjoepfedeidgaaaGreat
