/-
  No cell of these rows narrows 'for every input' (looked for: loops, veiled, ifaces, maps, wideKeys, modest, calm, conditions, laid).
  DERIVED. THE GIVEN ROWS OF THIS SEAT. 6 by the template 'for every input the law returns true; each argument reads behind the call as it read before'; 0 by the template 'total and deterministic' (their statements: YtjoepfedeidgaaaGreatTotals.lean).
  GIVEN WITH THE SEED: the statements are not yours to turn. If you find one false, say at which input.
  Laid BY PROGRAM, IN A SANDBOX (cutbox-rows.mjs): the forced cells as the released guide's own fill.sh prints them over the translation aac25dce5115e430… (all of the seat's roots in one cut). By AI agents, Wed Nov 11 2026. No macro, syntax, notation, axiom, sorry.
-/
import Derived.Test.YtjoepfedeidgaaaGreatChecked
import GoSem.Claim
import GoSem.ClaimJoined
import GoSem.ClaimMapViews
import Derived.JoinedTies
import Derived.KernelRfl
namespace Go.Proofs.YtjoepfedeidgaaaGreat
/- THE CELL 'sum', in the pinned program and in every row, IS THE sha256 OF THE DUMP (.gsa) THAT YtjoepfedeidgaaaGreatProg.lean LOADS. Nothing in Lean hashes anything: it is a label: what it is worth is what the hold of that sum in a sandbox is worth. -/
noncomputable def Tryz.pinned : Pinned := { name := "ytjoepfedeidgaaagreat", sum := "aac25dce5115e430e57de273d627049ac8e96deaa31dee73ccc1c8d885626739", checked := Tryz.checked }
namespace Rows
def none {H : Type} : Left H := { results := [], args := [] }

/-- 'vestrylaw19.RolesSteps': WHATEVER THE INPUT: true; the input reads as it did. -/
def rolesStepsSpec : ChangeSpec := { name := "rolesSteps", fn := fun _ => fun
  | [d1, d2, d3] => { results := [.lit (.bool true)], args := [d1, d2, d3] }
  | _ => none }
def rolesStepsRow : OpenClaim := { program := "ytjoepfedeidgaaagreat", sum := "aac25dce5115e430e57de273d627049ac8e96deaa31dee73ccc1c8d885626739", func := "vestry/vestrylaw19.RolesSteps", spec := "rolesSteps", inPlace := ["internal/bytealg.Compare", "slices.overlaps[vestry/api.Seat]", "slices.overlaps[vestry/api.Invite]", "slices.overlaps[vestry/api.Ask]", "slices.overlaps[vestry/api.Ban]"], unfollowed := true, recurses := true, plainKeys := false, apart := false }
def RolesStepsSaid : Prop := rolesStepsRow.holds Tryz.pinned (OpenSpec.ofChange rolesStepsSpec)

/-- ITS FALSE NEIGHBOUR: 'it returns false'. Refute it at one input. -/
def rolesStepsWrong : ChangeSpec := { name := "rolesSteps", fn := fun _ => fun
  | [d1, d2, d3] => { results := [.lit (.bool false)], args := [d1, d2, d3] }
  | _ => none }
def RolesStepsWrongFalsely : Prop := rolesStepsRow.holds Tryz.pinned (OpenSpec.ofChange rolesStepsWrong)

/-- 'vestrylaw19.RolesFirst': WHATEVER THE INPUT: true; the input reads as it did. -/
def rolesFirstSpec : ChangeSpec := { name := "rolesFirst", fn := fun _ => fun
  | [d1, d2, d3, d4, d5] => { results := [.lit (.bool true)], args := [d1, d2, d3, d4, d5] }
  | _ => none }
def rolesFirstRow : OpenClaim := { program := "ytjoepfedeidgaaagreat", sum := "aac25dce5115e430e57de273d627049ac8e96deaa31dee73ccc1c8d885626739", func := "vestry/vestrylaw19.RolesFirst", spec := "rolesFirst", inPlace := ["internal/bytealg.Compare", "slices.overlaps[vestry/api.Seat]", "slices.overlaps[vestry/api.Invite]", "slices.overlaps[vestry/api.Ask]", "slices.overlaps[vestry/api.Ban]"], unfollowed := true, recurses := true, plainKeys := false, apart := false }
def RolesFirstSaid : Prop := rolesFirstRow.holds Tryz.pinned (OpenSpec.ofChange rolesFirstSpec)

/-- ITS FALSE NEIGHBOUR: 'it returns false'. Refute it at one input. -/
def rolesFirstWrong : ChangeSpec := { name := "rolesFirst", fn := fun _ => fun
  | [d1, d2, d3, d4, d5] => { results := [.lit (.bool false)], args := [d1, d2, d3, d4, d5] }
  | _ => none }
def RolesFirstWrongFalsely : Prop := rolesFirstRow.holds Tryz.pinned (OpenSpec.ofChange rolesFirstWrong)

/-- 'vestrylaw19.RolesPlays': WHATEVER THE INPUT: true; the input reads as it did. -/
def rolesPlaysSpec : ChangeSpec := { name := "rolesPlays", fn := fun _ => fun
  | [d] => { results := [.lit (.bool true)], args := [d] }
  | _ => none }
def rolesPlaysRow : OpenClaim := { program := "ytjoepfedeidgaaagreat", sum := "aac25dce5115e430e57de273d627049ac8e96deaa31dee73ccc1c8d885626739", func := "vestry/vestrylaw19.RolesPlays", spec := "rolesPlays", inPlace := ["internal/bytealg.Compare", "slices.overlaps[vestry/api.Seat]", "slices.overlaps[vestry/api.Invite]", "slices.overlaps[vestry/api.Ask]", "slices.overlaps[vestry/api.Ban]"], unfollowed := true, recurses := true, plainKeys := false, apart := false }
def RolesPlaysSaid : Prop := rolesPlaysRow.holds Tryz.pinned (OpenSpec.ofChange rolesPlaysSpec)

/-- ITS FALSE NEIGHBOUR: 'it returns false'. Refute it at one input. -/
def rolesPlaysWrong : ChangeSpec := { name := "rolesPlays", fn := fun _ => fun
  | [d] => { results := [.lit (.bool false)], args := [d] }
  | _ => none }
def RolesPlaysWrongFalsely : Prop := rolesPlaysRow.holds Tryz.pinned (OpenSpec.ofChange rolesPlaysWrong)

/-- 'vestrylaw19.RolesApart': WHATEVER THE INPUT: true; the input reads as it did. -/
def rolesApartSpec : ChangeSpec := { name := "rolesApart", fn := fun _ => fun
  | [d1, d2, d3] => { results := [.lit (.bool true)], args := [d1, d2, d3] }
  | _ => none }
def rolesApartRow : OpenClaim := { program := "ytjoepfedeidgaaagreat", sum := "aac25dce5115e430e57de273d627049ac8e96deaa31dee73ccc1c8d885626739", func := "vestry/vestrylaw19.RolesApart", spec := "rolesApart", inPlace := ["internal/bytealg.Compare", "slices.overlaps[vestry/api.Seat]", "slices.overlaps[vestry/api.Invite]", "slices.overlaps[vestry/api.Ask]", "slices.overlaps[vestry/api.Ban]"], unfollowed := true, recurses := true, plainKeys := false, apart := false }
def RolesApartSaid : Prop := rolesApartRow.holds Tryz.pinned (OpenSpec.ofChange rolesApartSpec)

/-- ITS FALSE NEIGHBOUR: 'it returns false'. Refute it at one input. -/
def rolesApartWrong : ChangeSpec := { name := "rolesApart", fn := fun _ => fun
  | [d1, d2, d3] => { results := [.lit (.bool false)], args := [d1, d2, d3] }
  | _ => none }
def RolesApartWrongFalsely : Prop := rolesApartRow.holds Tryz.pinned (OpenSpec.ofChange rolesApartWrong)

/-- 'vestrylaw19.RolesDoes': WHATEVER THE INPUT: true; the input reads as it did. -/
def rolesDoesSpec : ChangeSpec := { name := "rolesDoes", fn := fun _ => fun
  | [d1, d2, d3] => { results := [.lit (.bool true)], args := [d1, d2, d3] }
  | _ => none }
def rolesDoesRow : OpenClaim := { program := "ytjoepfedeidgaaagreat", sum := "aac25dce5115e430e57de273d627049ac8e96deaa31dee73ccc1c8d885626739", func := "vestry/vestrylaw19.RolesDoes", spec := "rolesDoes", inPlace := ["internal/bytealg.Compare", "slices.overlaps[vestry/api.Seat]", "slices.overlaps[vestry/api.Invite]", "slices.overlaps[vestry/api.Ask]", "slices.overlaps[vestry/api.Ban]"], unfollowed := true, recurses := true, plainKeys := false, apart := false }
def RolesDoesSaid : Prop := rolesDoesRow.holds Tryz.pinned (OpenSpec.ofChange rolesDoesSpec)

/-- ITS FALSE NEIGHBOUR: 'it returns false'. Refute it at one input. -/
def rolesDoesWrong : ChangeSpec := { name := "rolesDoes", fn := fun _ => fun
  | [d1, d2, d3] => { results := [.lit (.bool false)], args := [d1, d2, d3] }
  | _ => none }
def RolesDoesWrongFalsely : Prop := rolesDoesRow.holds Tryz.pinned (OpenSpec.ofChange rolesDoesWrong)

/-- 'vestrylaw19.RolesBack': WHATEVER THE INPUT: true; the input reads as it did. -/
def rolesBackSpec : ChangeSpec := { name := "rolesBack", fn := fun _ => fun
  | [d1, d2, d3, d4] => { results := [.lit (.bool true)], args := [d1, d2, d3, d4] }
  | _ => none }
def rolesBackRow : OpenClaim := { program := "ytjoepfedeidgaaagreat", sum := "aac25dce5115e430e57de273d627049ac8e96deaa31dee73ccc1c8d885626739", func := "vestry/vestrylaw19.RolesBack", spec := "rolesBack", inPlace := ["internal/bytealg.Compare", "slices.overlaps[vestry/api.Seat]", "slices.overlaps[vestry/api.Invite]", "slices.overlaps[vestry/api.Ask]", "slices.overlaps[vestry/api.Ban]"], unfollowed := true, recurses := true, plainKeys := false, apart := false }
def RolesBackSaid : Prop := rolesBackRow.holds Tryz.pinned (OpenSpec.ofChange rolesBackSpec)

/-- ITS FALSE NEIGHBOUR: 'it returns false'. Refute it at one input. -/
def rolesBackWrong : ChangeSpec := { name := "rolesBack", fn := fun _ => fun
  | [d1, d2, d3, d4] => { results := [.lit (.bool false)], args := [d1, d2, d3, d4] }
  | _ => none }
def RolesBackWrongFalsely : Prop := rolesBackRow.holds Tryz.pinned (OpenSpec.ofChange rolesBackWrong)

/- THE SECOND FORM. 'bulk': how many values and letters a reading holds, each counted each time it is reached (what is shared counts as often as it is met; a slice's spare places count too). A statement '..UptoSaid' is the law's where the arguments, and the package variables that the reading takes, are together of bulk at most 1048576: NARROWER than '..Said'. Prove '..Said' where nothing that the law and all that it calls make is longer than what came in: it says more and counts as full. Else prove '..UptoSaid'. A law counts once. -/
mutual
def uptoBulk {H : Type} : DataW H → Nat
  | .lit (.string bytes) => bytes.length + 1
  | .lit _ => 1
  | .nil => 1
  | .ptr d => uptoBulk d + 1
  | .slice elems spare => uptoBulkAll elems + uptoBulkAll spare + 1
  | .agg parts => uptoBulkAll parts + 1
  | .iface _ d => uptoBulk d + 1
  | .map entries => uptoBulkEntries entries + 1
  | .held _ => 1
def uptoBulkAll {H : Type} : List (DataW H) → Nat
  | [] => 0
  | d :: r => uptoBulk d + uptoBulkAll r
def uptoBulkEntries {H : Type} : List (Lit × DataW H) → Nat
  | [] => 0
  | x :: r => uptoBulkEntry x + uptoBulkEntries r
def uptoBulkEntry {H : Type} : Lit × DataW H → Nat
  | (.string bytes, d) => bytes.length + uptoBulk d + 1
  | (_, d) => uptoBulk d + 1
 end
def uptoSmall : (H : Type) → List (DataW H) → Bool := fun _ ds => decide (uptoBulkAll ds ≤ 1048576)
def OpenSpec.upto (s : _root_.Go.ChangeSpec) : _root_.Go.OpenSpec := { _root_.Go.OpenSpec.ofChange s with cond := some uptoSmall }

/-- 'vestrylaw19.RolesSteps', WHERE WHAT IT READS IS OF BULK AT MOST 1048576: true; the input reads as it did. -/
def rolesStepsUptoRow : OpenClaim := { program := "ytjoepfedeidgaaagreat", sum := "aac25dce5115e430e57de273d627049ac8e96deaa31dee73ccc1c8d885626739", func := "vestry/vestrylaw19.RolesSteps", spec := "rolesSteps", inPlace := ["internal/bytealg.Compare", "slices.overlaps[vestry/api.Seat]", "slices.overlaps[vestry/api.Invite]", "slices.overlaps[vestry/api.Ask]", "slices.overlaps[vestry/api.Ban]"], unfollowed := true, recurses := true, plainKeys := false, apart := false, narrowed := true }
def RolesStepsUptoSaid : Prop := rolesStepsUptoRow.holds Tryz.pinned (OpenSpec.upto rolesStepsSpec)

/-- 'vestrylaw19.RolesFirst', WHERE WHAT IT READS IS OF BULK AT MOST 1048576: true; the input reads as it did. -/
def rolesFirstUptoRow : OpenClaim := { program := "ytjoepfedeidgaaagreat", sum := "aac25dce5115e430e57de273d627049ac8e96deaa31dee73ccc1c8d885626739", func := "vestry/vestrylaw19.RolesFirst", spec := "rolesFirst", inPlace := ["internal/bytealg.Compare", "slices.overlaps[vestry/api.Seat]", "slices.overlaps[vestry/api.Invite]", "slices.overlaps[vestry/api.Ask]", "slices.overlaps[vestry/api.Ban]"], unfollowed := true, recurses := true, plainKeys := false, apart := false, narrowed := true }
def RolesFirstUptoSaid : Prop := rolesFirstUptoRow.holds Tryz.pinned (OpenSpec.upto rolesFirstSpec)

/-- 'vestrylaw19.RolesPlays', WHERE WHAT IT READS IS OF BULK AT MOST 1048576: true; the input reads as it did. -/
def rolesPlaysUptoRow : OpenClaim := { program := "ytjoepfedeidgaaagreat", sum := "aac25dce5115e430e57de273d627049ac8e96deaa31dee73ccc1c8d885626739", func := "vestry/vestrylaw19.RolesPlays", spec := "rolesPlays", inPlace := ["internal/bytealg.Compare", "slices.overlaps[vestry/api.Seat]", "slices.overlaps[vestry/api.Invite]", "slices.overlaps[vestry/api.Ask]", "slices.overlaps[vestry/api.Ban]"], unfollowed := true, recurses := true, plainKeys := false, apart := false, narrowed := true }
def RolesPlaysUptoSaid : Prop := rolesPlaysUptoRow.holds Tryz.pinned (OpenSpec.upto rolesPlaysSpec)

/-- 'vestrylaw19.RolesApart', WHERE WHAT IT READS IS OF BULK AT MOST 1048576: true; the input reads as it did. -/
def rolesApartUptoRow : OpenClaim := { program := "ytjoepfedeidgaaagreat", sum := "aac25dce5115e430e57de273d627049ac8e96deaa31dee73ccc1c8d885626739", func := "vestry/vestrylaw19.RolesApart", spec := "rolesApart", inPlace := ["internal/bytealg.Compare", "slices.overlaps[vestry/api.Seat]", "slices.overlaps[vestry/api.Invite]", "slices.overlaps[vestry/api.Ask]", "slices.overlaps[vestry/api.Ban]"], unfollowed := true, recurses := true, plainKeys := false, apart := false, narrowed := true }
def RolesApartUptoSaid : Prop := rolesApartUptoRow.holds Tryz.pinned (OpenSpec.upto rolesApartSpec)

/-- 'vestrylaw19.RolesDoes', WHERE WHAT IT READS IS OF BULK AT MOST 1048576: true; the input reads as it did. -/
def rolesDoesUptoRow : OpenClaim := { program := "ytjoepfedeidgaaagreat", sum := "aac25dce5115e430e57de273d627049ac8e96deaa31dee73ccc1c8d885626739", func := "vestry/vestrylaw19.RolesDoes", spec := "rolesDoes", inPlace := ["internal/bytealg.Compare", "slices.overlaps[vestry/api.Seat]", "slices.overlaps[vestry/api.Invite]", "slices.overlaps[vestry/api.Ask]", "slices.overlaps[vestry/api.Ban]"], unfollowed := true, recurses := true, plainKeys := false, apart := false, narrowed := true }
def RolesDoesUptoSaid : Prop := rolesDoesUptoRow.holds Tryz.pinned (OpenSpec.upto rolesDoesSpec)

/-- 'vestrylaw19.RolesBack', WHERE WHAT IT READS IS OF BULK AT MOST 1048576: true; the input reads as it did. -/
def rolesBackUptoRow : OpenClaim := { program := "ytjoepfedeidgaaagreat", sum := "aac25dce5115e430e57de273d627049ac8e96deaa31dee73ccc1c8d885626739", func := "vestry/vestrylaw19.RolesBack", spec := "rolesBack", inPlace := ["internal/bytealg.Compare", "slices.overlaps[vestry/api.Seat]", "slices.overlaps[vestry/api.Invite]", "slices.overlaps[vestry/api.Ask]", "slices.overlaps[vestry/api.Ban]"], unfollowed := true, recurses := true, plainKeys := false, apart := false, narrowed := true }
def RolesBackUptoSaid : Prop := rolesBackUptoRow.holds Tryz.pinned (OpenSpec.upto rolesBackSpec)

end Rows
end Go.Proofs.YtjoepfedeidgaaaGreat
