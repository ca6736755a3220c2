/-
  No cell of these rows narrows 'for every input' (looked for: loops, veiled, ifaces, maps, wideKeys, modest, calm, conditions, laid).
  DERIVED. THE GIVEN ROWS OF THIS SEAT. 3 by the template 'for every input the law returns true; each argument reads behind the call as it read before'; 0 by the template 'total and deterministic' (their statements: YtdmcbbeebjcagaaTotals.lean).
  GIVEN WITH THE SEED: the statements are not yours to turn. If you find one false, say at which input.
  Laid BY PROGRAM, IN A SANDBOX (cutbox-rows.mjs): the forced cells as the released guide's own fill.sh prints them over the translation ef8301eccd5e27f4… (all of the seat's roots in one cut). By AI agents, Wed Nov 11 2026. No macro, syntax, notation, axiom, sorry.
-/
import Derived.Test.YtdmcbbeebjcagaaChecked
import GoSem.Claim
import GoSem.ClaimJoined
import GoSem.ClaimMapViews
import Derived.JoinedTies
import Derived.KernelRfl
namespace Go.Proofs.Ytdmcbbeebjcagaa
/- THE CELL 'sum', in the pinned program and in every row, IS THE sha256 OF THE DUMP (.gsa) THAT YtdmcbbeebjcagaaProg.lean LOADS. Nothing in Lean hashes anything: it is a label: what it is worth is what the hold of that sum in a sandbox is worth. -/
noncomputable def Try.pinned : Pinned := { name := "ytdmcbbeebjcagaa", sum := "ef8301eccd5e27f4f19733527b16ff6d74b007c851486e52841b57efe507e826", checked := Try.checked }
namespace Rows
def none {H : Type} : Left H := { results := [], args := [] }

/-- 'vestrylaw18.FormsSame': WHATEVER THE INPUT: true; the input reads as it did. -/
def formsSameSpec : ChangeSpec := { name := "formsSame", fn := fun _ => fun
  | [d1, d2, d3, d4] => { results := [.lit (.bool true)], args := [d1, d2, d3, d4] }
  | _ => none }
def formsSameRow : OpenClaim := { program := "ytdmcbbeebjcagaa", sum := "ef8301eccd5e27f4f19733527b16ff6d74b007c851486e52841b57efe507e826", func := "vestry/vestrylaw18.FormsSame", spec := "formsSame", plainKeys := false, apart := false }
def FormsSameSaid : Prop := formsSameRow.holds Try.pinned (OpenSpec.ofChange formsSameSpec)

/-- ITS FALSE NEIGHBOUR: 'it returns false'. Refute it at one input. -/
def formsSameWrong : ChangeSpec := { name := "formsSame", fn := fun _ => fun
  | [d1, d2, d3, d4] => { results := [.lit (.bool false)], args := [d1, d2, d3, d4] }
  | _ => none }
def FormsSameWrongFalsely : Prop := formsSameRow.holds Try.pinned (OpenSpec.ofChange formsSameWrong)

/-- 'vestrylaw18.FormsAlike': WHATEVER THE INPUT: true; the input reads as it did. -/
def formsAlikeSpec : ChangeSpec := { name := "formsAlike", fn := fun _ => fun
  | [d1, d2, d3, d4] => { results := [.lit (.bool true)], args := [d1, d2, d3, d4] }
  | _ => none }
def formsAlikeRow : OpenClaim := { program := "ytdmcbbeebjcagaa", sum := "ef8301eccd5e27f4f19733527b16ff6d74b007c851486e52841b57efe507e826", func := "vestry/vestrylaw18.FormsAlike", spec := "formsAlike", unfollowed := true, recurses := true, plainKeys := false, apart := false }
def FormsAlikeSaid : Prop := formsAlikeRow.holds Try.pinned (OpenSpec.ofChange formsAlikeSpec)

/-- ITS FALSE NEIGHBOUR: 'it returns false'. Refute it at one input. -/
def formsAlikeWrong : ChangeSpec := { name := "formsAlike", fn := fun _ => fun
  | [d1, d2, d3, d4] => { results := [.lit (.bool false)], args := [d1, d2, d3, d4] }
  | _ => none }
def FormsAlikeWrongFalsely : Prop := formsAlikeRow.holds Try.pinned (OpenSpec.ofChange formsAlikeWrong)

/-- 'vestrylaw18.FormsOne': WHATEVER THE INPUT: true; the input reads as it did. -/
def formsOneSpec : ChangeSpec := { name := "formsOne", fn := fun _ => fun
  | [d1, d2, d3, d4] => { results := [.lit (.bool true)], args := [d1, d2, d3, d4] }
  | _ => none }
def formsOneRow : OpenClaim := { program := "ytdmcbbeebjcagaa", sum := "ef8301eccd5e27f4f19733527b16ff6d74b007c851486e52841b57efe507e826", func := "vestry/vestrylaw18.FormsOne", spec := "formsOne", inPlace := ["internal/bytealg.Compare"], unfollowed := true, recurses := true, plainKeys := false, apart := false }
def FormsOneSaid : Prop := formsOneRow.holds Try.pinned (OpenSpec.ofChange formsOneSpec)

/-- ITS FALSE NEIGHBOUR: 'it returns false'. Refute it at one input. -/
def formsOneWrong : ChangeSpec := { name := "formsOne", fn := fun _ => fun
  | [d1, d2, d3, d4] => { results := [.lit (.bool false)], args := [d1, d2, d3, d4] }
  | _ => none }
def FormsOneWrongFalsely : Prop := formsOneRow.holds Try.pinned (OpenSpec.ofChange formsOneWrong)

/- THE SECOND FORM. 'bulk': how many values and letters a reading holds, each counted each time it is reached (what is shared counts as often as it is met; a slice's spare places count too). A statement '..UptoSaid' is the law's where the arguments, and the package variables that the reading takes, are together of bulk at most 1048576: NARROWER than '..Said'. Prove '..Said' where nothing that the law and all that it calls make is longer than what came in: it says more and counts as full. Else prove '..UptoSaid'. A law counts once. -/
mutual
def uptoBulk {H : Type} : DataW H → Nat
  | .lit (.string bytes) => bytes.length + 1
  | .lit _ => 1
  | .nil => 1
  | .ptr d => uptoBulk d + 1
  | .slice elems spare => uptoBulkAll elems + uptoBulkAll spare + 1
  | .agg parts => uptoBulkAll parts + 1
  | .iface _ d => uptoBulk d + 1
  | .map entries => uptoBulkEntries entries + 1
  | .held _ => 1
def uptoBulkAll {H : Type} : List (DataW H) → Nat
  | [] => 0
  | d :: r => uptoBulk d + uptoBulkAll r
def uptoBulkEntries {H : Type} : List (Lit × DataW H) → Nat
  | [] => 0
  | x :: r => uptoBulkEntry x + uptoBulkEntries r
def uptoBulkEntry {H : Type} : Lit × DataW H → Nat
  | (.string bytes, d) => bytes.length + uptoBulk d + 1
  | (_, d) => uptoBulk d + 1
 end
def uptoSmall : (H : Type) → List (DataW H) → Bool := fun _ ds => decide (uptoBulkAll ds ≤ 1048576)
def OpenSpec.upto (s : _root_.Go.ChangeSpec) : _root_.Go.OpenSpec := { _root_.Go.OpenSpec.ofChange s with cond := some uptoSmall }

/-- 'vestrylaw18.FormsSame', WHERE WHAT IT READS IS OF BULK AT MOST 1048576: true; the input reads as it did. -/
def formsSameUptoRow : OpenClaim := { program := "ytdmcbbeebjcagaa", sum := "ef8301eccd5e27f4f19733527b16ff6d74b007c851486e52841b57efe507e826", func := "vestry/vestrylaw18.FormsSame", spec := "formsSame", plainKeys := false, apart := false, narrowed := true }
def FormsSameUptoSaid : Prop := formsSameUptoRow.holds Try.pinned (OpenSpec.upto formsSameSpec)

/-- 'vestrylaw18.FormsAlike', WHERE WHAT IT READS IS OF BULK AT MOST 1048576: true; the input reads as it did. -/
def formsAlikeUptoRow : OpenClaim := { program := "ytdmcbbeebjcagaa", sum := "ef8301eccd5e27f4f19733527b16ff6d74b007c851486e52841b57efe507e826", func := "vestry/vestrylaw18.FormsAlike", spec := "formsAlike", unfollowed := true, recurses := true, plainKeys := false, apart := false, narrowed := true }
def FormsAlikeUptoSaid : Prop := formsAlikeUptoRow.holds Try.pinned (OpenSpec.upto formsAlikeSpec)

/-- 'vestrylaw18.FormsOne', WHERE WHAT IT READS IS OF BULK AT MOST 1048576: true; the input reads as it did. -/
def formsOneUptoRow : OpenClaim := { program := "ytdmcbbeebjcagaa", sum := "ef8301eccd5e27f4f19733527b16ff6d74b007c851486e52841b57efe507e826", func := "vestry/vestrylaw18.FormsOne", spec := "formsOne", inPlace := ["internal/bytealg.Compare"], unfollowed := true, recurses := true, plainKeys := false, apart := false, narrowed := true }
def FormsOneUptoSaid : Prop := formsOneUptoRow.holds Try.pinned (OpenSpec.upto formsOneSpec)

end Rows
end Go.Proofs.Ytdmcbbeebjcagaa
