/-
  No cell of these rows narrows 'for every input' (looked for: loops, veiled, ifaces, maps, wideKeys, modest, calm, conditions, laid).
  DERIVED. THE GIVEN ROWS OF THIS SEAT. 11 by the template 'for every input the law returns true; each argument reads behind the call as it read before'; 0 by the template 'total and deterministic' (their statements: YtfolmjdaemoojaaTotals.lean).
  GIVEN WITH THE SEED: the statements are not yours to turn. If you find one false, say at which input.
  Laid BY PROGRAM, IN A SANDBOX (cutbox-rows.mjs): the forced cells as the released guide's own fill.sh prints them over the translation 1422a18c8ed7aa7d… (all of the seat's roots in one cut). By AI agents, Wed Nov 11 2026. No macro, syntax, notation, axiom, sorry.
-/
import Derived.Test.YtfolmjdaemoojaaChecked
import GoSem.Claim
import GoSem.ClaimJoined
import GoSem.ClaimMapViews
import Derived.JoinedTies
import Derived.KernelRfl
namespace Go.Proofs.Ytfolmjdaemoojaa
/- THE CELL 'sum', in the pinned program and in every row, IS THE sha256 OF THE DUMP (.gsa) THAT YtfolmjdaemoojaaProg.lean LOADS. Nothing in Lean hashes anything: it is a label: what it is worth is what the hold of that sum in a sandbox is worth. -/
noncomputable def Try.pinned : Pinned := { name := "ytfolmjdaemoojaa", sum := "1422a18c8ed7aa7dffa166962122dd6c87080400d5201497652f8fa885291fed", checked := Try.checked }
namespace Rows
def none {H : Type} : Left H := { results := [], args := [] }

/-- 'vestrylaw08.AesElements': WHATEVER THE INPUT: true; the input reads as it did. -/
def aesElementsSpec : ChangeSpec := { name := "aesElements", fn := fun _ => fun
  | [d1, d2] => { results := [.lit (.bool true)], args := [d1, d2] }
  | _ => none }
def aesElementsRow : OpenClaim := { program := "ytfolmjdaemoojaa", sum := "1422a18c8ed7aa7dffa166962122dd6c87080400d5201497652f8fa885291fed", func := "vestry/vestrylaw08.AesElements", spec := "aesElements", apart := false }
def AesElementsSaid : Prop := aesElementsRow.holds Try.pinned (OpenSpec.ofChange aesElementsSpec)

/-- ITS FALSE NEIGHBOUR: 'it returns false'. Refute it at one input. -/
def aesElementsWrong : ChangeSpec := { name := "aesElements", fn := fun _ => fun
  | [d1, d2] => { results := [.lit (.bool false)], args := [d1, d2] }
  | _ => none }
def AesElementsWrongFalsely : Prop := aesElementsRow.holds Try.pinned (OpenSpec.ofChange aesElementsWrong)

/-- 'vestrylaw08.AesEncrypts': WHATEVER THE INPUT: true; the input reads as it did. -/
def aesEncryptsSpec : ChangeSpec := { name := "aesEncrypts", fn := fun _ => fun
  | [d1, d2] => { results := [.lit (.bool true)], args := [d1, d2] }
  | _ => none }
def aesEncryptsRow : OpenClaim := { program := "ytfolmjdaemoojaa", sum := "1422a18c8ed7aa7dffa166962122dd6c87080400d5201497652f8fa885291fed", func := "vestry/vestrylaw08.AesEncrypts", spec := "aesEncrypts", apart := false }
def AesEncryptsSaid : Prop := aesEncryptsRow.holds Try.pinned (OpenSpec.ofChange aesEncryptsSpec)

/-- ITS FALSE NEIGHBOUR: 'it returns false'. Refute it at one input. -/
def aesEncryptsWrong : ChangeSpec := { name := "aesEncrypts", fn := fun _ => fun
  | [d1, d2] => { results := [.lit (.bool false)], args := [d1, d2] }
  | _ => none }
def AesEncryptsWrongFalsely : Prop := aesEncryptsRow.holds Try.pinned (OpenSpec.ofChange aesEncryptsWrong)

/-- 'vestrylaw08.AesField': WHATEVER THE INPUT: true; the input reads as it did. -/
def aesFieldSpec : ChangeSpec := { name := "aesField", fn := fun _ => fun
  | [d1, d2, d3] => { results := [.lit (.bool true)], args := [d1, d2, d3] }
  | _ => none }
def aesFieldRow : OpenClaim := { program := "ytfolmjdaemoojaa", sum := "1422a18c8ed7aa7dffa166962122dd6c87080400d5201497652f8fa885291fed", func := "vestry/vestrylaw08.AesField", spec := "aesField", apart := false }
def AesFieldSaid : Prop := aesFieldRow.holds Try.pinned (OpenSpec.ofChange aesFieldSpec)

/-- ITS FALSE NEIGHBOUR: 'it returns false'. Refute it at one input. -/
def aesFieldWrong : ChangeSpec := { name := "aesField", fn := fun _ => fun
  | [d1, d2, d3] => { results := [.lit (.bool false)], args := [d1, d2, d3] }
  | _ => none }
def AesFieldWrongFalsely : Prop := aesFieldRow.holds Try.pinned (OpenSpec.ofChange aesFieldWrong)

/-- 'vestrylaw08.AesUnlike': WHATEVER THE INPUT: true; the input reads as it did. -/
def aesUnlikeSpec : ChangeSpec := { name := "aesUnlike", fn := fun _ => fun
  | [d1, d2, d3, d4] => { results := [.lit (.bool true)], args := [d1, d2, d3, d4] }
  | _ => none }
def aesUnlikeRow : OpenClaim := { program := "ytfolmjdaemoojaa", sum := "1422a18c8ed7aa7dffa166962122dd6c87080400d5201497652f8fa885291fed", func := "vestry/vestrylaw08.AesUnlike", spec := "aesUnlike", apart := false }
def AesUnlikeSaid : Prop := aesUnlikeRow.holds Try.pinned (OpenSpec.ofChange aesUnlikeSpec)

/-- ITS FALSE NEIGHBOUR: 'it returns false'. Refute it at one input. -/
def aesUnlikeWrong : ChangeSpec := { name := "aesUnlike", fn := fun _ => fun
  | [d1, d2, d3, d4] => { results := [.lit (.bool false)], args := [d1, d2, d3, d4] }
  | _ => none }
def AesUnlikeWrongFalsely : Prop := aesUnlikeRow.holds Try.pinned (OpenSpec.ofChange aesUnlikeWrong)

/-- 'vestrylaw08.AesWords': WHATEVER THE INPUT: true; the input reads as it did. -/
def aesWordsSpec : ChangeSpec := { name := "aesWords", fn := fun _ => fun
  | [d] => { results := [.lit (.bool true)], args := [d] }
  | _ => none }
def aesWordsRow : OpenClaim := { program := "ytfolmjdaemoojaa", sum := "1422a18c8ed7aa7dffa166962122dd6c87080400d5201497652f8fa885291fed", func := "vestry/vestrylaw08.AesWords", spec := "aesWords", apart := false }
def AesWordsSaid : Prop := aesWordsRow.holds Try.pinned (OpenSpec.ofChange aesWordsSpec)

/-- ITS FALSE NEIGHBOUR: 'it returns false'. Refute it at one input. -/
def aesWordsWrong : ChangeSpec := { name := "aesWords", fn := fun _ => fun
  | [d] => { results := [.lit (.bool false)], args := [d] }
  | _ => none }
def AesWordsWrongFalsely : Prop := aesWordsRow.holds Try.pinned (OpenSpec.ofChange aesWordsWrong)

/-- 'vestrylaw09.SivSeals': WHATEVER THE INPUT: true; the input reads as it did. -/
def sivSealsSpec : ChangeSpec := { name := "sivSeals", fn := fun _ => fun
  | [d1, d2, d3, d4] => { results := [.lit (.bool true)], args := [d1, d2, d3, d4] }
  | _ => none }
def sivSealsRow : OpenClaim := { program := "ytfolmjdaemoojaa", sum := "1422a18c8ed7aa7dffa166962122dd6c87080400d5201497652f8fa885291fed", func := "vestry/vestrylaw09.SivSeals", spec := "sivSeals", unfollowed := true, recurses := true, apart := false }
def SivSealsSaid : Prop := sivSealsRow.holds Try.pinned (OpenSpec.ofChange sivSealsSpec)

/-- ITS FALSE NEIGHBOUR: 'it returns false'. Refute it at one input. -/
def sivSealsWrong : ChangeSpec := { name := "sivSeals", fn := fun _ => fun
  | [d1, d2, d3, d4] => { results := [.lit (.bool false)], args := [d1, d2, d3, d4] }
  | _ => none }
def SivSealsWrongFalsely : Prop := sivSealsRow.holds Try.pinned (OpenSpec.ofChange sivSealsWrong)

/-- 'vestrylaw09.SivOpens': WHATEVER THE INPUT: true; the input reads as it did. -/
def sivOpensSpec : ChangeSpec := { name := "sivOpens", fn := fun _ => fun
  | [d1, d2, d3, d4] => { results := [.lit (.bool true)], args := [d1, d2, d3, d4] }
  | _ => none }
def sivOpensRow : OpenClaim := { program := "ytfolmjdaemoojaa", sum := "1422a18c8ed7aa7dffa166962122dd6c87080400d5201497652f8fa885291fed", func := "vestry/vestrylaw09.SivOpens", spec := "sivOpens", unfollowed := true, recurses := true, apart := false }
def SivOpensSaid : Prop := sivOpensRow.holds Try.pinned (OpenSpec.ofChange sivOpensSpec)

/-- ITS FALSE NEIGHBOUR: 'it returns false'. Refute it at one input. -/
def sivOpensWrong : ChangeSpec := { name := "sivOpens", fn := fun _ => fun
  | [d1, d2, d3, d4] => { results := [.lit (.bool false)], args := [d1, d2, d3, d4] }
  | _ => none }
def SivOpensWrongFalsely : Prop := sivOpensRow.holds Try.pinned (OpenSpec.ofChange sivOpensWrong)

/-- 'vestrylaw09.SivBack': WHATEVER THE INPUT: true; the input reads as it did. -/
def sivBackSpec : ChangeSpec := { name := "sivBack", fn := fun _ => fun
  | [d1, d2, d3, d4] => { results := [.lit (.bool true)], args := [d1, d2, d3, d4] }
  | _ => none }
def sivBackRow : OpenClaim := { program := "ytfolmjdaemoojaa", sum := "1422a18c8ed7aa7dffa166962122dd6c87080400d5201497652f8fa885291fed", func := "vestry/vestrylaw09.SivBack", spec := "sivBack", unfollowed := true, recurses := true, apart := false }
def SivBackSaid : Prop := sivBackRow.holds Try.pinned (OpenSpec.ofChange sivBackSpec)

/-- ITS FALSE NEIGHBOUR: 'it returns false'. Refute it at one input. -/
def sivBackWrong : ChangeSpec := { name := "sivBack", fn := fun _ => fun
  | [d1, d2, d3, d4] => { results := [.lit (.bool false)], args := [d1, d2, d3, d4] }
  | _ => none }
def SivBackWrongFalsely : Prop := sivBackRow.holds Try.pinned (OpenSpec.ofChange sivBackWrong)

/-- 'vestrylaw09.SivDots': WHATEVER THE INPUT: true; the input reads as it did. -/
def sivDotsSpec : ChangeSpec := { name := "sivDots", fn := fun _ => fun
  | [d1, d2] => { results := [.lit (.bool true)], args := [d1, d2] }
  | _ => none }
def sivDotsRow : OpenClaim := { program := "ytfolmjdaemoojaa", sum := "1422a18c8ed7aa7dffa166962122dd6c87080400d5201497652f8fa885291fed", func := "vestry/vestrylaw09.SivDots", spec := "sivDots", unfollowed := true, recurses := true, apart := false }
def SivDotsSaid : Prop := sivDotsRow.holds Try.pinned (OpenSpec.ofChange sivDotsSpec)

/-- ITS FALSE NEIGHBOUR: 'it returns false'. Refute it at one input. -/
def sivDotsWrong : ChangeSpec := { name := "sivDots", fn := fun _ => fun
  | [d1, d2] => { results := [.lit (.bool false)], args := [d1, d2] }
  | _ => none }
def SivDotsWrongFalsely : Prop := sivDotsRow.holds Try.pinned (OpenSpec.ofChange sivDotsWrong)

/-- 'vestrylaw09.SivPolyval': WHATEVER THE INPUT: true; the input reads as it did. -/
def sivPolyvalSpec : ChangeSpec := { name := "sivPolyval", fn := fun _ => fun
  | [d1, d2, d3, d4] => { results := [.lit (.bool true)], args := [d1, d2, d3, d4] }
  | _ => none }
def sivPolyvalRow : OpenClaim := { program := "ytfolmjdaemoojaa", sum := "1422a18c8ed7aa7dffa166962122dd6c87080400d5201497652f8fa885291fed", func := "vestry/vestrylaw09.SivPolyval", spec := "sivPolyval", unfollowed := true, recurses := true, apart := false }
def SivPolyvalSaid : Prop := sivPolyvalRow.holds Try.pinned (OpenSpec.ofChange sivPolyvalSpec)

/-- ITS FALSE NEIGHBOUR: 'it returns false'. Refute it at one input. -/
def sivPolyvalWrong : ChangeSpec := { name := "sivPolyval", fn := fun _ => fun
  | [d1, d2, d3, d4] => { results := [.lit (.bool false)], args := [d1, d2, d3, d4] }
  | _ => none }
def SivPolyvalWrongFalsely : Prop := sivPolyvalRow.holds Try.pinned (OpenSpec.ofChange sivPolyvalWrong)

/-- 'vestrylaw09.SivField': WHATEVER THE INPUT: true; the input reads as it did. -/
def sivFieldSpec : ChangeSpec := { name := "sivField", fn := fun _ => fun
  | [d1, d2, d3] => { results := [.lit (.bool true)], args := [d1, d2, d3] }
  | _ => none }
def sivFieldRow : OpenClaim := { program := "ytfolmjdaemoojaa", sum := "1422a18c8ed7aa7dffa166962122dd6c87080400d5201497652f8fa885291fed", func := "vestry/vestrylaw09.SivField", spec := "sivField", unfollowed := true, recurses := true, apart := false }
def SivFieldSaid : Prop := sivFieldRow.holds Try.pinned (OpenSpec.ofChange sivFieldSpec)

/-- ITS FALSE NEIGHBOUR: 'it returns false'. Refute it at one input. -/
def sivFieldWrong : ChangeSpec := { name := "sivField", fn := fun _ => fun
  | [d1, d2, d3] => { results := [.lit (.bool false)], args := [d1, d2, d3] }
  | _ => none }
def SivFieldWrongFalsely : Prop := sivFieldRow.holds Try.pinned (OpenSpec.ofChange sivFieldWrong)

/- THE SECOND FORM. 'bulk': how many values and letters a reading holds, each counted each time it is reached (what is shared counts as often as it is met; a slice's spare places count too). A statement '..UptoSaid' is the law's where the arguments, and the package variables that the reading takes, are together of bulk at most 1048576: NARROWER than '..Said'. Prove '..Said' where nothing that the law and all that it calls make is longer than what came in: it says more and counts as full. Else prove '..UptoSaid'. A law counts once. -/
mutual
def uptoBulk {H : Type} : DataW H → Nat
  | .lit (.string bytes) => bytes.length + 1
  | .lit _ => 1
  | .nil => 1
  | .ptr d => uptoBulk d + 1
  | .slice elems spare => uptoBulkAll elems + uptoBulkAll spare + 1
  | .agg parts => uptoBulkAll parts + 1
  | .iface _ d => uptoBulk d + 1
  | .map entries => uptoBulkEntries entries + 1
  | .held _ => 1
def uptoBulkAll {H : Type} : List (DataW H) → Nat
  | [] => 0
  | d :: r => uptoBulk d + uptoBulkAll r
def uptoBulkEntries {H : Type} : List (Lit × DataW H) → Nat
  | [] => 0
  | x :: r => uptoBulkEntry x + uptoBulkEntries r
def uptoBulkEntry {H : Type} : Lit × DataW H → Nat
  | (.string bytes, d) => bytes.length + uptoBulk d + 1
  | (_, d) => uptoBulk d + 1
 end
def uptoSmall : (H : Type) → List (DataW H) → Bool := fun _ ds => decide (uptoBulkAll ds ≤ 1048576)
def OpenSpec.upto (s : _root_.Go.ChangeSpec) : _root_.Go.OpenSpec := { _root_.Go.OpenSpec.ofChange s with cond := some uptoSmall }

/-- 'vestrylaw08.AesElements', WHERE WHAT IT READS IS OF BULK AT MOST 1048576: true; the input reads as it did. -/
def aesElementsUptoRow : OpenClaim := { program := "ytfolmjdaemoojaa", sum := "1422a18c8ed7aa7dffa166962122dd6c87080400d5201497652f8fa885291fed", func := "vestry/vestrylaw08.AesElements", spec := "aesElements", apart := false, narrowed := true }
def AesElementsUptoSaid : Prop := aesElementsUptoRow.holds Try.pinned (OpenSpec.upto aesElementsSpec)

/-- 'vestrylaw08.AesEncrypts', WHERE WHAT IT READS IS OF BULK AT MOST 1048576: true; the input reads as it did. -/
def aesEncryptsUptoRow : OpenClaim := { program := "ytfolmjdaemoojaa", sum := "1422a18c8ed7aa7dffa166962122dd6c87080400d5201497652f8fa885291fed", func := "vestry/vestrylaw08.AesEncrypts", spec := "aesEncrypts", apart := false, narrowed := true }
def AesEncryptsUptoSaid : Prop := aesEncryptsUptoRow.holds Try.pinned (OpenSpec.upto aesEncryptsSpec)

/-- 'vestrylaw08.AesField', WHERE WHAT IT READS IS OF BULK AT MOST 1048576: true; the input reads as it did. -/
def aesFieldUptoRow : OpenClaim := { program := "ytfolmjdaemoojaa", sum := "1422a18c8ed7aa7dffa166962122dd6c87080400d5201497652f8fa885291fed", func := "vestry/vestrylaw08.AesField", spec := "aesField", apart := false, narrowed := true }
def AesFieldUptoSaid : Prop := aesFieldUptoRow.holds Try.pinned (OpenSpec.upto aesFieldSpec)

/-- 'vestrylaw08.AesUnlike', WHERE WHAT IT READS IS OF BULK AT MOST 1048576: true; the input reads as it did. -/
def aesUnlikeUptoRow : OpenClaim := { program := "ytfolmjdaemoojaa", sum := "1422a18c8ed7aa7dffa166962122dd6c87080400d5201497652f8fa885291fed", func := "vestry/vestrylaw08.AesUnlike", spec := "aesUnlike", apart := false, narrowed := true }
def AesUnlikeUptoSaid : Prop := aesUnlikeUptoRow.holds Try.pinned (OpenSpec.upto aesUnlikeSpec)

/-- 'vestrylaw08.AesWords', WHERE WHAT IT READS IS OF BULK AT MOST 1048576: true; the input reads as it did. -/
def aesWordsUptoRow : OpenClaim := { program := "ytfolmjdaemoojaa", sum := "1422a18c8ed7aa7dffa166962122dd6c87080400d5201497652f8fa885291fed", func := "vestry/vestrylaw08.AesWords", spec := "aesWords", apart := false, narrowed := true }
def AesWordsUptoSaid : Prop := aesWordsUptoRow.holds Try.pinned (OpenSpec.upto aesWordsSpec)

/-- 'vestrylaw09.SivSeals', WHERE WHAT IT READS IS OF BULK AT MOST 1048576: true; the input reads as it did. -/
def sivSealsUptoRow : OpenClaim := { program := "ytfolmjdaemoojaa", sum := "1422a18c8ed7aa7dffa166962122dd6c87080400d5201497652f8fa885291fed", func := "vestry/vestrylaw09.SivSeals", spec := "sivSeals", unfollowed := true, recurses := true, apart := false, narrowed := true }
def SivSealsUptoSaid : Prop := sivSealsUptoRow.holds Try.pinned (OpenSpec.upto sivSealsSpec)

/-- 'vestrylaw09.SivOpens', WHERE WHAT IT READS IS OF BULK AT MOST 1048576: true; the input reads as it did. -/
def sivOpensUptoRow : OpenClaim := { program := "ytfolmjdaemoojaa", sum := "1422a18c8ed7aa7dffa166962122dd6c87080400d5201497652f8fa885291fed", func := "vestry/vestrylaw09.SivOpens", spec := "sivOpens", unfollowed := true, recurses := true, apart := false, narrowed := true }
def SivOpensUptoSaid : Prop := sivOpensUptoRow.holds Try.pinned (OpenSpec.upto sivOpensSpec)

/-- 'vestrylaw09.SivBack', WHERE WHAT IT READS IS OF BULK AT MOST 1048576: true; the input reads as it did. -/
def sivBackUptoRow : OpenClaim := { program := "ytfolmjdaemoojaa", sum := "1422a18c8ed7aa7dffa166962122dd6c87080400d5201497652f8fa885291fed", func := "vestry/vestrylaw09.SivBack", spec := "sivBack", unfollowed := true, recurses := true, apart := false, narrowed := true }
def SivBackUptoSaid : Prop := sivBackUptoRow.holds Try.pinned (OpenSpec.upto sivBackSpec)

/-- 'vestrylaw09.SivDots', WHERE WHAT IT READS IS OF BULK AT MOST 1048576: true; the input reads as it did. -/
def sivDotsUptoRow : OpenClaim := { program := "ytfolmjdaemoojaa", sum := "1422a18c8ed7aa7dffa166962122dd6c87080400d5201497652f8fa885291fed", func := "vestry/vestrylaw09.SivDots", spec := "sivDots", unfollowed := true, recurses := true, apart := false, narrowed := true }
def SivDotsUptoSaid : Prop := sivDotsUptoRow.holds Try.pinned (OpenSpec.upto sivDotsSpec)

/-- 'vestrylaw09.SivPolyval', WHERE WHAT IT READS IS OF BULK AT MOST 1048576: true; the input reads as it did. -/
def sivPolyvalUptoRow : OpenClaim := { program := "ytfolmjdaemoojaa", sum := "1422a18c8ed7aa7dffa166962122dd6c87080400d5201497652f8fa885291fed", func := "vestry/vestrylaw09.SivPolyval", spec := "sivPolyval", unfollowed := true, recurses := true, apart := false, narrowed := true }
def SivPolyvalUptoSaid : Prop := sivPolyvalUptoRow.holds Try.pinned (OpenSpec.upto sivPolyvalSpec)

/-- 'vestrylaw09.SivField', WHERE WHAT IT READS IS OF BULK AT MOST 1048576: true; the input reads as it did. -/
def sivFieldUptoRow : OpenClaim := { program := "ytfolmjdaemoojaa", sum := "1422a18c8ed7aa7dffa166962122dd6c87080400d5201497652f8fa885291fed", func := "vestry/vestrylaw09.SivField", spec := "sivField", unfollowed := true, recurses := true, apart := false, narrowed := true }
def SivFieldUptoSaid : Prop := sivFieldUptoRow.holds Try.pinned (OpenSpec.upto sivFieldSpec)

end Rows
end Go.Proofs.Ytfolmjdaemoojaa
