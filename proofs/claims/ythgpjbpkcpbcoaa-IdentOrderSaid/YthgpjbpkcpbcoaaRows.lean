/-
  No cell of these rows narrows 'for every input' (looked for: loops, veiled, ifaces, maps, wideKeys, modest, calm, conditions, laid).
  DERIVED. THE GIVEN ROWS OF THIS SEAT. 5 by the template 'for every input the law returns true; each argument reads behind the call as it read before'; 0 by the template 'total and deterministic' (their statements: YthgpjbpkcpbcoaaTotals.lean).
  GIVEN WITH THE SEED: the statements are not yours to turn. If you find one false, say at which input.
  Laid BY PROGRAM, IN A SANDBOX (cutbox-rows.mjs): the forced cells as the released guide's own fill.sh prints them over the translation 75373a17bd3a48fe… (all of the seat's roots in one cut). By AI agents, Wed Nov 11 2026. No macro, syntax, notation, axiom, sorry.
-/
import Derived.Test.YthgpjbpkcpbcoaaChecked
import GoSem.Claim
import GoSem.ClaimJoined
import GoSem.ClaimMapViews
import Derived.JoinedTies
import Derived.KernelRfl
namespace Go.Proofs.Ythgpjbpkcpbcoaa
/- THE CELL 'sum', in the pinned program and in every row, IS THE sha256 OF THE DUMP (.gsa) THAT YthgpjbpkcpbcoaaProg.lean LOADS. Nothing in Lean hashes anything: it is a label: what it is worth is what the hold of that sum in a sandbox is worth. -/
noncomputable def Try.pinned : Pinned := { name := "ythgpjbpkcpbcoaa", sum := "75373a17bd3a48fe10bdd9bb0ca59cc9963c70383af9c1d459fa159b9307d2b2", checked := Try.checked }
namespace Rows
def none {H : Type} : Left H := { results := [], args := [] }

/-- 'rubatolaw02.IdentNumbers': WHATEVER THE INPUT: true; the input reads as it did. -/
def identNumbersSpec : ChangeSpec := { name := "identNumbers", fn := fun _ => fun
  | [d1, d2, d3] => { results := [.lit (.bool true)], args := [d1, d2, d3] }
  | _ => none }
def identNumbersRow : OpenClaim := { program := "ythgpjbpkcpbcoaa", sum := "75373a17bd3a48fe10bdd9bb0ca59cc9963c70383af9c1d459fa159b9307d2b2", func := "rubato/rubatolaw02.IdentNumbers", spec := "identNumbers", unfollowed := true, recurses := true, apart := false }
def IdentNumbersSaid : Prop := identNumbersRow.holds Try.pinned (OpenSpec.ofChange identNumbersSpec)

/-- ITS FALSE NEIGHBOUR: 'it returns false'. Refute it at one input. -/
def identNumbersWrong : ChangeSpec := { name := "identNumbers", fn := fun _ => fun
  | [d1, d2, d3] => { results := [.lit (.bool false)], args := [d1, d2, d3] }
  | _ => none }
def IdentNumbersWrongFalsely : Prop := identNumbersRow.holds Try.pinned (OpenSpec.ofChange identNumbersWrong)

/-- 'rubatolaw02.IdentSorts': WHATEVER THE INPUT: true; the input reads as it did. -/
def identSortsSpec : ChangeSpec := { name := "identSorts", fn := fun _ => fun
  | [d1, d2, d3] => { results := [.lit (.bool true)], args := [d1, d2, d3] }
  | _ => none }
def identSortsRow : OpenClaim := { program := "ythgpjbpkcpbcoaa", sum := "75373a17bd3a48fe10bdd9bb0ca59cc9963c70383af9c1d459fa159b9307d2b2", func := "rubato/rubatolaw02.IdentSorts", spec := "identSorts", unfollowed := true, recurses := true, apart := false }
def IdentSortsSaid : Prop := identSortsRow.holds Try.pinned (OpenSpec.ofChange identSortsSpec)

/-- ITS FALSE NEIGHBOUR: 'it returns false'. Refute it at one input. -/
def identSortsWrong : ChangeSpec := { name := "identSorts", fn := fun _ => fun
  | [d1, d2, d3] => { results := [.lit (.bool false)], args := [d1, d2, d3] }
  | _ => none }
def IdentSortsWrongFalsely : Prop := identSortsRow.holds Try.pinned (OpenSpec.ofChange identSortsWrong)

/-- 'rubatolaw02.IdentTurns': WHATEVER THE INPUT: true; the input reads as it did. -/
def identTurnsSpec : ChangeSpec := { name := "identTurns", fn := fun _ => fun
  | [d1, d2, d3] => { results := [.lit (.bool true)], args := [d1, d2, d3] }
  | _ => none }
def identTurnsRow : OpenClaim := { program := "ythgpjbpkcpbcoaa", sum := "75373a17bd3a48fe10bdd9bb0ca59cc9963c70383af9c1d459fa159b9307d2b2", func := "rubato/rubatolaw02.IdentTurns", spec := "identTurns", unfollowed := true, recurses := true, apart := false }
def IdentTurnsSaid : Prop := identTurnsRow.holds Try.pinned (OpenSpec.ofChange identTurnsSpec)

/-- ITS FALSE NEIGHBOUR: 'it returns false'. Refute it at one input. -/
def identTurnsWrong : ChangeSpec := { name := "identTurns", fn := fun _ => fun
  | [d1, d2, d3] => { results := [.lit (.bool false)], args := [d1, d2, d3] }
  | _ => none }
def IdentTurnsWrongFalsely : Prop := identTurnsRow.holds Try.pinned (OpenSpec.ofChange identTurnsWrong)

/-- 'rubatolaw02.IdentOrder': WHATEVER THE INPUT: true; the input reads as it did. -/
def identOrderSpec : ChangeSpec := { name := "identOrder", fn := fun _ => fun
  | [d1, d2] => { results := [.lit (.bool true)], args := [d1, d2] }
  | _ => none }
def identOrderRow : OpenClaim := { program := "ythgpjbpkcpbcoaa", sum := "75373a17bd3a48fe10bdd9bb0ca59cc9963c70383af9c1d459fa159b9307d2b2", func := "rubato/rubatolaw02.IdentOrder", spec := "identOrder", unfollowed := true, recurses := true, apart := false }
def IdentOrderSaid : Prop := identOrderRow.holds Try.pinned (OpenSpec.ofChange identOrderSpec)

/-- ITS FALSE NEIGHBOUR: 'it returns false'. Refute it at one input. -/
def identOrderWrong : ChangeSpec := { name := "identOrder", fn := fun _ => fun
  | [d1, d2] => { results := [.lit (.bool false)], args := [d1, d2] }
  | _ => none }
def IdentOrderWrongFalsely : Prop := identOrderRow.holds Try.pinned (OpenSpec.ofChange identOrderWrong)

/-- 'rubatolaw02.IdentBallots': WHATEVER THE INPUT: true; the input reads as it did. -/
def identBallotsSpec : ChangeSpec := { name := "identBallots", fn := fun _ => fun
  | [d1, d2, d3] => { results := [.lit (.bool true)], args := [d1, d2, d3] }
  | _ => none }
def identBallotsRow : OpenClaim := { program := "ythgpjbpkcpbcoaa", sum := "75373a17bd3a48fe10bdd9bb0ca59cc9963c70383af9c1d459fa159b9307d2b2", func := "rubato/rubatolaw02.IdentBallots", spec := "identBallots", unfollowed := true, recurses := true, apart := false }
def IdentBallotsSaid : Prop := identBallotsRow.holds Try.pinned (OpenSpec.ofChange identBallotsSpec)

/-- ITS FALSE NEIGHBOUR: 'it returns false'. Refute it at one input. -/
def identBallotsWrong : ChangeSpec := { name := "identBallots", fn := fun _ => fun
  | [d1, d2, d3] => { results := [.lit (.bool false)], args := [d1, d2, d3] }
  | _ => none }
def IdentBallotsWrongFalsely : Prop := identBallotsRow.holds Try.pinned (OpenSpec.ofChange identBallotsWrong)

/- THE SECOND FORM. 'bulk': how many values and letters a reading holds, each counted each time it is reached (what is shared counts as often as it is met; a slice's spare places count too). A statement '..UptoSaid' is the law's where the arguments, and the package variables that the reading takes, are together of bulk at most 1048576: NARROWER than '..Said'. Prove '..Said' where nothing that the law and all that it calls make is longer than what came in: it says more and counts as full. Else prove '..UptoSaid'. A law counts once. -/
mutual
def uptoBulk {H : Type} : DataW H → Nat
  | .lit (.string bytes) => bytes.length + 1
  | .lit _ => 1
  | .nil => 1
  | .ptr d => uptoBulk d + 1
  | .slice elems spare => uptoBulkAll elems + uptoBulkAll spare + 1
  | .agg parts => uptoBulkAll parts + 1
  | .iface _ d => uptoBulk d + 1
  | .map entries => uptoBulkEntries entries + 1
  | .held _ => 1
def uptoBulkAll {H : Type} : List (DataW H) → Nat
  | [] => 0
  | d :: r => uptoBulk d + uptoBulkAll r
def uptoBulkEntries {H : Type} : List (Lit × DataW H) → Nat
  | [] => 0
  | x :: r => uptoBulkEntry x + uptoBulkEntries r
def uptoBulkEntry {H : Type} : Lit × DataW H → Nat
  | (.string bytes, d) => bytes.length + uptoBulk d + 1
  | (_, d) => uptoBulk d + 1
 end
def uptoSmall : (H : Type) → List (DataW H) → Bool := fun _ ds => decide (uptoBulkAll ds ≤ 1048576)
def OpenSpec.upto (s : _root_.Go.ChangeSpec) : _root_.Go.OpenSpec := { _root_.Go.OpenSpec.ofChange s with cond := some uptoSmall }

/-- 'rubatolaw02.IdentNumbers', WHERE WHAT IT READS IS OF BULK AT MOST 1048576: true; the input reads as it did. -/
def identNumbersUptoRow : OpenClaim := { program := "ythgpjbpkcpbcoaa", sum := "75373a17bd3a48fe10bdd9bb0ca59cc9963c70383af9c1d459fa159b9307d2b2", func := "rubato/rubatolaw02.IdentNumbers", spec := "identNumbers", unfollowed := true, recurses := true, apart := false, narrowed := true }
def IdentNumbersUptoSaid : Prop := identNumbersUptoRow.holds Try.pinned (OpenSpec.upto identNumbersSpec)

/-- 'rubatolaw02.IdentSorts', WHERE WHAT IT READS IS OF BULK AT MOST 1048576: true; the input reads as it did. -/
def identSortsUptoRow : OpenClaim := { program := "ythgpjbpkcpbcoaa", sum := "75373a17bd3a48fe10bdd9bb0ca59cc9963c70383af9c1d459fa159b9307d2b2", func := "rubato/rubatolaw02.IdentSorts", spec := "identSorts", unfollowed := true, recurses := true, apart := false, narrowed := true }
def IdentSortsUptoSaid : Prop := identSortsUptoRow.holds Try.pinned (OpenSpec.upto identSortsSpec)

/-- 'rubatolaw02.IdentTurns', WHERE WHAT IT READS IS OF BULK AT MOST 1048576: true; the input reads as it did. -/
def identTurnsUptoRow : OpenClaim := { program := "ythgpjbpkcpbcoaa", sum := "75373a17bd3a48fe10bdd9bb0ca59cc9963c70383af9c1d459fa159b9307d2b2", func := "rubato/rubatolaw02.IdentTurns", spec := "identTurns", unfollowed := true, recurses := true, apart := false, narrowed := true }
def IdentTurnsUptoSaid : Prop := identTurnsUptoRow.holds Try.pinned (OpenSpec.upto identTurnsSpec)

/-- 'rubatolaw02.IdentOrder', WHERE WHAT IT READS IS OF BULK AT MOST 1048576: true; the input reads as it did. -/
def identOrderUptoRow : OpenClaim := { program := "ythgpjbpkcpbcoaa", sum := "75373a17bd3a48fe10bdd9bb0ca59cc9963c70383af9c1d459fa159b9307d2b2", func := "rubato/rubatolaw02.IdentOrder", spec := "identOrder", unfollowed := true, recurses := true, apart := false, narrowed := true }
def IdentOrderUptoSaid : Prop := identOrderUptoRow.holds Try.pinned (OpenSpec.upto identOrderSpec)

/-- 'rubatolaw02.IdentBallots', WHERE WHAT IT READS IS OF BULK AT MOST 1048576: true; the input reads as it did. -/
def identBallotsUptoRow : OpenClaim := { program := "ythgpjbpkcpbcoaa", sum := "75373a17bd3a48fe10bdd9bb0ca59cc9963c70383af9c1d459fa159b9307d2b2", func := "rubato/rubatolaw02.IdentBallots", spec := "identBallots", unfollowed := true, recurses := true, apart := false, narrowed := true }
def IdentBallotsUptoSaid : Prop := identBallotsUptoRow.holds Try.pinned (OpenSpec.upto identBallotsSpec)

end Rows
end Go.Proofs.Ythgpjbpkcpbcoaa
