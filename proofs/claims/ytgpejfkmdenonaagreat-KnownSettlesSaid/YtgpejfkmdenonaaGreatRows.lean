/-
  No cell of these rows narrows 'for every input' (looked for: loops, veiled, ifaces, maps, wideKeys, modest, calm, conditions, laid).
  DERIVED. THE GIVEN ROWS OF THIS SEAT. 4 by the template 'for every input the law returns true; each argument reads behind the call as it read before'; 0 by the template 'total and deterministic' (their statements: YtgpejfkmdenonaaGreatTotals.lean).
  GIVEN WITH THE SEED: the statements are not yours to turn. If you find one false, say at which input.
  Laid BY PROGRAM, IN A SANDBOX (cutbox-rows.mjs): the forced cells as the released guide's own fill.sh prints them over the translation 0547a4019c173708… (all of the seat's roots in one cut). By AI agents, Wed Nov 11 2026. No macro, syntax, notation, axiom, sorry.
-/
import Derived.Test.YtgpejfkmdenonaaGreatChecked
import GoSem.Claim
import GoSem.ClaimJoined
import GoSem.ClaimMapViews
import Derived.JoinedTies
import Derived.KernelRfl
namespace Go.Proofs.YtgpejfkmdenonaaGreat
/- THE CELL 'sum', in the pinned program and in every row, IS THE sha256 OF THE DUMP (.gsa) THAT YtgpejfkmdenonaaGreatProg.lean LOADS. Nothing in Lean hashes anything: it is a label: what it is worth is what the hold of that sum in a sandbox is worth. -/
noncomputable def Tryz.pinned : Pinned := { name := "ytgpejfkmdenonaagreat", sum := "0547a4019c1737089d0e5f6fb1b6b3bf7b817293edf9d92c2c23da1b8f8b6e08", checked := Tryz.checked }
namespace Rows
def none {H : Type} : Left H := { results := [], args := [] }

/-- 'rubatolaw16.KnownAdds': WHATEVER THE INPUT: true; the input reads as it did. -/
def knownAddsSpec : ChangeSpec := { name := "knownAdds", fn := fun _ => fun
  | [d1, d2, d3] => { results := [.lit (.bool true)], args := [d1, d2, d3] }
  | _ => none }
def knownAddsRow : OpenClaim := { program := "ytgpejfkmdenonaagreat", sum := "0547a4019c1737089d0e5f6fb1b6b3bf7b817293edf9d92c2c23da1b8f8b6e08", func := "rubato/rubatolaw16.KnownAdds", spec := "knownAdds", unfollowed := true, recurses := true, apart := false }
def KnownAddsSaid : Prop := knownAddsRow.holds Tryz.pinned (OpenSpec.ofChange knownAddsSpec)

/-- ITS FALSE NEIGHBOUR: 'it returns false'. Refute it at one input. -/
def knownAddsWrong : ChangeSpec := { name := "knownAdds", fn := fun _ => fun
  | [d1, d2, d3] => { results := [.lit (.bool false)], args := [d1, d2, d3] }
  | _ => none }
def KnownAddsWrongFalsely : Prop := knownAddsRow.holds Tryz.pinned (OpenSpec.ofChange knownAddsWrong)

/-- 'rubatolaw16.KnownSettles': WHATEVER THE INPUT: true; the input reads as it did. -/
def knownSettlesSpec : ChangeSpec := { name := "knownSettles", fn := fun _ => fun
  | [d1, d2, d3] => { results := [.lit (.bool true)], args := [d1, d2, d3] }
  | _ => none }
def knownSettlesRow : OpenClaim := { program := "ytgpejfkmdenonaagreat", sum := "0547a4019c1737089d0e5f6fb1b6b3bf7b817293edf9d92c2c23da1b8f8b6e08", func := "rubato/rubatolaw16.KnownSettles", spec := "knownSettles", unfollowed := true, recurses := true, apart := false }
def KnownSettlesSaid : Prop := knownSettlesRow.holds Tryz.pinned (OpenSpec.ofChange knownSettlesSpec)

/-- ITS FALSE NEIGHBOUR: 'it returns false'. Refute it at one input. -/
def knownSettlesWrong : ChangeSpec := { name := "knownSettles", fn := fun _ => fun
  | [d1, d2, d3] => { results := [.lit (.bool false)], args := [d1, d2, d3] }
  | _ => none }
def KnownSettlesWrongFalsely : Prop := knownSettlesRow.holds Tryz.pinned (OpenSpec.ofChange knownSettlesWrong)

/-- 'rubatolaw16.KnownGrows': WHATEVER THE INPUT: true; the input reads as it did. -/
def knownGrowsSpec : ChangeSpec := { name := "knownGrows", fn := fun _ => fun
  | [d1, d2, d3] => { results := [.lit (.bool true)], args := [d1, d2, d3] }
  | _ => none }
def knownGrowsRow : OpenClaim := { program := "ytgpejfkmdenonaagreat", sum := "0547a4019c1737089d0e5f6fb1b6b3bf7b817293edf9d92c2c23da1b8f8b6e08", func := "rubato/rubatolaw16.KnownGrows", spec := "knownGrows", unfollowed := true, recurses := true, apart := false }
def KnownGrowsSaid : Prop := knownGrowsRow.holds Tryz.pinned (OpenSpec.ofChange knownGrowsSpec)

/-- ITS FALSE NEIGHBOUR: 'it returns false'. Refute it at one input. -/
def knownGrowsWrong : ChangeSpec := { name := "knownGrows", fn := fun _ => fun
  | [d1, d2, d3] => { results := [.lit (.bool false)], args := [d1, d2, d3] }
  | _ => none }
def KnownGrowsWrongFalsely : Prop := knownGrowsRow.holds Tryz.pinned (OpenSpec.ofChange knownGrowsWrong)

/-- 'rubatolaw16.KnownHides': WHATEVER THE INPUT: true; the input reads as it did. -/
def knownHidesSpec : ChangeSpec := { name := "knownHides", fn := fun _ => fun
  | [d1, d2, d3] => { results := [.lit (.bool true)], args := [d1, d2, d3] }
  | _ => none }
def knownHidesRow : OpenClaim := { program := "ytgpejfkmdenonaagreat", sum := "0547a4019c1737089d0e5f6fb1b6b3bf7b817293edf9d92c2c23da1b8f8b6e08", func := "rubato/rubatolaw16.KnownHides", spec := "knownHides", unfollowed := true, recurses := true, apart := false }
def KnownHidesSaid : Prop := knownHidesRow.holds Tryz.pinned (OpenSpec.ofChange knownHidesSpec)

/-- ITS FALSE NEIGHBOUR: 'it returns false'. Refute it at one input. -/
def knownHidesWrong : ChangeSpec := { name := "knownHides", fn := fun _ => fun
  | [d1, d2, d3] => { results := [.lit (.bool false)], args := [d1, d2, d3] }
  | _ => none }
def KnownHidesWrongFalsely : Prop := knownHidesRow.holds Tryz.pinned (OpenSpec.ofChange knownHidesWrong)

/- THE SECOND FORM. 'bulk': how many values and letters a reading holds, each counted each time it is reached (what is shared counts as often as it is met; a slice's spare places count too). A statement '..UptoSaid' is the law's where the arguments, and the package variables that the reading takes, are together of bulk at most 1048576: NARROWER than '..Said'. Prove '..Said' where nothing that the law and all that it calls make is longer than what came in: it says more and counts as full. Else prove '..UptoSaid'. A law counts once. -/
mutual
def uptoBulk {H : Type} : DataW H → Nat
  | .lit (.string bytes) => bytes.length + 1
  | .lit _ => 1
  | .nil => 1
  | .ptr d => uptoBulk d + 1
  | .slice elems spare => uptoBulkAll elems + uptoBulkAll spare + 1
  | .agg parts => uptoBulkAll parts + 1
  | .iface _ d => uptoBulk d + 1
  | .map entries => uptoBulkEntries entries + 1
  | .held _ => 1
def uptoBulkAll {H : Type} : List (DataW H) → Nat
  | [] => 0
  | d :: r => uptoBulk d + uptoBulkAll r
def uptoBulkEntries {H : Type} : List (Lit × DataW H) → Nat
  | [] => 0
  | x :: r => uptoBulkEntry x + uptoBulkEntries r
def uptoBulkEntry {H : Type} : Lit × DataW H → Nat
  | (.string bytes, d) => bytes.length + uptoBulk d + 1
  | (_, d) => uptoBulk d + 1
 end
def uptoSmall : (H : Type) → List (DataW H) → Bool := fun _ ds => decide (uptoBulkAll ds ≤ 1048576)
def OpenSpec.upto (s : _root_.Go.ChangeSpec) : _root_.Go.OpenSpec := { _root_.Go.OpenSpec.ofChange s with cond := some uptoSmall }

/-- 'rubatolaw16.KnownAdds', WHERE WHAT IT READS IS OF BULK AT MOST 1048576: true; the input reads as it did. -/
def knownAddsUptoRow : OpenClaim := { program := "ytgpejfkmdenonaagreat", sum := "0547a4019c1737089d0e5f6fb1b6b3bf7b817293edf9d92c2c23da1b8f8b6e08", func := "rubato/rubatolaw16.KnownAdds", spec := "knownAdds", unfollowed := true, recurses := true, apart := false, narrowed := true }
def KnownAddsUptoSaid : Prop := knownAddsUptoRow.holds Tryz.pinned (OpenSpec.upto knownAddsSpec)

/-- 'rubatolaw16.KnownSettles', WHERE WHAT IT READS IS OF BULK AT MOST 1048576: true; the input reads as it did. -/
def knownSettlesUptoRow : OpenClaim := { program := "ytgpejfkmdenonaagreat", sum := "0547a4019c1737089d0e5f6fb1b6b3bf7b817293edf9d92c2c23da1b8f8b6e08", func := "rubato/rubatolaw16.KnownSettles", spec := "knownSettles", unfollowed := true, recurses := true, apart := false, narrowed := true }
def KnownSettlesUptoSaid : Prop := knownSettlesUptoRow.holds Tryz.pinned (OpenSpec.upto knownSettlesSpec)

/-- 'rubatolaw16.KnownGrows', WHERE WHAT IT READS IS OF BULK AT MOST 1048576: true; the input reads as it did. -/
def knownGrowsUptoRow : OpenClaim := { program := "ytgpejfkmdenonaagreat", sum := "0547a4019c1737089d0e5f6fb1b6b3bf7b817293edf9d92c2c23da1b8f8b6e08", func := "rubato/rubatolaw16.KnownGrows", spec := "knownGrows", unfollowed := true, recurses := true, apart := false, narrowed := true }
def KnownGrowsUptoSaid : Prop := knownGrowsUptoRow.holds Tryz.pinned (OpenSpec.upto knownGrowsSpec)

/-- 'rubatolaw16.KnownHides', WHERE WHAT IT READS IS OF BULK AT MOST 1048576: true; the input reads as it did. -/
def knownHidesUptoRow : OpenClaim := { program := "ytgpejfkmdenonaagreat", sum := "0547a4019c1737089d0e5f6fb1b6b3bf7b817293edf9d92c2c23da1b8f8b6e08", func := "rubato/rubatolaw16.KnownHides", spec := "knownHides", unfollowed := true, recurses := true, apart := false, narrowed := true }
def KnownHidesUptoSaid : Prop := knownHidesUptoRow.holds Tryz.pinned (OpenSpec.upto knownHidesSpec)

end Rows
end Go.Proofs.YtgpejfkmdenonaaGreat
