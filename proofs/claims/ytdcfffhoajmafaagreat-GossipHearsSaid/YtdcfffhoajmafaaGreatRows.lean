/-
  No cell of these rows narrows 'for every input' (looked for: loops, veiled, ifaces, maps, wideKeys, modest, calm, conditions, laid).
  DERIVED. THE GIVEN ROWS OF THIS SEAT. 3 by the template 'for every input the law returns true; each argument reads behind the call as it read before'; 0 by the template 'total and deterministic' (their statements: YtdcfffhoajmafaaGreatTotals.lean).
  GIVEN WITH THE SEED: the statements are not yours to turn. If you find one false, say at which input.
  Laid BY PROGRAM, IN A SANDBOX (cutbox-rows.mjs): the forced cells as the released guide's own fill.sh prints them over the translation 5767e9d5f49237f6… (all of the seat's roots in one cut). By AI agents, Wed Nov 11 2026. No macro, syntax, notation, axiom, sorry.
-/
import Derived.Test.YtdcfffhoajmafaaGreatChecked
import GoSem.Claim
import GoSem.ClaimJoined
import GoSem.ClaimMapViews
import Derived.JoinedTies
import Derived.KernelRfl
namespace Go.Proofs.YtdcfffhoajmafaaGreat
/- THE CELL 'sum', in the pinned program and in every row, IS THE sha256 OF THE DUMP (.gsa) THAT YtdcfffhoajmafaaGreatProg.lean LOADS. Nothing in Lean hashes anything: it is a label: what it is worth is what the hold of that sum in a sandbox is worth. -/
noncomputable def Tryz.pinned : Pinned := { name := "ytdcfffhoajmafaagreat", sum := "5767e9d5f49237f6abc3bb7c87aaa7f88d11115b17adc8cd30f5dd1b14c73b96", checked := Tryz.checked }
namespace Rows
def none {H : Type} : Left H := { results := [], args := [] }

/-- 'rubatolaw29.GossipHears': WHATEVER THE INPUT: true; the input reads as it did. -/
def gossipHearsSpec : ChangeSpec := { name := "gossipHears", fn := fun _ => fun
  | [d1, d2, d3] => { results := [.lit (.bool true)], args := [d1, d2, d3] }
  | _ => none }
def gossipHearsRow : OpenClaim := { program := "ytdcfffhoajmafaagreat", sum := "5767e9d5f49237f6abc3bb7c87aaa7f88d11115b17adc8cd30f5dd1b14c73b96", func := "rubato/rubatolaw29.GossipHears", spec := "gossipHears", inPlace := ["slices.overlaps[rubato/api.Entry]"], unfollowed := true, recurses := true, apart := false }
def GossipHearsSaid : Prop := gossipHearsRow.holds Tryz.pinned (OpenSpec.ofChange gossipHearsSpec)

/-- ITS FALSE NEIGHBOUR: 'it returns false'. Refute it at one input. -/
def gossipHearsWrong : ChangeSpec := { name := "gossipHears", fn := fun _ => fun
  | [d1, d2, d3] => { results := [.lit (.bool false)], args := [d1, d2, d3] }
  | _ => none }
def GossipHearsWrongFalsely : Prop := gossipHearsRow.holds Tryz.pinned (OpenSpec.ofChange gossipHearsWrong)

/-- 'rubatolaw29.GossipKeeps': WHATEVER THE INPUT: true; the input reads as it did. -/
def gossipKeepsSpec : ChangeSpec := { name := "gossipKeeps", fn := fun _ => fun
  | [d1, d2, d3] => { results := [.lit (.bool true)], args := [d1, d2, d3] }
  | _ => none }
def gossipKeepsRow : OpenClaim := { program := "ytdcfffhoajmafaagreat", sum := "5767e9d5f49237f6abc3bb7c87aaa7f88d11115b17adc8cd30f5dd1b14c73b96", func := "rubato/rubatolaw29.GossipKeeps", spec := "gossipKeeps", inPlace := ["slices.overlaps[rubato/api.Entry]"], unfollowed := true, recurses := true, apart := false }
def GossipKeepsSaid : Prop := gossipKeepsRow.holds Tryz.pinned (OpenSpec.ofChange gossipKeepsSpec)

/-- ITS FALSE NEIGHBOUR: 'it returns false'. Refute it at one input. -/
def gossipKeepsWrong : ChangeSpec := { name := "gossipKeeps", fn := fun _ => fun
  | [d1, d2, d3] => { results := [.lit (.bool false)], args := [d1, d2, d3] }
  | _ => none }
def GossipKeepsWrongFalsely : Prop := gossipKeepsRow.holds Tryz.pinned (OpenSpec.ofChange gossipKeepsWrong)

/-- 'rubatolaw29.GossipMarks': WHATEVER THE INPUT: true; the input reads as it did. -/
def gossipMarksSpec : ChangeSpec := { name := "gossipMarks", fn := fun _ => fun
  | [d1, d2, d3] => { results := [.lit (.bool true)], args := [d1, d2, d3] }
  | _ => none }
def gossipMarksRow : OpenClaim := { program := "ytdcfffhoajmafaagreat", sum := "5767e9d5f49237f6abc3bb7c87aaa7f88d11115b17adc8cd30f5dd1b14c73b96", func := "rubato/rubatolaw29.GossipMarks", spec := "gossipMarks", inPlace := ["slices.overlaps[rubato/api.Entry]"], unfollowed := true, recurses := true, apart := false }
def GossipMarksSaid : Prop := gossipMarksRow.holds Tryz.pinned (OpenSpec.ofChange gossipMarksSpec)

/-- ITS FALSE NEIGHBOUR: 'it returns false'. Refute it at one input. -/
def gossipMarksWrong : ChangeSpec := { name := "gossipMarks", fn := fun _ => fun
  | [d1, d2, d3] => { results := [.lit (.bool false)], args := [d1, d2, d3] }
  | _ => none }
def GossipMarksWrongFalsely : Prop := gossipMarksRow.holds Tryz.pinned (OpenSpec.ofChange gossipMarksWrong)

/- THE SECOND FORM. 'bulk': how many values and letters a reading holds, each counted each time it is reached (what is shared counts as often as it is met; a slice's spare places count too). A statement '..UptoSaid' is the law's where the arguments, and the package variables that the reading takes, are together of bulk at most 1048576: NARROWER than '..Said'. Prove '..Said' where nothing that the law and all that it calls make is longer than what came in: it says more and counts as full. Else prove '..UptoSaid'. A law counts once. -/
mutual
def uptoBulk {H : Type} : DataW H → Nat
  | .lit (.string bytes) => bytes.length + 1
  | .lit _ => 1
  | .nil => 1
  | .ptr d => uptoBulk d + 1
  | .slice elems spare => uptoBulkAll elems + uptoBulkAll spare + 1
  | .agg parts => uptoBulkAll parts + 1
  | .iface _ d => uptoBulk d + 1
  | .map entries => uptoBulkEntries entries + 1
  | .held _ => 1
def uptoBulkAll {H : Type} : List (DataW H) → Nat
  | [] => 0
  | d :: r => uptoBulk d + uptoBulkAll r
def uptoBulkEntries {H : Type} : List (Lit × DataW H) → Nat
  | [] => 0
  | x :: r => uptoBulkEntry x + uptoBulkEntries r
def uptoBulkEntry {H : Type} : Lit × DataW H → Nat
  | (.string bytes, d) => bytes.length + uptoBulk d + 1
  | (_, d) => uptoBulk d + 1
 end
def uptoSmall : (H : Type) → List (DataW H) → Bool := fun _ ds => decide (uptoBulkAll ds ≤ 1048576)
def OpenSpec.upto (s : _root_.Go.ChangeSpec) : _root_.Go.OpenSpec := { _root_.Go.OpenSpec.ofChange s with cond := some uptoSmall }

/-- 'rubatolaw29.GossipHears', WHERE WHAT IT READS IS OF BULK AT MOST 1048576: true; the input reads as it did. -/
def gossipHearsUptoRow : OpenClaim := { program := "ytdcfffhoajmafaagreat", sum := "5767e9d5f49237f6abc3bb7c87aaa7f88d11115b17adc8cd30f5dd1b14c73b96", func := "rubato/rubatolaw29.GossipHears", spec := "gossipHears", inPlace := ["slices.overlaps[rubato/api.Entry]"], unfollowed := true, recurses := true, apart := false, narrowed := true }
def GossipHearsUptoSaid : Prop := gossipHearsUptoRow.holds Tryz.pinned (OpenSpec.upto gossipHearsSpec)

/-- 'rubatolaw29.GossipKeeps', WHERE WHAT IT READS IS OF BULK AT MOST 1048576: true; the input reads as it did. -/
def gossipKeepsUptoRow : OpenClaim := { program := "ytdcfffhoajmafaagreat", sum := "5767e9d5f49237f6abc3bb7c87aaa7f88d11115b17adc8cd30f5dd1b14c73b96", func := "rubato/rubatolaw29.GossipKeeps", spec := "gossipKeeps", inPlace := ["slices.overlaps[rubato/api.Entry]"], unfollowed := true, recurses := true, apart := false, narrowed := true }
def GossipKeepsUptoSaid : Prop := gossipKeepsUptoRow.holds Tryz.pinned (OpenSpec.upto gossipKeepsSpec)

/-- 'rubatolaw29.GossipMarks', WHERE WHAT IT READS IS OF BULK AT MOST 1048576: true; the input reads as it did. -/
def gossipMarksUptoRow : OpenClaim := { program := "ytdcfffhoajmafaagreat", sum := "5767e9d5f49237f6abc3bb7c87aaa7f88d11115b17adc8cd30f5dd1b14c73b96", func := "rubato/rubatolaw29.GossipMarks", spec := "gossipMarks", inPlace := ["slices.overlaps[rubato/api.Entry]"], unfollowed := true, recurses := true, apart := false, narrowed := true }
def GossipMarksUptoSaid : Prop := gossipMarksUptoRow.holds Tryz.pinned (OpenSpec.upto gossipMarksSpec)

end Rows
end Go.Proofs.YtdcfffhoajmafaaGreat
