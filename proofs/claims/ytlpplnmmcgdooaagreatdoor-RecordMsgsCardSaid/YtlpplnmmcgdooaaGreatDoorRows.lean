/-
  NARROWER THAN 'FOR EVERY INPUT', by the rows' own cells (each row's printed sentence says how): MsgPuts: laid · MsgTakes: laid · RecordPuts: laid · RecordMsgs: laid · RecordTakes: laid.
  DERIVED. THE GIVEN ROWS OF THIS SEAT. 5 by the template 'for every input the law returns true; each argument reads behind the call as it read before'; 0 by the template 'total and deterministic' (their statements: YtlpplnmmcgdooaaGreatDoorTotals.lean).
  GIVEN WITH THE SEED: the statements are not yours to turn. If you find one false, say at which input.
  Laid BY PROGRAM, IN A SANDBOX (cutbox-rows.mjs): the forced cells as the released guide's own fill.sh prints them over the translation 84ace1da5cbedf16… (all of the seat's roots in one cut). By AI agents, Wed Nov 11 2026. No macro, syntax, notation, axiom, sorry.
-/
import Derived.Test.YtlpplnmmcgdooaaGreatDoorChecked
import GoSem.Claim
import GoSem.ClaimJoined
import GoSem.ClaimMapViews
import Derived.JoinedTies
import Derived.KernelRfl
namespace Go.Proofs.YtlpplnmmcgdooaaGreatDoor
/- THE CELL 'sum', in the pinned program and in every row, IS THE sha256 OF THE DUMP (.gsa) THAT YtlpplnmmcgdooaaGreatDoorProg.lean LOADS. Nothing in Lean hashes anything: it is a label: what it is worth is what the hold of that sum in a sandbox is worth. -/
noncomputable def Tryz.pinned : Pinned := { name := "ytlpplnmmcgdooaagreatdoor", sum := "84ace1da5cbedf162aa995de6ee9f6bf44724b58fb9ceea371bb578f0e6f5fab", checked := Tryz.checked }
namespace Rows
def none {H : Type} : Left H := { results := [], args := [] }

/- WHAT THE LISTED PACKAGE-LEVEL VARIABLES READ AS WHEN THE CALL BEGINS. Each datum BY PROGRAM (the guide's laid-datum.mjs) off the statement by which the dump's own 'gosem.cut.vars' lays the variable. In a bare row this is a premise. The card (YtlpplnmmcgdooaaGreatDoorCards.lean) ties it to the program's text. -/
def laid_errors_errorType {H : Type} : DataW H := .iface "internal/reflectlite.rtype" (.agg [.ptr (.lit (.string [101, 114, 114, 111, 114]))])

/-- 'rubatolaw09.MsgPuts': WHATEVER THE INPUT: true; the input reads as it did. -/
def msgPutsSpec : ChangeSpec := { name := "msgPuts", fn := fun _ => fun
  | [d1, d2] => { results := [.lit (.bool true)], args := [d1, d2] }
  | _ => none }
def msgPutsRow : OpenClaim := { program := "ytlpplnmmcgdooaagreatdoor", sum := "84ace1da5cbedf162aa995de6ee9f6bf44724b58fb9ceea371bb578f0e6f5fab", func := "rubato/rubatolaw09.MsgPuts", spec := "msgPuts", inPlace := ["internal/reflectlite.TypeOf", "internal/abi.NoEscape", "internal/reflectlite.ValueOf", "(internal/reflectlite.Value).Type", "(internal/reflectlite.Value).IsNil", "(internal/reflectlite.Value).Elem", "(internal/reflectlite.Value).Set"], unfollowed := true, recurses := true, named := ["errors.errorType"], apart := false, laid := [("errors.errorType", laid_errors_errorType)] }
def MsgPutsSaid : Prop := msgPutsRow.holds Tryz.pinned (OpenSpec.ofChange msgPutsSpec)

/-- ITS FALSE NEIGHBOUR: 'it returns false'. Refute it at one input. -/
def msgPutsWrong : ChangeSpec := { name := "msgPuts", fn := fun _ => fun
  | [d1, d2] => { results := [.lit (.bool false)], args := [d1, d2] }
  | _ => none }
def MsgPutsWrongFalsely : Prop := msgPutsRow.holds Tryz.pinned (OpenSpec.ofChange msgPutsWrong)

/-- 'rubatolaw09.MsgTakes': WHATEVER THE INPUT: true; the input reads as it did. -/
def msgTakesSpec : ChangeSpec := { name := "msgTakes", fn := fun _ => fun
  | [d] => { results := [.lit (.bool true)], args := [d] }
  | _ => none }
def msgTakesRow : OpenClaim := { program := "ytlpplnmmcgdooaagreatdoor", sum := "84ace1da5cbedf162aa995de6ee9f6bf44724b58fb9ceea371bb578f0e6f5fab", func := "rubato/rubatolaw09.MsgTakes", spec := "msgTakes", inPlace := ["internal/reflectlite.TypeOf", "internal/abi.NoEscape", "internal/reflectlite.ValueOf", "(internal/reflectlite.Value).Type", "(internal/reflectlite.Value).IsNil", "(internal/reflectlite.Value).Elem", "(internal/reflectlite.Value).Set"], unfollowed := true, recurses := true, named := ["errors.errorType"], apart := false, laid := [("errors.errorType", laid_errors_errorType)] }
def MsgTakesSaid : Prop := msgTakesRow.holds Tryz.pinned (OpenSpec.ofChange msgTakesSpec)

/-- ITS FALSE NEIGHBOUR: 'it returns false'. Refute it at one input. -/
def msgTakesWrong : ChangeSpec := { name := "msgTakes", fn := fun _ => fun
  | [d] => { results := [.lit (.bool false)], args := [d] }
  | _ => none }
def MsgTakesWrongFalsely : Prop := msgTakesRow.holds Tryz.pinned (OpenSpec.ofChange msgTakesWrong)

/-- 'rubatolaw11.RecordPuts': WHATEVER THE INPUT: true; the input reads as it did. -/
def recordPutsSpec : ChangeSpec := { name := "recordPuts", fn := fun _ => fun
  | [d] => { results := [.lit (.bool true)], args := [d] }
  | _ => none }
def recordPutsRow : OpenClaim := { program := "ytlpplnmmcgdooaagreatdoor", sum := "84ace1da5cbedf162aa995de6ee9f6bf44724b58fb9ceea371bb578f0e6f5fab", func := "rubato/rubatolaw11.RecordPuts", spec := "recordPuts", inPlace := ["internal/reflectlite.ValueOf", "(internal/reflectlite.Value).Type", "(internal/reflectlite.Value).IsNil", "internal/reflectlite.TypeOf", "(internal/reflectlite.Value).Elem", "(internal/reflectlite.Value).Set", "internal/abi.NoEscape"], unfollowed := true, recurses := true, named := ["errors.errorType"], apart := false, laid := [("errors.errorType", laid_errors_errorType)] }
def RecordPutsSaid : Prop := recordPutsRow.holds Tryz.pinned (OpenSpec.ofChange recordPutsSpec)

/-- ITS FALSE NEIGHBOUR: 'it returns false'. Refute it at one input. -/
def recordPutsWrong : ChangeSpec := { name := "recordPuts", fn := fun _ => fun
  | [d] => { results := [.lit (.bool false)], args := [d] }
  | _ => none }
def RecordPutsWrongFalsely : Prop := recordPutsRow.holds Tryz.pinned (OpenSpec.ofChange recordPutsWrong)

/-- 'rubatolaw11.RecordMsgs': WHATEVER THE INPUT: true; the input reads as it did. -/
def recordMsgsSpec : ChangeSpec := { name := "recordMsgs", fn := fun _ => fun
  | [d1, d2] => { results := [.lit (.bool true)], args := [d1, d2] }
  | _ => none }
def recordMsgsRow : OpenClaim := { program := "ytlpplnmmcgdooaagreatdoor", sum := "84ace1da5cbedf162aa995de6ee9f6bf44724b58fb9ceea371bb578f0e6f5fab", func := "rubato/rubatolaw11.RecordMsgs", spec := "recordMsgs", inPlace := ["internal/reflectlite.ValueOf", "(internal/reflectlite.Value).Type", "(internal/reflectlite.Value).IsNil", "internal/reflectlite.TypeOf", "(internal/reflectlite.Value).Elem", "(internal/reflectlite.Value).Set", "internal/abi.NoEscape"], unfollowed := true, recurses := true, named := ["errors.errorType"], apart := false, laid := [("errors.errorType", laid_errors_errorType)] }
def RecordMsgsSaid : Prop := recordMsgsRow.holds Tryz.pinned (OpenSpec.ofChange recordMsgsSpec)

/-- ITS FALSE NEIGHBOUR: 'it returns false'. Refute it at one input. -/
def recordMsgsWrong : ChangeSpec := { name := "recordMsgs", fn := fun _ => fun
  | [d1, d2] => { results := [.lit (.bool false)], args := [d1, d2] }
  | _ => none }
def RecordMsgsWrongFalsely : Prop := recordMsgsRow.holds Tryz.pinned (OpenSpec.ofChange recordMsgsWrong)

/-- 'rubatolaw11.RecordTakes': WHATEVER THE INPUT: true; the input reads as it did. -/
def recordTakesSpec : ChangeSpec := { name := "recordTakes", fn := fun _ => fun
  | [d] => { results := [.lit (.bool true)], args := [d] }
  | _ => none }
def recordTakesRow : OpenClaim := { program := "ytlpplnmmcgdooaagreatdoor", sum := "84ace1da5cbedf162aa995de6ee9f6bf44724b58fb9ceea371bb578f0e6f5fab", func := "rubato/rubatolaw11.RecordTakes", spec := "recordTakes", inPlace := ["internal/reflectlite.ValueOf", "(internal/reflectlite.Value).Type", "(internal/reflectlite.Value).IsNil", "internal/reflectlite.TypeOf", "(internal/reflectlite.Value).Elem", "(internal/reflectlite.Value).Set", "internal/abi.NoEscape"], unfollowed := true, recurses := true, named := ["errors.errorType"], apart := false, laid := [("errors.errorType", laid_errors_errorType)] }
def RecordTakesSaid : Prop := recordTakesRow.holds Tryz.pinned (OpenSpec.ofChange recordTakesSpec)

/-- ITS FALSE NEIGHBOUR: 'it returns false'. Refute it at one input. -/
def recordTakesWrong : ChangeSpec := { name := "recordTakes", fn := fun _ => fun
  | [d] => { results := [.lit (.bool false)], args := [d] }
  | _ => none }
def RecordTakesWrongFalsely : Prop := recordTakesRow.holds Tryz.pinned (OpenSpec.ofChange recordTakesWrong)

/- THE SECOND FORM. 'bulk': how many values and letters a reading holds, each counted each time it is reached (what is shared counts as often as it is met; a slice's spare places count too). A statement '..UptoSaid' is the law's where the arguments, and the package variables that the reading takes, are together of bulk at most 1048576: NARROWER than '..Said'. Prove '..Said' where nothing that the law and all that it calls make is longer than what came in: it says more and counts as full. Else prove '..UptoSaid'. A law counts once. -/
mutual
def uptoBulk {H : Type} : DataW H → Nat
  | .lit (.string bytes) => bytes.length + 1
  | .lit _ => 1
  | .nil => 1
  | .ptr d => uptoBulk d + 1
  | .slice elems spare => uptoBulkAll elems + uptoBulkAll spare + 1
  | .agg parts => uptoBulkAll parts + 1
  | .iface _ d => uptoBulk d + 1
  | .map entries => uptoBulkEntries entries + 1
  | .held _ => 1
def uptoBulkAll {H : Type} : List (DataW H) → Nat
  | [] => 0
  | d :: r => uptoBulk d + uptoBulkAll r
def uptoBulkEntries {H : Type} : List (Lit × DataW H) → Nat
  | [] => 0
  | x :: r => uptoBulkEntry x + uptoBulkEntries r
def uptoBulkEntry {H : Type} : Lit × DataW H → Nat
  | (.string bytes, d) => bytes.length + uptoBulk d + 1
  | (_, d) => uptoBulk d + 1
 end
def uptoSmall : (H : Type) → List (DataW H) → Bool := fun _ ds => decide (uptoBulkAll ds ≤ 1048576)
def OpenSpec.upto (s : _root_.Go.ChangeSpec) : _root_.Go.OpenSpec := { _root_.Go.OpenSpec.ofChange s with cond := some uptoSmall }

/-- 'rubatolaw09.MsgPuts', WHERE WHAT IT READS IS OF BULK AT MOST 1048576: true; the input reads as it did. -/
def msgPutsUptoRow : OpenClaim := { program := "ytlpplnmmcgdooaagreatdoor", sum := "84ace1da5cbedf162aa995de6ee9f6bf44724b58fb9ceea371bb578f0e6f5fab", func := "rubato/rubatolaw09.MsgPuts", spec := "msgPuts", inPlace := ["internal/reflectlite.TypeOf", "internal/abi.NoEscape", "internal/reflectlite.ValueOf", "(internal/reflectlite.Value).Type", "(internal/reflectlite.Value).IsNil", "(internal/reflectlite.Value).Elem", "(internal/reflectlite.Value).Set"], unfollowed := true, recurses := true, named := ["errors.errorType"], apart := false, laid := [("errors.errorType", laid_errors_errorType)], narrowed := true }
def MsgPutsUptoSaid : Prop := msgPutsUptoRow.holds Tryz.pinned (OpenSpec.upto msgPutsSpec)

/-- 'rubatolaw09.MsgTakes', WHERE WHAT IT READS IS OF BULK AT MOST 1048576: true; the input reads as it did. -/
def msgTakesUptoRow : OpenClaim := { program := "ytlpplnmmcgdooaagreatdoor", sum := "84ace1da5cbedf162aa995de6ee9f6bf44724b58fb9ceea371bb578f0e6f5fab", func := "rubato/rubatolaw09.MsgTakes", spec := "msgTakes", inPlace := ["internal/reflectlite.TypeOf", "internal/abi.NoEscape", "internal/reflectlite.ValueOf", "(internal/reflectlite.Value).Type", "(internal/reflectlite.Value).IsNil", "(internal/reflectlite.Value).Elem", "(internal/reflectlite.Value).Set"], unfollowed := true, recurses := true, named := ["errors.errorType"], apart := false, laid := [("errors.errorType", laid_errors_errorType)], narrowed := true }
def MsgTakesUptoSaid : Prop := msgTakesUptoRow.holds Tryz.pinned (OpenSpec.upto msgTakesSpec)

/-- 'rubatolaw11.RecordPuts', WHERE WHAT IT READS IS OF BULK AT MOST 1048576: true; the input reads as it did. -/
def recordPutsUptoRow : OpenClaim := { program := "ytlpplnmmcgdooaagreatdoor", sum := "84ace1da5cbedf162aa995de6ee9f6bf44724b58fb9ceea371bb578f0e6f5fab", func := "rubato/rubatolaw11.RecordPuts", spec := "recordPuts", inPlace := ["internal/reflectlite.ValueOf", "(internal/reflectlite.Value).Type", "(internal/reflectlite.Value).IsNil", "internal/reflectlite.TypeOf", "(internal/reflectlite.Value).Elem", "(internal/reflectlite.Value).Set", "internal/abi.NoEscape"], unfollowed := true, recurses := true, named := ["errors.errorType"], apart := false, laid := [("errors.errorType", laid_errors_errorType)], narrowed := true }
def RecordPutsUptoSaid : Prop := recordPutsUptoRow.holds Tryz.pinned (OpenSpec.upto recordPutsSpec)

/-- 'rubatolaw11.RecordMsgs', WHERE WHAT IT READS IS OF BULK AT MOST 1048576: true; the input reads as it did. -/
def recordMsgsUptoRow : OpenClaim := { program := "ytlpplnmmcgdooaagreatdoor", sum := "84ace1da5cbedf162aa995de6ee9f6bf44724b58fb9ceea371bb578f0e6f5fab", func := "rubato/rubatolaw11.RecordMsgs", spec := "recordMsgs", inPlace := ["internal/reflectlite.ValueOf", "(internal/reflectlite.Value).Type", "(internal/reflectlite.Value).IsNil", "internal/reflectlite.TypeOf", "(internal/reflectlite.Value).Elem", "(internal/reflectlite.Value).Set", "internal/abi.NoEscape"], unfollowed := true, recurses := true, named := ["errors.errorType"], apart := false, laid := [("errors.errorType", laid_errors_errorType)], narrowed := true }
def RecordMsgsUptoSaid : Prop := recordMsgsUptoRow.holds Tryz.pinned (OpenSpec.upto recordMsgsSpec)

/-- 'rubatolaw11.RecordTakes', WHERE WHAT IT READS IS OF BULK AT MOST 1048576: true; the input reads as it did. -/
def recordTakesUptoRow : OpenClaim := { program := "ytlpplnmmcgdooaagreatdoor", sum := "84ace1da5cbedf162aa995de6ee9f6bf44724b58fb9ceea371bb578f0e6f5fab", func := "rubato/rubatolaw11.RecordTakes", spec := "recordTakes", inPlace := ["internal/reflectlite.ValueOf", "(internal/reflectlite.Value).Type", "(internal/reflectlite.Value).IsNil", "internal/reflectlite.TypeOf", "(internal/reflectlite.Value).Elem", "(internal/reflectlite.Value).Set", "internal/abi.NoEscape"], unfollowed := true, recurses := true, named := ["errors.errorType"], apart := false, laid := [("errors.errorType", laid_errors_errorType)], narrowed := true }
def RecordTakesUptoSaid : Prop := recordTakesUptoRow.holds Tryz.pinned (OpenSpec.upto recordTakesSpec)

end Rows
end Go.Proofs.YtlpplnmmcgdooaaGreatDoor
