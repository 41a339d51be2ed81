/-
  No cell of these rows narrows 'for every input' (looked for: loops, veiled, ifaces, maps, wideKeys, modest, calm, conditions, laid).
  DERIVED. THE GIVEN ROWS OF THIS SEAT. 5 by the template 'for every input the law returns true; each argument reads behind the call as it read before'; 0 by the template 'total and deterministic' (their statements: YthdekionepfmdaaTotals.lean).
  GIVEN WITH THE SEED: the statements are not yours to turn. If you find one false, say at which input.
  Laid BY PROGRAM, IN A SANDBOX (cutbox-rows.mjs): the forced cells as the released guide's own fill.sh prints them over the translation f4cba04ba0a6be54… (all of the seat's roots in one cut). By AI agents, Wed Nov 11 2026. No macro, syntax, notation, axiom, sorry.
-/
import Derived.Test.YthdekionepfmdaaChecked
import GoSem.Claim
import GoSem.ClaimJoined
import GoSem.ClaimMapViews
import Derived.JoinedTies
import Derived.KernelRfl
namespace Go.Proofs.Ythdekionepfmdaa
/- THE CELL 'sum', in the pinned program and in every row, IS THE sha256 OF THE DUMP (.gsa) THAT YthdekionepfmdaaProg.lean LOADS. Nothing in Lean hashes anything: it is a label: what it is worth is what the hold of that sum in a sandbox is worth. -/
noncomputable def Try.pinned : Pinned := { name := "ythdekionepfmdaa", sum := "f4cba04ba0a6be54f76437f9949c6508d717a6d058c82cb59bf9a3b75236d1cf", checked := Try.checked }
namespace Rows
def none {H : Type} : Left H := { results := [], args := [] }

/-- 'headendlaw09.AuditRecords': WHATEVER THE INPUT: true; the input reads as it did. -/
def auditRecordsSpec : ChangeSpec := { name := "auditRecords", fn := fun _ => fun
  | [d1, d2, d3, d4, d5] => { results := [.lit (.bool true)], args := [d1, d2, d3, d4, d5] }
  | _ => none }
def auditRecordsRow : OpenClaim := { program := "ythdekionepfmdaa", sum := "f4cba04ba0a6be54f76437f9949c6508d717a6d058c82cb59bf9a3b75236d1cf", func := "headend/headendlaw09.AuditRecords", spec := "auditRecords", unfollowed := true, recurses := true, apart := false }
def AuditRecordsSaid : Prop := auditRecordsRow.holds Try.pinned (OpenSpec.ofChange auditRecordsSpec)

/-- ITS FALSE NEIGHBOUR: 'it returns false'. Refute it at one input. -/
def auditRecordsWrong : ChangeSpec := { name := "auditRecords", fn := fun _ => fun
  | [d1, d2, d3, d4, d5] => { results := [.lit (.bool false)], args := [d1, d2, d3, d4, d5] }
  | _ => none }
def AuditRecordsWrongFalsely : Prop := auditRecordsRow.holds Try.pinned (OpenSpec.ofChange auditRecordsWrong)

/-- 'headendlaw09.AuditTrees': WHATEVER THE INPUT: true; the input reads as it did. -/
def auditTreesSpec : ChangeSpec := { name := "auditTrees", fn := fun _ => fun
  | [d1, d2, d3] => { results := [.lit (.bool true)], args := [d1, d2, d3] }
  | _ => none }
def auditTreesRow : OpenClaim := { program := "ythdekionepfmdaa", sum := "f4cba04ba0a6be54f76437f9949c6508d717a6d058c82cb59bf9a3b75236d1cf", func := "headend/headendlaw09.AuditTrees", spec := "auditTrees", unfollowed := true, recurses := true, apart := false }
def AuditTreesSaid : Prop := auditTreesRow.holds Try.pinned (OpenSpec.ofChange auditTreesSpec)

/-- ITS FALSE NEIGHBOUR: 'it returns false'. Refute it at one input. -/
def auditTreesWrong : ChangeSpec := { name := "auditTrees", fn := fun _ => fun
  | [d1, d2, d3] => { results := [.lit (.bool false)], args := [d1, d2, d3] }
  | _ => none }
def AuditTreesWrongFalsely : Prop := auditTreesRow.holds Try.pinned (OpenSpec.ofChange auditTreesWrong)

/-- 'headendlaw09.AuditVerifies': WHATEVER THE INPUT: true; the input reads as it did. -/
def auditVerifiesSpec : ChangeSpec := { name := "auditVerifies", fn := fun _ => fun
  | [d1, d2, d3, d4, d5] => { results := [.lit (.bool true)], args := [d1, d2, d3, d4, d5] }
  | _ => none }
def auditVerifiesRow : OpenClaim := { program := "ythdekionepfmdaa", sum := "f4cba04ba0a6be54f76437f9949c6508d717a6d058c82cb59bf9a3b75236d1cf", func := "headend/headendlaw09.AuditVerifies", spec := "auditVerifies", unfollowed := true, recurses := true, apart := false }
def AuditVerifiesSaid : Prop := auditVerifiesRow.holds Try.pinned (OpenSpec.ofChange auditVerifiesSpec)

/-- ITS FALSE NEIGHBOUR: 'it returns false'. Refute it at one input. -/
def auditVerifiesWrong : ChangeSpec := { name := "auditVerifies", fn := fun _ => fun
  | [d1, d2, d3, d4, d5] => { results := [.lit (.bool false)], args := [d1, d2, d3, d4, d5] }
  | _ => none }
def AuditVerifiesWrongFalsely : Prop := auditVerifiesRow.holds Try.pinned (OpenSpec.ofChange auditVerifiesWrong)

/-- 'headendlaw09.AuditOnOff': WHATEVER THE INPUT: true; the input reads as it did. -/
def auditOnOffSpec : ChangeSpec := { name := "auditOnOff", fn := fun _ => fun
  | [d1, d2, d3, d4] => { results := [.lit (.bool true)], args := [d1, d2, d3, d4] }
  | _ => none }
def auditOnOffRow : OpenClaim := { program := "ythdekionepfmdaa", sum := "f4cba04ba0a6be54f76437f9949c6508d717a6d058c82cb59bf9a3b75236d1cf", func := "headend/headendlaw09.AuditOnOff", spec := "auditOnOff", unfollowed := true, recurses := true, apart := false }
def AuditOnOffSaid : Prop := auditOnOffRow.holds Try.pinned (OpenSpec.ofChange auditOnOffSpec)

/-- ITS FALSE NEIGHBOUR: 'it returns false'. Refute it at one input. -/
def auditOnOffWrong : ChangeSpec := { name := "auditOnOff", fn := fun _ => fun
  | [d1, d2, d3, d4] => { results := [.lit (.bool false)], args := [d1, d2, d3, d4] }
  | _ => none }
def AuditOnOffWrongFalsely : Prop := auditOnOffRow.holds Try.pinned (OpenSpec.ofChange auditOnOffWrong)

/-- 'headendlaw09.AuditLists': WHATEVER THE INPUT: true; the input reads as it did. -/
def auditListsSpec : ChangeSpec := { name := "auditLists", fn := fun _ => fun
  | [d1, d2, d3, d4] => { results := [.lit (.bool true)], args := [d1, d2, d3, d4] }
  | _ => none }
def auditListsRow : OpenClaim := { program := "ythdekionepfmdaa", sum := "f4cba04ba0a6be54f76437f9949c6508d717a6d058c82cb59bf9a3b75236d1cf", func := "headend/headendlaw09.AuditLists", spec := "auditLists", unfollowed := true, recurses := true, apart := false }
def AuditListsSaid : Prop := auditListsRow.holds Try.pinned (OpenSpec.ofChange auditListsSpec)

/-- ITS FALSE NEIGHBOUR: 'it returns false'. Refute it at one input. -/
def auditListsWrong : ChangeSpec := { name := "auditLists", fn := fun _ => fun
  | [d1, d2, d3, d4] => { results := [.lit (.bool false)], args := [d1, d2, d3, d4] }
  | _ => none }
def AuditListsWrongFalsely : Prop := auditListsRow.holds Try.pinned (OpenSpec.ofChange auditListsWrong)

/- THE SECOND FORM. 'bulk': how many values and letters a reading holds, each counted each time it is reached (what is shared counts as often as it is met; a slice's spare places count too). A statement '..UptoSaid' is the law's where the arguments, and the package variables that the reading takes, are together of bulk at most 1048576: NARROWER than '..Said'. Prove '..Said' where nothing that the law and all that it calls make is longer than what came in: it says more and counts as full. Else prove '..UptoSaid'. A law counts once. -/
mutual
def uptoBulk {H : Type} : DataW H → Nat
  | .lit (.string bytes) => bytes.length + 1
  | .lit _ => 1
  | .nil => 1
  | .ptr d => uptoBulk d + 1
  | .slice elems spare => uptoBulkAll elems + uptoBulkAll spare + 1
  | .agg parts => uptoBulkAll parts + 1
  | .iface _ d => uptoBulk d + 1
  | .map entries => uptoBulkEntries entries + 1
  | .held _ => 1
def uptoBulkAll {H : Type} : List (DataW H) → Nat
  | [] => 0
  | d :: r => uptoBulk d + uptoBulkAll r
def uptoBulkEntries {H : Type} : List (Lit × DataW H) → Nat
  | [] => 0
  | x :: r => uptoBulkEntry x + uptoBulkEntries r
def uptoBulkEntry {H : Type} : Lit × DataW H → Nat
  | (.string bytes, d) => bytes.length + uptoBulk d + 1
  | (_, d) => uptoBulk d + 1
 end
def uptoSmall : (H : Type) → List (DataW H) → Bool := fun _ ds => decide (uptoBulkAll ds ≤ 1048576)
def OpenSpec.upto (s : _root_.Go.ChangeSpec) : _root_.Go.OpenSpec := { _root_.Go.OpenSpec.ofChange s with cond := some uptoSmall }

/-- 'headendlaw09.AuditRecords', WHERE WHAT IT READS IS OF BULK AT MOST 1048576: true; the input reads as it did. -/
def auditRecordsUptoRow : OpenClaim := { program := "ythdekionepfmdaa", sum := "f4cba04ba0a6be54f76437f9949c6508d717a6d058c82cb59bf9a3b75236d1cf", func := "headend/headendlaw09.AuditRecords", spec := "auditRecords", unfollowed := true, recurses := true, apart := false, narrowed := true }
def AuditRecordsUptoSaid : Prop := auditRecordsUptoRow.holds Try.pinned (OpenSpec.upto auditRecordsSpec)

/-- 'headendlaw09.AuditTrees', WHERE WHAT IT READS IS OF BULK AT MOST 1048576: true; the input reads as it did. -/
def auditTreesUptoRow : OpenClaim := { program := "ythdekionepfmdaa", sum := "f4cba04ba0a6be54f76437f9949c6508d717a6d058c82cb59bf9a3b75236d1cf", func := "headend/headendlaw09.AuditTrees", spec := "auditTrees", unfollowed := true, recurses := true, apart := false, narrowed := true }
def AuditTreesUptoSaid : Prop := auditTreesUptoRow.holds Try.pinned (OpenSpec.upto auditTreesSpec)

/-- 'headendlaw09.AuditVerifies', WHERE WHAT IT READS IS OF BULK AT MOST 1048576: true; the input reads as it did. -/
def auditVerifiesUptoRow : OpenClaim := { program := "ythdekionepfmdaa", sum := "f4cba04ba0a6be54f76437f9949c6508d717a6d058c82cb59bf9a3b75236d1cf", func := "headend/headendlaw09.AuditVerifies", spec := "auditVerifies", unfollowed := true, recurses := true, apart := false, narrowed := true }
def AuditVerifiesUptoSaid : Prop := auditVerifiesUptoRow.holds Try.pinned (OpenSpec.upto auditVerifiesSpec)

/-- 'headendlaw09.AuditOnOff', WHERE WHAT IT READS IS OF BULK AT MOST 1048576: true; the input reads as it did. -/
def auditOnOffUptoRow : OpenClaim := { program := "ythdekionepfmdaa", sum := "f4cba04ba0a6be54f76437f9949c6508d717a6d058c82cb59bf9a3b75236d1cf", func := "headend/headendlaw09.AuditOnOff", spec := "auditOnOff", unfollowed := true, recurses := true, apart := false, narrowed := true }
def AuditOnOffUptoSaid : Prop := auditOnOffUptoRow.holds Try.pinned (OpenSpec.upto auditOnOffSpec)

/-- 'headendlaw09.AuditLists', WHERE WHAT IT READS IS OF BULK AT MOST 1048576: true; the input reads as it did. -/
def auditListsUptoRow : OpenClaim := { program := "ythdekionepfmdaa", sum := "f4cba04ba0a6be54f76437f9949c6508d717a6d058c82cb59bf9a3b75236d1cf", func := "headend/headendlaw09.AuditLists", spec := "auditLists", unfollowed := true, recurses := true, apart := false, narrowed := true }
def AuditListsUptoSaid : Prop := auditListsUptoRow.holds Try.pinned (OpenSpec.upto auditListsSpec)

end Rows
end Go.Proofs.Ythdekionepfmdaa
