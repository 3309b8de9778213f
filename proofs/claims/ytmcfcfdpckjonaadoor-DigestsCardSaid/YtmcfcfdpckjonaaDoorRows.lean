/-
  NARROWER THAN 'FOR EVERY INPUT', by the rows' own cells (each row's printed sentence says how): Names: laid · Packs: laid · Unpacks: laid · Repacked: laid · Digests: laid.
  DERIVED. THE GIVEN ROWS OF THIS SEAT. 5 by the template 'for every input the law returns true; each argument reads behind the call as it read before'; 0 by the template 'total and deterministic' (their statements: YtmcfcfdpckjonaaDoorTotals.lean).
  GIVEN WITH THE SEED: the statements are not yours to turn. If you find one false, say at which input.
  Laid BY PROGRAM, IN A SANDBOX (cutbox-rows.mjs): the forced cells as the released guide's own fill.sh prints them over the translation 6bcf0ac130e8c84c… (all of the seat's roots in one cut). By AI agents, Wed Nov 11 2026. No macro, syntax, notation, axiom, sorry.
-/
import Derived.Test.YtmcfcfdpckjonaaDoorChecked
import GoSem.Claim
import GoSem.ClaimJoined
import GoSem.ClaimMapViews
import Derived.JoinedTies
import Derived.KernelRfl
namespace Go.Proofs.YtmcfcfdpckjonaaDoor
/- THE CELL 'sum', in the pinned program and in every row, IS THE sha256 OF THE DUMP (.gsa) THAT YtmcfcfdpckjonaaDoorProg.lean LOADS. Nothing in Lean hashes anything: it is a label: what it is worth is what the hold of that sum in a sandbox is worth. -/
noncomputable def Tryd.pinned : Pinned := { name := "ytmcfcfdpckjonaadoor", sum := "6bcf0ac130e8c84ceda708ce0d756ca5f676bb228da2be30fa089849a2130971", checked := Tryd.checked }
namespace Rows
def none {H : Type} : Left H := { results := [], args := [] }

/- WHAT THE LISTED PACKAGE-LEVEL VARIABLES READ AS WHEN THE CALL BEGINS. Each datum BY PROGRAM (the guide's laid-datum.mjs) off the statement by which the dump's own 'gosem.cut.vars' lays the variable. In a bare row this is a premise. The card (YtmcfcfdpckjonaaDoorCards.lean) ties it to the program's text. -/
def laid_errors_errorType {H : Type} : DataW H := .iface "internal/reflectlite.rtype" (.agg [.ptr (.lit (.string [101, 114, 114, 111, 114]))])

/-- 'rollbacklaw.Names': WHATEVER THE INPUT: true; the input reads as it did. -/
def namesSpec : ChangeSpec := { name := "names", fn := fun _ => fun
  | [] => { results := [.lit (.bool true)], args := [] }
  | _ => none }
def namesRow : OpenClaim := { program := "ytmcfcfdpckjonaadoor", sum := "6bcf0ac130e8c84ceda708ce0d756ca5f676bb228da2be30fa089849a2130971", func := "rollback/rollbacklaw.Names", spec := "names", inPlace := ["internal/reflectlite.ValueOf", "(internal/reflectlite.Value).Type", "(internal/reflectlite.Value).IsNil", "internal/reflectlite.TypeOf", "(internal/reflectlite.Value).Elem", "(internal/reflectlite.Value).Set"], unfollowed := true, recurses := true, named := ["errors.errorType"], apart := false, laid := [("errors.errorType", laid_errors_errorType)] }
def NamesSaid : Prop := namesRow.holds Tryd.pinned (OpenSpec.ofChange namesSpec)

/-- ITS FALSE NEIGHBOUR: 'it returns false'. Refute it at one input. -/
def namesWrong : ChangeSpec := { name := "names", fn := fun _ => fun
  | [] => { results := [.lit (.bool false)], args := [] }
  | _ => none }
def NamesWrongFalsely : Prop := namesRow.holds Tryd.pinned (OpenSpec.ofChange namesWrong)

/-- 'rollbacklaw.Packs': WHATEVER THE INPUT: true; the input reads as it did. -/
def packsSpec : ChangeSpec := { name := "packs", fn := fun _ => fun
  | [d1, d2, d3, d4] => { results := [.lit (.bool true)], args := [d1, d2, d3, d4] }
  | _ => none }
def packsRow : OpenClaim := { program := "ytmcfcfdpckjonaadoor", sum := "6bcf0ac130e8c84ceda708ce0d756ca5f676bb228da2be30fa089849a2130971", func := "rollback/rollbacklaw.Packs", spec := "packs", inPlace := ["internal/reflectlite.ValueOf", "(internal/reflectlite.Value).Type", "(internal/reflectlite.Value).IsNil", "internal/reflectlite.TypeOf", "(internal/reflectlite.Value).Elem", "(internal/reflectlite.Value).Set"], unfollowed := true, recurses := true, named := ["errors.errorType"], apart := false, laid := [("errors.errorType", laid_errors_errorType)] }
def PacksSaid : Prop := packsRow.holds Tryd.pinned (OpenSpec.ofChange packsSpec)

/-- ITS FALSE NEIGHBOUR: 'it returns false'. Refute it at one input. -/
def packsWrong : ChangeSpec := { name := "packs", fn := fun _ => fun
  | [d1, d2, d3, d4] => { results := [.lit (.bool false)], args := [d1, d2, d3, d4] }
  | _ => none }
def PacksWrongFalsely : Prop := packsRow.holds Tryd.pinned (OpenSpec.ofChange packsWrong)

/-- 'rollbacklaw.Unpacks': WHATEVER THE INPUT: true; the input reads as it did. -/
def unpacksSpec : ChangeSpec := { name := "unpacks", fn := fun _ => fun
  | [d] => { results := [.lit (.bool true)], args := [d] }
  | _ => none }
def unpacksRow : OpenClaim := { program := "ytmcfcfdpckjonaadoor", sum := "6bcf0ac130e8c84ceda708ce0d756ca5f676bb228da2be30fa089849a2130971", func := "rollback/rollbacklaw.Unpacks", spec := "unpacks", inPlace := ["internal/reflectlite.ValueOf", "(internal/reflectlite.Value).Type", "(internal/reflectlite.Value).IsNil", "internal/reflectlite.TypeOf", "(internal/reflectlite.Value).Elem", "(internal/reflectlite.Value).Set"], unfollowed := true, recurses := true, named := ["errors.errorType"], apart := false, laid := [("errors.errorType", laid_errors_errorType)] }
def UnpacksSaid : Prop := unpacksRow.holds Tryd.pinned (OpenSpec.ofChange unpacksSpec)

/-- ITS FALSE NEIGHBOUR: 'it returns false'. Refute it at one input. -/
def unpacksWrong : ChangeSpec := { name := "unpacks", fn := fun _ => fun
  | [d] => { results := [.lit (.bool false)], args := [d] }
  | _ => none }
def UnpacksWrongFalsely : Prop := unpacksRow.holds Tryd.pinned (OpenSpec.ofChange unpacksWrong)

/-- 'rollbackkeep.Repacked': WHATEVER THE INPUT: true; the input reads as it did. -/
def repackedSpec : ChangeSpec := { name := "repacked", fn := fun _ => fun
  | [d1, d2, d3, d4, d5] => { results := [.lit (.bool true)], args := [d1, d2, d3, d4, d5] }
  | _ => none }
def repackedRow : OpenClaim := { program := "ytmcfcfdpckjonaadoor", sum := "6bcf0ac130e8c84ceda708ce0d756ca5f676bb228da2be30fa089849a2130971", func := "rollback/rollbackkeep.Repacked", spec := "repacked", inPlace := ["internal/reflectlite.ValueOf", "(internal/reflectlite.Value).Type", "(internal/reflectlite.Value).IsNil", "internal/reflectlite.TypeOf", "(internal/reflectlite.Value).Elem", "(internal/reflectlite.Value).Set"], unfollowed := true, recurses := true, named := ["errors.errorType"], apart := false, laid := [("errors.errorType", laid_errors_errorType)] }
def RepackedSaid : Prop := repackedRow.holds Tryd.pinned (OpenSpec.ofChange repackedSpec)

/-- ITS FALSE NEIGHBOUR: 'it returns false'. Refute it at one input. -/
def repackedWrong : ChangeSpec := { name := "repacked", fn := fun _ => fun
  | [d1, d2, d3, d4, d5] => { results := [.lit (.bool false)], args := [d1, d2, d3, d4, d5] }
  | _ => none }
def RepackedWrongFalsely : Prop := repackedRow.holds Tryd.pinned (OpenSpec.ofChange repackedWrong)

/-- 'rollbacklaw.Digests': WHATEVER THE INPUT: true; the input reads as it did. -/
def digestsSpec : ChangeSpec := { name := "digests", fn := fun _ => fun
  | [d] => { results := [.lit (.bool true)], args := [d] }
  | _ => none }
def digestsRow : OpenClaim := { program := "ytmcfcfdpckjonaadoor", sum := "6bcf0ac130e8c84ceda708ce0d756ca5f676bb228da2be30fa089849a2130971", func := "rollback/rollbacklaw.Digests", spec := "digests", inPlace := ["internal/reflectlite.ValueOf", "(internal/reflectlite.Value).Type", "(internal/reflectlite.Value).IsNil", "internal/reflectlite.TypeOf", "(internal/reflectlite.Value).Elem", "(internal/reflectlite.Value).Set"], unfollowed := true, recurses := true, named := ["errors.errorType"], apart := false, laid := [("errors.errorType", laid_errors_errorType)] }
def DigestsSaid : Prop := digestsRow.holds Tryd.pinned (OpenSpec.ofChange digestsSpec)

/-- ITS FALSE NEIGHBOUR: 'it returns false'. Refute it at one input. -/
def digestsWrong : ChangeSpec := { name := "digests", fn := fun _ => fun
  | [d] => { results := [.lit (.bool false)], args := [d] }
  | _ => none }
def DigestsWrongFalsely : Prop := digestsRow.holds Tryd.pinned (OpenSpec.ofChange digestsWrong)

/- THE SECOND FORM. 'bulk': how many values and letters a reading holds, each counted each time it is reached (what is shared counts as often as it is met; a slice's spare places count too). A statement '..UptoSaid' is the law's where the arguments, and the package variables that the reading takes, are together of bulk at most 1048576: NARROWER than '..Said'. Prove '..Said' where nothing that the law and all that it calls make is longer than what came in: it says more and counts as full. Else prove '..UptoSaid'. A law counts once. -/
mutual
def uptoBulk {H : Type} : DataW H → Nat
  | .lit (.string bytes) => bytes.length + 1
  | .lit _ => 1
  | .nil => 1
  | .ptr d => uptoBulk d + 1
  | .slice elems spare => uptoBulkAll elems + uptoBulkAll spare + 1
  | .agg parts => uptoBulkAll parts + 1
  | .iface _ d => uptoBulk d + 1
  | .map entries => uptoBulkEntries entries + 1
  | .held _ => 1
def uptoBulkAll {H : Type} : List (DataW H) → Nat
  | [] => 0
  | d :: r => uptoBulk d + uptoBulkAll r
def uptoBulkEntries {H : Type} : List (Lit × DataW H) → Nat
  | [] => 0
  | x :: r => uptoBulkEntry x + uptoBulkEntries r
def uptoBulkEntry {H : Type} : Lit × DataW H → Nat
  | (.string bytes, d) => bytes.length + uptoBulk d + 1
  | (_, d) => uptoBulk d + 1
 end
def uptoSmall : (H : Type) → List (DataW H) → Bool := fun _ ds => decide (uptoBulkAll ds ≤ 1048576)
def OpenSpec.upto (s : _root_.Go.ChangeSpec) : _root_.Go.OpenSpec := { _root_.Go.OpenSpec.ofChange s with cond := some uptoSmall }

/-- 'rollbacklaw.Names', WHERE WHAT IT READS IS OF BULK AT MOST 1048576: true; the input reads as it did. -/
def namesUptoRow : OpenClaim := { program := "ytmcfcfdpckjonaadoor", sum := "6bcf0ac130e8c84ceda708ce0d756ca5f676bb228da2be30fa089849a2130971", func := "rollback/rollbacklaw.Names", spec := "names", inPlace := ["internal/reflectlite.ValueOf", "(internal/reflectlite.Value).Type", "(internal/reflectlite.Value).IsNil", "internal/reflectlite.TypeOf", "(internal/reflectlite.Value).Elem", "(internal/reflectlite.Value).Set"], unfollowed := true, recurses := true, named := ["errors.errorType"], apart := false, laid := [("errors.errorType", laid_errors_errorType)], narrowed := true }
def NamesUptoSaid : Prop := namesUptoRow.holds Tryd.pinned (OpenSpec.upto namesSpec)

/-- 'rollbacklaw.Packs', WHERE WHAT IT READS IS OF BULK AT MOST 1048576: true; the input reads as it did. -/
def packsUptoRow : OpenClaim := { program := "ytmcfcfdpckjonaadoor", sum := "6bcf0ac130e8c84ceda708ce0d756ca5f676bb228da2be30fa089849a2130971", func := "rollback/rollbacklaw.Packs", spec := "packs", inPlace := ["internal/reflectlite.ValueOf", "(internal/reflectlite.Value).Type", "(internal/reflectlite.Value).IsNil", "internal/reflectlite.TypeOf", "(internal/reflectlite.Value).Elem", "(internal/reflectlite.Value).Set"], unfollowed := true, recurses := true, named := ["errors.errorType"], apart := false, laid := [("errors.errorType", laid_errors_errorType)], narrowed := true }
def PacksUptoSaid : Prop := packsUptoRow.holds Tryd.pinned (OpenSpec.upto packsSpec)

/-- 'rollbacklaw.Unpacks', WHERE WHAT IT READS IS OF BULK AT MOST 1048576: true; the input reads as it did. -/
def unpacksUptoRow : OpenClaim := { program := "ytmcfcfdpckjonaadoor", sum := "6bcf0ac130e8c84ceda708ce0d756ca5f676bb228da2be30fa089849a2130971", func := "rollback/rollbacklaw.Unpacks", spec := "unpacks", inPlace := ["internal/reflectlite.ValueOf", "(internal/reflectlite.Value).Type", "(internal/reflectlite.Value).IsNil", "internal/reflectlite.TypeOf", "(internal/reflectlite.Value).Elem", "(internal/reflectlite.Value).Set"], unfollowed := true, recurses := true, named := ["errors.errorType"], apart := false, laid := [("errors.errorType", laid_errors_errorType)], narrowed := true }
def UnpacksUptoSaid : Prop := unpacksUptoRow.holds Tryd.pinned (OpenSpec.upto unpacksSpec)

/-- 'rollbackkeep.Repacked', WHERE WHAT IT READS IS OF BULK AT MOST 1048576: true; the input reads as it did. -/
def repackedUptoRow : OpenClaim := { program := "ytmcfcfdpckjonaadoor", sum := "6bcf0ac130e8c84ceda708ce0d756ca5f676bb228da2be30fa089849a2130971", func := "rollback/rollbackkeep.Repacked", spec := "repacked", inPlace := ["internal/reflectlite.ValueOf", "(internal/reflectlite.Value).Type", "(internal/reflectlite.Value).IsNil", "internal/reflectlite.TypeOf", "(internal/reflectlite.Value).Elem", "(internal/reflectlite.Value).Set"], unfollowed := true, recurses := true, named := ["errors.errorType"], apart := false, laid := [("errors.errorType", laid_errors_errorType)], narrowed := true }
def RepackedUptoSaid : Prop := repackedUptoRow.holds Tryd.pinned (OpenSpec.upto repackedSpec)

/-- 'rollbacklaw.Digests', WHERE WHAT IT READS IS OF BULK AT MOST 1048576: true; the input reads as it did. -/
def digestsUptoRow : OpenClaim := { program := "ytmcfcfdpckjonaadoor", sum := "6bcf0ac130e8c84ceda708ce0d756ca5f676bb228da2be30fa089849a2130971", func := "rollback/rollbacklaw.Digests", spec := "digests", inPlace := ["internal/reflectlite.ValueOf", "(internal/reflectlite.Value).Type", "(internal/reflectlite.Value).IsNil", "internal/reflectlite.TypeOf", "(internal/reflectlite.Value).Elem", "(internal/reflectlite.Value).Set"], unfollowed := true, recurses := true, named := ["errors.errorType"], apart := false, laid := [("errors.errorType", laid_errors_errorType)], narrowed := true }
def DigestsUptoSaid : Prop := digestsUptoRow.holds Tryd.pinned (OpenSpec.upto digestsSpec)

end Rows
end Go.Proofs.YtmcfcfdpckjonaaDoor
