/-
  NARROWER THAN 'FOR EVERY INPUT', by the rows' own cells (each row's printed sentence says how): ValueOps: loops · ValueBack: loops.
  DERIVED. THE GIVEN ROWS OF THIS SEAT. 4 by the template 'for every input the law returns true; each argument reads behind the call as it read before'; 0 by the template 'total and deterministic' (their statements: YtpgbpcnifhnjjaaTotals.lean).
  GIVEN WITH THE SEED: the statements are not yours to turn. If you find one false, say at which input.
  Laid BY PROGRAM, IN A SANDBOX (cutbox-rows.mjs): the forced cells as the released guide's own fill.sh prints them over the translation 06a32c89eb193142… (all of the seat's roots in one cut). By AI agents, Wed Nov 11 2026. No macro, syntax, notation, axiom, sorry.
-/
import Derived.Test.YtpgbpcnifhnjjaaChecked
import GoSem.Claim
import GoSem.ClaimJoined
import GoSem.ClaimMapViews
import Derived.JoinedTies
import Derived.KernelRfl
namespace Go.Proofs.Ytpgbpcnifhnjjaa
/- THE CELL 'sum', in the pinned program and in every row, IS THE sha256 OF THE DUMP (.gsa) THAT YtpgbpcnifhnjjaaProg.lean LOADS. Nothing in Lean hashes anything: it is a label: what it is worth is what the hold of that sum in a sandbox is worth. -/
noncomputable def Try.pinned : Pinned := { name := "ytpgbpcnifhnjjaa", sum := "06a32c89eb1931425f2d4f22d37f95d6383e85b77a9089e93c5dfea0d578d4fd", checked := Try.checked }
namespace Rows
def none {H : Type} : Left H := { results := [], args := [] }

/-- 'postbaglaw15.ValueOps': WHATEVER THE INPUT: true; the input reads as it did. -/
def valueOpsSpec : ChangeSpec := { name := "valueOps", fn := fun _ => fun
  | [d1, d2, d3] => { results := [.lit (.bool true)], args := [d1, d2, d3] }
  | _ => none }
def valueOpsRow : OpenClaim := { program := "ytpgbpcnifhnjjaa", sum := "06a32c89eb1931425f2d4f22d37f95d6383e85b77a9089e93c5dfea0d578d4fd", func := "postbag/postbaglaw15.ValueOps", spec := "valueOps", unfollowed := true, recurses := true, loops := true, apart := false }
def ValueOpsSaid : Prop := valueOpsRow.holds Try.pinned (OpenSpec.ofChange valueOpsSpec)

/-- ITS FALSE NEIGHBOUR: 'it returns false'. Refute it at one input. -/
def valueOpsWrong : ChangeSpec := { name := "valueOps", fn := fun _ => fun
  | [d1, d2, d3] => { results := [.lit (.bool false)], args := [d1, d2, d3] }
  | _ => none }
def ValueOpsWrongFalsely : Prop := valueOpsRow.holds Try.pinned (OpenSpec.ofChange valueOpsWrong)

/-- 'postbaglaw15.ValueRing': WHATEVER THE INPUT: true; the input reads as it did. -/
def valueRingSpec : ChangeSpec := { name := "valueRing", fn := fun _ => fun
  | [d1, d2, d3] => { results := [.lit (.bool true)], args := [d1, d2, d3] }
  | _ => none }
def valueRingRow : OpenClaim := { program := "ytpgbpcnifhnjjaa", sum := "06a32c89eb1931425f2d4f22d37f95d6383e85b77a9089e93c5dfea0d578d4fd", func := "postbag/postbaglaw15.ValueRing", spec := "valueRing", unfollowed := true, recurses := true, apart := false }
def ValueRingSaid : Prop := valueRingRow.holds Try.pinned (OpenSpec.ofChange valueRingSpec)

/-- ITS FALSE NEIGHBOUR: 'it returns false'. Refute it at one input. -/
def valueRingWrong : ChangeSpec := { name := "valueRing", fn := fun _ => fun
  | [d1, d2, d3] => { results := [.lit (.bool false)], args := [d1, d2, d3] }
  | _ => none }
def ValueRingWrongFalsely : Prop := valueRingRow.holds Try.pinned (OpenSpec.ofChange valueRingWrong)

/-- 'postbaglaw15.ValueDecodes': WHATEVER THE INPUT: true; the input reads as it did. -/
def valueDecodesSpec : ChangeSpec := { name := "valueDecodes", fn := fun _ => fun
  | [d1, d2, d3] => { results := [.lit (.bool true)], args := [d1, d2, d3] }
  | _ => none }
def valueDecodesRow : OpenClaim := { program := "ytpgbpcnifhnjjaa", sum := "06a32c89eb1931425f2d4f22d37f95d6383e85b77a9089e93c5dfea0d578d4fd", func := "postbag/postbaglaw15.ValueDecodes", spec := "valueDecodes", unfollowed := true, recurses := true, apart := false }
def ValueDecodesSaid : Prop := valueDecodesRow.holds Try.pinned (OpenSpec.ofChange valueDecodesSpec)

/-- ITS FALSE NEIGHBOUR: 'it returns false'. Refute it at one input. -/
def valueDecodesWrong : ChangeSpec := { name := "valueDecodes", fn := fun _ => fun
  | [d1, d2, d3] => { results := [.lit (.bool false)], args := [d1, d2, d3] }
  | _ => none }
def ValueDecodesWrongFalsely : Prop := valueDecodesRow.holds Try.pinned (OpenSpec.ofChange valueDecodesWrong)

/-- 'postbaglaw15.ValueBack': WHATEVER THE INPUT: true; the input reads as it did. -/
def valueBackSpec : ChangeSpec := { name := "valueBack", fn := fun _ => fun
  | [d1, d2, d3, d4] => { results := [.lit (.bool true)], args := [d1, d2, d3, d4] }
  | _ => none }
def valueBackRow : OpenClaim := { program := "ytpgbpcnifhnjjaa", sum := "06a32c89eb1931425f2d4f22d37f95d6383e85b77a9089e93c5dfea0d578d4fd", func := "postbag/postbaglaw15.ValueBack", spec := "valueBack", unfollowed := true, recurses := true, loops := true, apart := false }
def ValueBackSaid : Prop := valueBackRow.holds Try.pinned (OpenSpec.ofChange valueBackSpec)

/-- ITS FALSE NEIGHBOUR: 'it returns false'. Refute it at one input. -/
def valueBackWrong : ChangeSpec := { name := "valueBack", fn := fun _ => fun
  | [d1, d2, d3, d4] => { results := [.lit (.bool false)], args := [d1, d2, d3, d4] }
  | _ => none }
def ValueBackWrongFalsely : Prop := valueBackRow.holds Try.pinned (OpenSpec.ofChange valueBackWrong)

/- THE SECOND FORM. 'bulk': how many values and letters a reading holds, each counted each time it is reached (what is shared counts as often as it is met; a slice's spare places count too). A statement '..UptoSaid' is the law's where the arguments, and the package variables that the reading takes, are together of bulk at most 1048576: NARROWER than '..Said'. Prove '..Said' where nothing that the law and all that it calls make is longer than what came in: it says more and counts as full. Else prove '..UptoSaid'. A law counts once. -/
mutual
def uptoBulk {H : Type} : DataW H → Nat
  | .lit (.string bytes) => bytes.length + 1
  | .lit _ => 1
  | .nil => 1
  | .ptr d => uptoBulk d + 1
  | .slice elems spare => uptoBulkAll elems + uptoBulkAll spare + 1
  | .agg parts => uptoBulkAll parts + 1
  | .iface _ d => uptoBulk d + 1
  | .map entries => uptoBulkEntries entries + 1
  | .held _ => 1
def uptoBulkAll {H : Type} : List (DataW H) → Nat
  | [] => 0
  | d :: r => uptoBulk d + uptoBulkAll r
def uptoBulkEntries {H : Type} : List (Lit × DataW H) → Nat
  | [] => 0
  | x :: r => uptoBulkEntry x + uptoBulkEntries r
def uptoBulkEntry {H : Type} : Lit × DataW H → Nat
  | (.string bytes, d) => bytes.length + uptoBulk d + 1
  | (_, d) => uptoBulk d + 1
 end
def uptoSmall : (H : Type) → List (DataW H) → Bool := fun _ ds => decide (uptoBulkAll ds ≤ 1048576)
def OpenSpec.upto (s : _root_.Go.ChangeSpec) : _root_.Go.OpenSpec := { _root_.Go.OpenSpec.ofChange s with cond := some uptoSmall }

/-- 'postbaglaw15.ValueOps', WHERE WHAT IT READS IS OF BULK AT MOST 1048576: true; the input reads as it did. -/
def valueOpsUptoRow : OpenClaim := { program := "ytpgbpcnifhnjjaa", sum := "06a32c89eb1931425f2d4f22d37f95d6383e85b77a9089e93c5dfea0d578d4fd", func := "postbag/postbaglaw15.ValueOps", spec := "valueOps", unfollowed := true, recurses := true, loops := true, apart := false, narrowed := true }
def ValueOpsUptoSaid : Prop := valueOpsUptoRow.holds Try.pinned (OpenSpec.upto valueOpsSpec)

/-- 'postbaglaw15.ValueRing', WHERE WHAT IT READS IS OF BULK AT MOST 1048576: true; the input reads as it did. -/
def valueRingUptoRow : OpenClaim := { program := "ytpgbpcnifhnjjaa", sum := "06a32c89eb1931425f2d4f22d37f95d6383e85b77a9089e93c5dfea0d578d4fd", func := "postbag/postbaglaw15.ValueRing", spec := "valueRing", unfollowed := true, recurses := true, apart := false, narrowed := true }
def ValueRingUptoSaid : Prop := valueRingUptoRow.holds Try.pinned (OpenSpec.upto valueRingSpec)

/-- 'postbaglaw15.ValueDecodes', WHERE WHAT IT READS IS OF BULK AT MOST 1048576: true; the input reads as it did. -/
def valueDecodesUptoRow : OpenClaim := { program := "ytpgbpcnifhnjjaa", sum := "06a32c89eb1931425f2d4f22d37f95d6383e85b77a9089e93c5dfea0d578d4fd", func := "postbag/postbaglaw15.ValueDecodes", spec := "valueDecodes", unfollowed := true, recurses := true, apart := false, narrowed := true }
def ValueDecodesUptoSaid : Prop := valueDecodesUptoRow.holds Try.pinned (OpenSpec.upto valueDecodesSpec)

/-- 'postbaglaw15.ValueBack', WHERE WHAT IT READS IS OF BULK AT MOST 1048576: true; the input reads as it did. -/
def valueBackUptoRow : OpenClaim := { program := "ytpgbpcnifhnjjaa", sum := "06a32c89eb1931425f2d4f22d37f95d6383e85b77a9089e93c5dfea0d578d4fd", func := "postbag/postbaglaw15.ValueBack", spec := "valueBack", unfollowed := true, recurses := true, loops := true, apart := false, narrowed := true }
def ValueBackUptoSaid : Prop := valueBackUptoRow.holds Try.pinned (OpenSpec.upto valueBackSpec)

end Rows
end Go.Proofs.Ytpgbpcnifhnjjaa
