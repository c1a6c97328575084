/-
  No cell of these rows narrows 'for every input' (looked for: loops, veiled, ifaces, maps, wideKeys, modest, calm, conditions, laid).
  DERIVED. THE GIVEN ROWS OF THIS SEAT. 8 by the template 'for every input the law returns true; each argument reads behind the call as it read before'; 0 by the template 'total and deterministic' (their statements: YtfeglenlpnhofaaTotals.lean).
  GIVEN WITH THE SEED: the statements are not yours to turn. If you find one false, say at which input.
  Laid BY PROGRAM, IN A SANDBOX (cutbox-rows.mjs): the forced cells as the released guide's own fill.sh prints them over the translation e7f8dd648d62211f… (all of the seat's roots in one cut). By AI agents, Wed Nov 11 2026. No macro, syntax, notation, axiom, sorry.
-/
import Derived.Test.YtfeglenlpnhofaaChecked
import GoSem.Claim
import GoSem.ClaimJoined
import GoSem.ClaimMapViews
import Derived.JoinedTies
import Derived.KernelRfl
namespace Go.Proofs.Ytfeglenlpnhofaa
/- THE CELL 'sum', in the pinned program and in every row, IS THE sha256 OF THE DUMP (.gsa) THAT YtfeglenlpnhofaaProg.lean LOADS. Nothing in Lean hashes anything: it is a label: what it is worth is what the hold of that sum in a sandbox is worth. -/
noncomputable def Try.pinned : Pinned := { name := "ytfeglenlpnhofaa", sum := "e7f8dd648d62211faa5ee5af222c889a415c0d11113cd3f67717a855fb27fd31", checked := Try.checked }
namespace Rows
def none {H : Type} : Left H := { results := [], args := [] }

/-- 'laws.FnExactConstants': WHATEVER THE INPUT: true; the input reads as it did. -/
def fnExactConstantsSpec : ChangeSpec := { name := "fnExactConstants", fn := fun _ => fun
  | [] => { results := [.lit (.bool true)], args := [] }
  | _ => none }
def fnExactConstantsRow : OpenClaim := { program := "ytfeglenlpnhofaa", sum := "e7f8dd648d62211faa5ee5af222c889a415c0d11113cd3f67717a855fb27fd31", func := "loop.example/s01319/laws.FnExactConstants", spec := "fnExactConstants", apart := false }
def FnExactConstantsSaid : Prop := fnExactConstantsRow.holds Try.pinned (OpenSpec.ofChange fnExactConstantsSpec)

/-- ITS FALSE NEIGHBOUR: 'it returns false'. Refute it at one input. -/
def fnExactConstantsWrong : ChangeSpec := { name := "fnExactConstants", fn := fun _ => fun
  | [] => { results := [.lit (.bool false)], args := [] }
  | _ => none }
def FnExactConstantsWrongFalsely : Prop := fnExactConstantsRow.holds Try.pinned (OpenSpec.ofChange fnExactConstantsWrong)

/-- 'laws.FnExactJoinVals': WHATEVER THE INPUT: true; the input reads as it did. -/
def fnExactJoinValsSpec : ChangeSpec := { name := "fnExactJoinVals", fn := fun _ => fun
  | [d1, d2] => { results := [.lit (.bool true)], args := [d1, d2] }
  | _ => none }
def fnExactJoinValsRow : OpenClaim := { program := "ytfeglenlpnhofaa", sum := "e7f8dd648d62211faa5ee5af222c889a415c0d11113cd3f67717a855fb27fd31", func := "loop.example/s01319/laws.FnExactJoinVals", spec := "fnExactJoinVals", apart := false }
def FnExactJoinValsSaid : Prop := fnExactJoinValsRow.holds Try.pinned (OpenSpec.ofChange fnExactJoinValsSpec)

/-- ITS FALSE NEIGHBOUR: 'it returns false'. Refute it at one input. -/
def fnExactJoinValsWrong : ChangeSpec := { name := "fnExactJoinVals", fn := fun _ => fun
  | [d1, d2] => { results := [.lit (.bool false)], args := [d1, d2] }
  | _ => none }
def FnExactJoinValsWrongFalsely : Prop := fnExactJoinValsRow.holds Try.pinned (OpenSpec.ofChange fnExactJoinValsWrong)

/-- 'laws.FnJoin': WHATEVER THE INPUT: true; the input reads as it did. -/
def fnJoinSpec : ChangeSpec := { name := "fnJoin", fn := fun _ => fun
  | [d1, d2] => { results := [.lit (.bool true)], args := [d1, d2] }
  | _ => none }
def fnJoinRow : OpenClaim := { program := "ytfeglenlpnhofaa", sum := "e7f8dd648d62211faa5ee5af222c889a415c0d11113cd3f67717a855fb27fd31", func := "loop.example/s01319/laws.FnJoin", spec := "fnJoin", apart := false }
def FnJoinSaid : Prop := fnJoinRow.holds Try.pinned (OpenSpec.ofChange fnJoinSpec)

/-- ITS FALSE NEIGHBOUR: 'it returns false'. Refute it at one input. -/
def fnJoinWrong : ChangeSpec := { name := "fnJoin", fn := fun _ => fun
  | [d1, d2] => { results := [.lit (.bool false)], args := [d1, d2] }
  | _ => none }
def FnJoinWrongFalsely : Prop := fnJoinRow.holds Try.pinned (OpenSpec.ofChange fnJoinWrong)

/-- 'laws.FnExactValidSig': WHATEVER THE INPUT: true; the input reads as it did. -/
def fnExactValidSigSpec : ChangeSpec := { name := "fnExactValidSig", fn := fun _ => fun
  | [d] => { results := [.lit (.bool true)], args := [d] }
  | _ => none }
def fnExactValidSigRow : OpenClaim := { program := "ytfeglenlpnhofaa", sum := "e7f8dd648d62211faa5ee5af222c889a415c0d11113cd3f67717a855fb27fd31", func := "loop.example/s01319/laws.FnExactValidSig", spec := "fnExactValidSig", apart := false }
def FnExactValidSigSaid : Prop := fnExactValidSigRow.holds Try.pinned (OpenSpec.ofChange fnExactValidSigSpec)

/-- ITS FALSE NEIGHBOUR: 'it returns false'. Refute it at one input. -/
def fnExactValidSigWrong : ChangeSpec := { name := "fnExactValidSig", fn := fun _ => fun
  | [d] => { results := [.lit (.bool false)], args := [d] }
  | _ => none }
def FnExactValidSigWrongFalsely : Prop := fnExactValidSigRow.holds Try.pinned (OpenSpec.ofChange fnExactValidSigWrong)

/-- 'laws.FnExactValidAbs': WHATEVER THE INPUT: true; the input reads as it did. -/
def fnExactValidAbsSpec : ChangeSpec := { name := "fnExactValidAbs", fn := fun _ => fun
  | [d1, d2] => { results := [.lit (.bool true)], args := [d1, d2] }
  | _ => none }
def fnExactValidAbsRow : OpenClaim := { program := "ytfeglenlpnhofaa", sum := "e7f8dd648d62211faa5ee5af222c889a415c0d11113cd3f67717a855fb27fd31", func := "loop.example/s01319/laws.FnExactValidAbs", spec := "fnExactValidAbs", apart := false }
def FnExactValidAbsSaid : Prop := fnExactValidAbsRow.holds Try.pinned (OpenSpec.ofChange fnExactValidAbsSpec)

/-- ITS FALSE NEIGHBOUR: 'it returns false'. Refute it at one input. -/
def fnExactValidAbsWrong : ChangeSpec := { name := "fnExactValidAbs", fn := fun _ => fun
  | [d1, d2] => { results := [.lit (.bool false)], args := [d1, d2] }
  | _ => none }
def FnExactValidAbsWrongFalsely : Prop := fnExactValidAbsRow.holds Try.pinned (OpenSpec.ofChange fnExactValidAbsWrong)

/-- 'laws.FnExactValidMach': WHATEVER THE INPUT: true; the input reads as it did. -/
def fnExactValidMachSpec : ChangeSpec := { name := "fnExactValidMach", fn := fun _ => fun
  | [d] => { results := [.lit (.bool true)], args := [d] }
  | _ => none }
def fnExactValidMachRow : OpenClaim := { program := "ytfeglenlpnhofaa", sum := "e7f8dd648d62211faa5ee5af222c889a415c0d11113cd3f67717a855fb27fd31", func := "loop.example/s01319/laws.FnExactValidMach", spec := "fnExactValidMach", unfollowed := true, recurses := true, apart := false }
def FnExactValidMachSaid : Prop := fnExactValidMachRow.holds Try.pinned (OpenSpec.ofChange fnExactValidMachSpec)

/-- ITS FALSE NEIGHBOUR: 'it returns false'. Refute it at one input. -/
def fnExactValidMachWrong : ChangeSpec := { name := "fnExactValidMach", fn := fun _ => fun
  | [d] => { results := [.lit (.bool false)], args := [d] }
  | _ => none }
def FnExactValidMachWrongFalsely : Prop := fnExactValidMachRow.holds Try.pinned (OpenSpec.ofChange fnExactValidMachWrong)

/-- 'laws.FnExactFits': WHATEVER THE INPUT: true; the input reads as it did. -/
def fnExactFitsSpec : ChangeSpec := { name := "fnExactFits", fn := fun _ => fun
  | [d1, d2] => { results := [.lit (.bool true)], args := [d1, d2] }
  | _ => none }
def fnExactFitsRow : OpenClaim := { program := "ytfeglenlpnhofaa", sum := "e7f8dd648d62211faa5ee5af222c889a415c0d11113cd3f67717a855fb27fd31", func := "loop.example/s01319/laws.FnExactFits", spec := "fnExactFits", unfollowed := true, recurses := true, apart := false }
def FnExactFitsSaid : Prop := fnExactFitsRow.holds Try.pinned (OpenSpec.ofChange fnExactFitsSpec)

/-- ITS FALSE NEIGHBOUR: 'it returns false'. Refute it at one input. -/
def fnExactFitsWrong : ChangeSpec := { name := "fnExactFits", fn := fun _ => fun
  | [d1, d2] => { results := [.lit (.bool false)], args := [d1, d2] }
  | _ => none }
def FnExactFitsWrongFalsely : Prop := fnExactFitsRow.holds Try.pinned (OpenSpec.ofChange fnExactFitsWrong)

/-- 'laws.FnExactSamePublic': WHATEVER THE INPUT: true; the input reads as it did. -/
def fnExactSamePublicSpec : ChangeSpec := { name := "fnExactSamePublic", fn := fun _ => fun
  | [d1, d2, d3] => { results := [.lit (.bool true)], args := [d1, d2, d3] }
  | _ => none }
def fnExactSamePublicRow : OpenClaim := { program := "ytfeglenlpnhofaa", sum := "e7f8dd648d62211faa5ee5af222c889a415c0d11113cd3f67717a855fb27fd31", func := "loop.example/s01319/laws.FnExactSamePublic", spec := "fnExactSamePublic", unfollowed := true, recurses := true, apart := false }
def FnExactSamePublicSaid : Prop := fnExactSamePublicRow.holds Try.pinned (OpenSpec.ofChange fnExactSamePublicSpec)

/-- ITS FALSE NEIGHBOUR: 'it returns false'. Refute it at one input. -/
def fnExactSamePublicWrong : ChangeSpec := { name := "fnExactSamePublic", fn := fun _ => fun
  | [d1, d2, d3] => { results := [.lit (.bool false)], args := [d1, d2, d3] }
  | _ => none }
def FnExactSamePublicWrongFalsely : Prop := fnExactSamePublicRow.holds Try.pinned (OpenSpec.ofChange fnExactSamePublicWrong)

/- THE SECOND FORM. 'bulk': how many values and letters a reading holds, each counted each time it is reached (what is shared counts as often as it is met; a slice's spare places count too). A statement '..UptoSaid' is the law's where the arguments, and the package variables that the reading takes, are together of bulk at most 1048576: NARROWER than '..Said'. Prove '..Said' where nothing that the law and all that it calls make is longer than what came in: it says more and counts as full. Else prove '..UptoSaid'. A law counts once. -/
mutual
def uptoBulk {H : Type} : DataW H → Nat
  | .lit (.string bytes) => bytes.length + 1
  | .lit _ => 1
  | .nil => 1
  | .ptr d => uptoBulk d + 1
  | .slice elems spare => uptoBulkAll elems + uptoBulkAll spare + 1
  | .agg parts => uptoBulkAll parts + 1
  | .iface _ d => uptoBulk d + 1
  | .map entries => uptoBulkEntries entries + 1
  | .held _ => 1
def uptoBulkAll {H : Type} : List (DataW H) → Nat
  | [] => 0
  | d :: r => uptoBulk d + uptoBulkAll r
def uptoBulkEntries {H : Type} : List (Lit × DataW H) → Nat
  | [] => 0
  | x :: r => uptoBulkEntry x + uptoBulkEntries r
def uptoBulkEntry {H : Type} : Lit × DataW H → Nat
  | (.string bytes, d) => bytes.length + uptoBulk d + 1
  | (_, d) => uptoBulk d + 1
 end
def uptoSmall : (H : Type) → List (DataW H) → Bool := fun _ ds => decide (uptoBulkAll ds ≤ 1048576)
def OpenSpec.upto (s : _root_.Go.ChangeSpec) : _root_.Go.OpenSpec := { _root_.Go.OpenSpec.ofChange s with cond := some uptoSmall }

/-- 'laws.FnExactConstants', WHERE WHAT IT READS IS OF BULK AT MOST 1048576: true; the input reads as it did. -/
def fnExactConstantsUptoRow : OpenClaim := { program := "ytfeglenlpnhofaa", sum := "e7f8dd648d62211faa5ee5af222c889a415c0d11113cd3f67717a855fb27fd31", func := "loop.example/s01319/laws.FnExactConstants", spec := "fnExactConstants", apart := false, narrowed := true }
def FnExactConstantsUptoSaid : Prop := fnExactConstantsUptoRow.holds Try.pinned (OpenSpec.upto fnExactConstantsSpec)

/-- 'laws.FnExactJoinVals', WHERE WHAT IT READS IS OF BULK AT MOST 1048576: true; the input reads as it did. -/
def fnExactJoinValsUptoRow : OpenClaim := { program := "ytfeglenlpnhofaa", sum := "e7f8dd648d62211faa5ee5af222c889a415c0d11113cd3f67717a855fb27fd31", func := "loop.example/s01319/laws.FnExactJoinVals", spec := "fnExactJoinVals", apart := false, narrowed := true }
def FnExactJoinValsUptoSaid : Prop := fnExactJoinValsUptoRow.holds Try.pinned (OpenSpec.upto fnExactJoinValsSpec)

/-- 'laws.FnJoin', WHERE WHAT IT READS IS OF BULK AT MOST 1048576: true; the input reads as it did. -/
def fnJoinUptoRow : OpenClaim := { program := "ytfeglenlpnhofaa", sum := "e7f8dd648d62211faa5ee5af222c889a415c0d11113cd3f67717a855fb27fd31", func := "loop.example/s01319/laws.FnJoin", spec := "fnJoin", apart := false, narrowed := true }
def FnJoinUptoSaid : Prop := fnJoinUptoRow.holds Try.pinned (OpenSpec.upto fnJoinSpec)

/-- 'laws.FnExactValidSig', WHERE WHAT IT READS IS OF BULK AT MOST 1048576: true; the input reads as it did. -/
def fnExactValidSigUptoRow : OpenClaim := { program := "ytfeglenlpnhofaa", sum := "e7f8dd648d62211faa5ee5af222c889a415c0d11113cd3f67717a855fb27fd31", func := "loop.example/s01319/laws.FnExactValidSig", spec := "fnExactValidSig", apart := false, narrowed := true }
def FnExactValidSigUptoSaid : Prop := fnExactValidSigUptoRow.holds Try.pinned (OpenSpec.upto fnExactValidSigSpec)

/-- 'laws.FnExactValidAbs', WHERE WHAT IT READS IS OF BULK AT MOST 1048576: true; the input reads as it did. -/
def fnExactValidAbsUptoRow : OpenClaim := { program := "ytfeglenlpnhofaa", sum := "e7f8dd648d62211faa5ee5af222c889a415c0d11113cd3f67717a855fb27fd31", func := "loop.example/s01319/laws.FnExactValidAbs", spec := "fnExactValidAbs", apart := false, narrowed := true }
def FnExactValidAbsUptoSaid : Prop := fnExactValidAbsUptoRow.holds Try.pinned (OpenSpec.upto fnExactValidAbsSpec)

/-- 'laws.FnExactValidMach', WHERE WHAT IT READS IS OF BULK AT MOST 1048576: true; the input reads as it did. -/
def fnExactValidMachUptoRow : OpenClaim := { program := "ytfeglenlpnhofaa", sum := "e7f8dd648d62211faa5ee5af222c889a415c0d11113cd3f67717a855fb27fd31", func := "loop.example/s01319/laws.FnExactValidMach", spec := "fnExactValidMach", unfollowed := true, recurses := true, apart := false, narrowed := true }
def FnExactValidMachUptoSaid : Prop := fnExactValidMachUptoRow.holds Try.pinned (OpenSpec.upto fnExactValidMachSpec)

/-- 'laws.FnExactFits', WHERE WHAT IT READS IS OF BULK AT MOST 1048576: true; the input reads as it did. -/
def fnExactFitsUptoRow : OpenClaim := { program := "ytfeglenlpnhofaa", sum := "e7f8dd648d62211faa5ee5af222c889a415c0d11113cd3f67717a855fb27fd31", func := "loop.example/s01319/laws.FnExactFits", spec := "fnExactFits", unfollowed := true, recurses := true, apart := false, narrowed := true }
def FnExactFitsUptoSaid : Prop := fnExactFitsUptoRow.holds Try.pinned (OpenSpec.upto fnExactFitsSpec)

/-- 'laws.FnExactSamePublic', WHERE WHAT IT READS IS OF BULK AT MOST 1048576: true; the input reads as it did. -/
def fnExactSamePublicUptoRow : OpenClaim := { program := "ytfeglenlpnhofaa", sum := "e7f8dd648d62211faa5ee5af222c889a415c0d11113cd3f67717a855fb27fd31", func := "loop.example/s01319/laws.FnExactSamePublic", spec := "fnExactSamePublic", unfollowed := true, recurses := true, apart := false, narrowed := true }
def FnExactSamePublicUptoSaid : Prop := fnExactSamePublicUptoRow.holds Try.pinned (OpenSpec.upto fnExactSamePublicSpec)

end Rows
end Go.Proofs.Ytfeglenlpnhofaa
