/-
  No cell of these rows narrows 'for every input' (looked for: loops, veiled, ifaces, maps, wideKeys, modest, calm, conditions, laid).
  DERIVED. THE GIVEN ROWS OF THIS SEAT. 7 by the template 'for every input the law returns true; each argument reads behind the call as it read before'; 0 by the template 'total and deterministic' (their statements: YtlholebpfgjpdaaTotals.lean).
  GIVEN WITH THE SEED: the statements are not yours to turn. If you find one false, say at which input.
  Laid BY PROGRAM, IN A SANDBOX (cutbox-rows.mjs): the forced cells as the released guide's own fill.sh prints them over the translation 2f7e4092785ad2c6… (all of the seat's roots in one cut). By AI agents, Wed Nov 11 2026. No macro, syntax, notation, axiom, sorry.
-/
import Derived.Test.YtlholebpfgjpdaaChecked
import GoSem.Claim
import GoSem.ClaimJoined
import GoSem.ClaimMapViews
import Derived.JoinedTies
import Derived.KernelRfl
namespace Go.Proofs.Ytlholebpfgjpdaa
/- THE CELL 'sum', in the pinned program and in every row, IS THE sha256 OF THE DUMP (.gsa) THAT YtlholebpfgjpdaaProg.lean LOADS. Nothing in Lean hashes anything: it is a label: what it is worth is what the hold of that sum in a sandbox is worth. -/
noncomputable def Try.pinned : Pinned := { name := "ytlholebpfgjpdaa", sum := "2f7e4092785ad2c64e608c35a8638d2914d13bd021db543029f686d104740429", checked := Try.checked }
namespace Rows
def none {H : Type} : Left H := { results := [], args := [] }

/-- 'grisaillelaw29.CompositeFactors': WHATEVER THE INPUT: true; the input reads as it did. -/
def compositeFactorsSpec : ChangeSpec := { name := "compositeFactors", fn := fun _ => fun
  | [d1, d2] => { results := [.lit (.bool true)], args := [d1, d2] }
  | _ => none }
def compositeFactorsRow : OpenClaim := { program := "ytlholebpfgjpdaa", sum := "2f7e4092785ad2c64e608c35a8638d2914d13bd021db543029f686d104740429", func := "grisaille/grisaillelaw29.CompositeFactors", spec := "compositeFactors", unfollowed := true, recurses := true, named := ["math/bits.divideError", "math/bits.overflowError"], apart := false }
def CompositeFactorsSaid : Prop := compositeFactorsRow.holds Try.pinned (OpenSpec.ofChange compositeFactorsSpec)

/-- ITS FALSE NEIGHBOUR: 'it returns false'. Refute it at one input. -/
def compositeFactorsWrong : ChangeSpec := { name := "compositeFactors", fn := fun _ => fun
  | [d1, d2] => { results := [.lit (.bool false)], args := [d1, d2] }
  | _ => none }
def CompositeFactorsWrongFalsely : Prop := compositeFactorsRow.holds Try.pinned (OpenSpec.ofChange compositeFactorsWrong)

/-- 'grisaillelaw29.CompositeOperators': WHATEVER THE INPUT: true; the input reads as it did. -/
def compositeOperatorsSpec : ChangeSpec := { name := "compositeOperators", fn := fun _ => fun
  | [d1, d2, d3] => { results := [.lit (.bool true)], args := [d1, d2, d3] }
  | _ => none }
def compositeOperatorsRow : OpenClaim := { program := "ytlholebpfgjpdaa", sum := "2f7e4092785ad2c64e608c35a8638d2914d13bd021db543029f686d104740429", func := "grisaille/grisaillelaw29.CompositeOperators", spec := "compositeOperators", unfollowed := true, recurses := true, named := ["math/bits.divideError", "math/bits.overflowError"], apart := false }
def CompositeOperatorsSaid : Prop := compositeOperatorsRow.holds Try.pinned (OpenSpec.ofChange compositeOperatorsSpec)

/-- ITS FALSE NEIGHBOUR: 'it returns false'. Refute it at one input. -/
def compositeOperatorsWrong : ChangeSpec := { name := "compositeOperators", fn := fun _ => fun
  | [d1, d2, d3] => { results := [.lit (.bool false)], args := [d1, d2, d3] }
  | _ => none }
def CompositeOperatorsWrongFalsely : Prop := compositeOperatorsRow.holds Try.pinned (OpenSpec.ofChange compositeOperatorsWrong)

/-- 'grisaillelaw29.CompositeCoverage': WHATEVER THE INPUT: true; the input reads as it did. -/
def compositeCoverageSpec : ChangeSpec := { name := "compositeCoverage", fn := fun _ => fun
  | [d1, d2, d3] => { results := [.lit (.bool true)], args := [d1, d2, d3] }
  | _ => none }
def compositeCoverageRow : OpenClaim := { program := "ytlholebpfgjpdaa", sum := "2f7e4092785ad2c64e608c35a8638d2914d13bd021db543029f686d104740429", func := "grisaille/grisaillelaw29.CompositeCoverage", spec := "compositeCoverage", unfollowed := true, recurses := true, named := ["math/bits.divideError", "math/bits.overflowError"], apart := false }
def CompositeCoverageSaid : Prop := compositeCoverageRow.holds Try.pinned (OpenSpec.ofChange compositeCoverageSpec)

/-- ITS FALSE NEIGHBOUR: 'it returns false'. Refute it at one input. -/
def compositeCoverageWrong : ChangeSpec := { name := "compositeCoverage", fn := fun _ => fun
  | [d1, d2, d3] => { results := [.lit (.bool false)], args := [d1, d2, d3] }
  | _ => none }
def CompositeCoverageWrongFalsely : Prop := compositeCoverageRow.holds Try.pinned (OpenSpec.ofChange compositeCoverageWrong)

/-- 'grisaillelaw29.CompositeBlendAll': WHATEVER THE INPUT: true; the input reads as it did. -/
def compositeBlendAllSpec : ChangeSpec := { name := "compositeBlendAll", fn := fun _ => fun
  | [d1, d2, d3] => { results := [.lit (.bool true)], args := [d1, d2, d3] }
  | _ => none }
def compositeBlendAllRow : OpenClaim := { program := "ytlholebpfgjpdaa", sum := "2f7e4092785ad2c64e608c35a8638d2914d13bd021db543029f686d104740429", func := "grisaille/grisaillelaw29.CompositeBlendAll", spec := "compositeBlendAll", unfollowed := true, recurses := true, named := ["math/bits.divideError", "math/bits.overflowError"], apart := false }
def CompositeBlendAllSaid : Prop := compositeBlendAllRow.holds Try.pinned (OpenSpec.ofChange compositeBlendAllSpec)

/-- ITS FALSE NEIGHBOUR: 'it returns false'. Refute it at one input. -/
def compositeBlendAllWrong : ChangeSpec := { name := "compositeBlendAll", fn := fun _ => fun
  | [d1, d2, d3] => { results := [.lit (.bool false)], args := [d1, d2, d3] }
  | _ => none }
def CompositeBlendAllWrongFalsely : Prop := compositeBlendAllRow.holds Try.pinned (OpenSpec.ofChange compositeBlendAllWrong)

/-- 'grisaillelaw29.CompositeOver': WHATEVER THE INPUT: true; the input reads as it did. -/
def compositeOverSpec : ChangeSpec := { name := "compositeOver", fn := fun _ => fun
  | [d1, d2, d3] => { results := [.lit (.bool true)], args := [d1, d2, d3] }
  | _ => none }
def compositeOverRow : OpenClaim := { program := "ytlholebpfgjpdaa", sum := "2f7e4092785ad2c64e608c35a8638d2914d13bd021db543029f686d104740429", func := "grisaille/grisaillelaw29.CompositeOver", spec := "compositeOver", unfollowed := true, recurses := true, named := ["math/bits.divideError", "math/bits.overflowError"], apart := false }
def CompositeOverSaid : Prop := compositeOverRow.holds Try.pinned (OpenSpec.ofChange compositeOverSpec)

/-- ITS FALSE NEIGHBOUR: 'it returns false'. Refute it at one input. -/
def compositeOverWrong : ChangeSpec := { name := "compositeOver", fn := fun _ => fun
  | [d1, d2, d3] => { results := [.lit (.bool false)], args := [d1, d2, d3] }
  | _ => none }
def CompositeOverWrongFalsely : Prop := compositeOverRow.holds Try.pinned (OpenSpec.ofChange compositeOverWrong)

/-- 'grisaillelaw29.CompositeIdentities': WHATEVER THE INPUT: true; the input reads as it did. -/
def compositeIdentitiesSpec : ChangeSpec := { name := "compositeIdentities", fn := fun _ => fun
  | [d1, d2] => { results := [.lit (.bool true)], args := [d1, d2] }
  | _ => none }
def compositeIdentitiesRow : OpenClaim := { program := "ytlholebpfgjpdaa", sum := "2f7e4092785ad2c64e608c35a8638d2914d13bd021db543029f686d104740429", func := "grisaille/grisaillelaw29.CompositeIdentities", spec := "compositeIdentities", unfollowed := true, recurses := true, named := ["math/bits.divideError", "math/bits.overflowError"], apart := false }
def CompositeIdentitiesSaid : Prop := compositeIdentitiesRow.holds Try.pinned (OpenSpec.ofChange compositeIdentitiesSpec)

/-- ITS FALSE NEIGHBOUR: 'it returns false'. Refute it at one input. -/
def compositeIdentitiesWrong : ChangeSpec := { name := "compositeIdentities", fn := fun _ => fun
  | [d1, d2] => { results := [.lit (.bool false)], args := [d1, d2] }
  | _ => none }
def CompositeIdentitiesWrongFalsely : Prop := compositeIdentitiesRow.holds Try.pinned (OpenSpec.ofChange compositeIdentitiesWrong)

/-- 'grisaillelaw29.CompositeInvalidMode': WHATEVER THE INPUT: true; the input reads as it did. -/
def compositeInvalidModeSpec : ChangeSpec := { name := "compositeInvalidMode", fn := fun _ => fun
  | [d1, d2, d3] => { results := [.lit (.bool true)], args := [d1, d2, d3] }
  | _ => none }
def compositeInvalidModeRow : OpenClaim := { program := "ytlholebpfgjpdaa", sum := "2f7e4092785ad2c64e608c35a8638d2914d13bd021db543029f686d104740429", func := "grisaille/grisaillelaw29.CompositeInvalidMode", spec := "compositeInvalidMode", unfollowed := true, recurses := true, named := ["math/bits.divideError", "math/bits.overflowError"], apart := false }
def CompositeInvalidModeSaid : Prop := compositeInvalidModeRow.holds Try.pinned (OpenSpec.ofChange compositeInvalidModeSpec)

/-- ITS FALSE NEIGHBOUR: 'it returns false'. Refute it at one input. -/
def compositeInvalidModeWrong : ChangeSpec := { name := "compositeInvalidMode", fn := fun _ => fun
  | [d1, d2, d3] => { results := [.lit (.bool false)], args := [d1, d2, d3] }
  | _ => none }
def CompositeInvalidModeWrongFalsely : Prop := compositeInvalidModeRow.holds Try.pinned (OpenSpec.ofChange compositeInvalidModeWrong)

/- THE SECOND FORM. 'bulk': how many values and letters a reading holds, each counted each time it is reached (what is shared counts as often as it is met; a slice's spare places count too). A statement '..UptoSaid' is the law's where the arguments, and the package variables that the reading takes, are together of bulk at most 1048576: NARROWER than '..Said'. Prove '..Said' where nothing that the law and all that it calls make is longer than what came in: it says more and counts as full. Else prove '..UptoSaid'. A law counts once. -/
mutual
def uptoBulk {H : Type} : DataW H → Nat
  | .lit (.string bytes) => bytes.length + 1
  | .lit _ => 1
  | .nil => 1
  | .ptr d => uptoBulk d + 1
  | .slice elems spare => uptoBulkAll elems + uptoBulkAll spare + 1
  | .agg parts => uptoBulkAll parts + 1
  | .iface _ d => uptoBulk d + 1
  | .map entries => uptoBulkEntries entries + 1
  | .held _ => 1
def uptoBulkAll {H : Type} : List (DataW H) → Nat
  | [] => 0
  | d :: r => uptoBulk d + uptoBulkAll r
def uptoBulkEntries {H : Type} : List (Lit × DataW H) → Nat
  | [] => 0
  | x :: r => uptoBulkEntry x + uptoBulkEntries r
def uptoBulkEntry {H : Type} : Lit × DataW H → Nat
  | (.string bytes, d) => bytes.length + uptoBulk d + 1
  | (_, d) => uptoBulk d + 1
 end
def uptoSmall : (H : Type) → List (DataW H) → Bool := fun _ ds => decide (uptoBulkAll ds ≤ 1048576)
def OpenSpec.upto (s : _root_.Go.ChangeSpec) : _root_.Go.OpenSpec := { _root_.Go.OpenSpec.ofChange s with cond := some uptoSmall }

/-- 'grisaillelaw29.CompositeFactors', WHERE WHAT IT READS IS OF BULK AT MOST 1048576: true; the input reads as it did. -/
def compositeFactorsUptoRow : OpenClaim := { program := "ytlholebpfgjpdaa", sum := "2f7e4092785ad2c64e608c35a8638d2914d13bd021db543029f686d104740429", func := "grisaille/grisaillelaw29.CompositeFactors", spec := "compositeFactors", unfollowed := true, recurses := true, named := ["math/bits.divideError", "math/bits.overflowError"], apart := false, narrowed := true }
def CompositeFactorsUptoSaid : Prop := compositeFactorsUptoRow.holds Try.pinned (OpenSpec.upto compositeFactorsSpec)

/-- 'grisaillelaw29.CompositeOperators', WHERE WHAT IT READS IS OF BULK AT MOST 1048576: true; the input reads as it did. -/
def compositeOperatorsUptoRow : OpenClaim := { program := "ytlholebpfgjpdaa", sum := "2f7e4092785ad2c64e608c35a8638d2914d13bd021db543029f686d104740429", func := "grisaille/grisaillelaw29.CompositeOperators", spec := "compositeOperators", unfollowed := true, recurses := true, named := ["math/bits.divideError", "math/bits.overflowError"], apart := false, narrowed := true }
def CompositeOperatorsUptoSaid : Prop := compositeOperatorsUptoRow.holds Try.pinned (OpenSpec.upto compositeOperatorsSpec)

/-- 'grisaillelaw29.CompositeCoverage', WHERE WHAT IT READS IS OF BULK AT MOST 1048576: true; the input reads as it did. -/
def compositeCoverageUptoRow : OpenClaim := { program := "ytlholebpfgjpdaa", sum := "2f7e4092785ad2c64e608c35a8638d2914d13bd021db543029f686d104740429", func := "grisaille/grisaillelaw29.CompositeCoverage", spec := "compositeCoverage", unfollowed := true, recurses := true, named := ["math/bits.divideError", "math/bits.overflowError"], apart := false, narrowed := true }
def CompositeCoverageUptoSaid : Prop := compositeCoverageUptoRow.holds Try.pinned (OpenSpec.upto compositeCoverageSpec)

/-- 'grisaillelaw29.CompositeBlendAll', WHERE WHAT IT READS IS OF BULK AT MOST 1048576: true; the input reads as it did. -/
def compositeBlendAllUptoRow : OpenClaim := { program := "ytlholebpfgjpdaa", sum := "2f7e4092785ad2c64e608c35a8638d2914d13bd021db543029f686d104740429", func := "grisaille/grisaillelaw29.CompositeBlendAll", spec := "compositeBlendAll", unfollowed := true, recurses := true, named := ["math/bits.divideError", "math/bits.overflowError"], apart := false, narrowed := true }
def CompositeBlendAllUptoSaid : Prop := compositeBlendAllUptoRow.holds Try.pinned (OpenSpec.upto compositeBlendAllSpec)

/-- 'grisaillelaw29.CompositeOver', WHERE WHAT IT READS IS OF BULK AT MOST 1048576: true; the input reads as it did. -/
def compositeOverUptoRow : OpenClaim := { program := "ytlholebpfgjpdaa", sum := "2f7e4092785ad2c64e608c35a8638d2914d13bd021db543029f686d104740429", func := "grisaille/grisaillelaw29.CompositeOver", spec := "compositeOver", unfollowed := true, recurses := true, named := ["math/bits.divideError", "math/bits.overflowError"], apart := false, narrowed := true }
def CompositeOverUptoSaid : Prop := compositeOverUptoRow.holds Try.pinned (OpenSpec.upto compositeOverSpec)

/-- 'grisaillelaw29.CompositeIdentities', WHERE WHAT IT READS IS OF BULK AT MOST 1048576: true; the input reads as it did. -/
def compositeIdentitiesUptoRow : OpenClaim := { program := "ytlholebpfgjpdaa", sum := "2f7e4092785ad2c64e608c35a8638d2914d13bd021db543029f686d104740429", func := "grisaille/grisaillelaw29.CompositeIdentities", spec := "compositeIdentities", unfollowed := true, recurses := true, named := ["math/bits.divideError", "math/bits.overflowError"], apart := false, narrowed := true }
def CompositeIdentitiesUptoSaid : Prop := compositeIdentitiesUptoRow.holds Try.pinned (OpenSpec.upto compositeIdentitiesSpec)

/-- 'grisaillelaw29.CompositeInvalidMode', WHERE WHAT IT READS IS OF BULK AT MOST 1048576: true; the input reads as it did. -/
def compositeInvalidModeUptoRow : OpenClaim := { program := "ytlholebpfgjpdaa", sum := "2f7e4092785ad2c64e608c35a8638d2914d13bd021db543029f686d104740429", func := "grisaille/grisaillelaw29.CompositeInvalidMode", spec := "compositeInvalidMode", unfollowed := true, recurses := true, named := ["math/bits.divideError", "math/bits.overflowError"], apart := false, narrowed := true }
def CompositeInvalidModeUptoSaid : Prop := compositeInvalidModeUptoRow.holds Try.pinned (OpenSpec.upto compositeInvalidModeSpec)

end Rows
end Go.Proofs.Ytlholebpfgjpdaa
