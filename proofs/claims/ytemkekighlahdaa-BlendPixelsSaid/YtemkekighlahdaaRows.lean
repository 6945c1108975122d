/-
  No cell of these rows narrows 'for every input' (looked for: loops, veiled, ifaces, maps, wideKeys, modest, calm, conditions, laid).
  DERIVED. THE GIVEN ROWS OF THIS SEAT. 11 by the template 'for every input the law returns true; each argument reads behind the call as it read before'; 0 by the template 'total and deterministic' (their statements: YtemkekighlahdaaTotals.lean).
  GIVEN WITH THE SEED: the statements are not yours to turn. If you find one false, say at which input.
  Laid BY PROGRAM, IN A SANDBOX (cutbox-rows.mjs): the forced cells as the released guide's own fill.sh prints them over the translation 517053b6e5e5541f… (all of the seat's roots in one cut). By AI agents, Wed Nov 11 2026. No macro, syntax, notation, axiom, sorry.
-/
import Derived.Test.YtemkekighlahdaaChecked
import GoSem.Claim
import GoSem.ClaimJoined
import GoSem.ClaimMapViews
import Derived.JoinedTies
import Derived.KernelRfl
namespace Go.Proofs.Ytemkekighlahdaa
/- THE CELL 'sum', in the pinned program and in every row, IS THE sha256 OF THE DUMP (.gsa) THAT YtemkekighlahdaaProg.lean LOADS. Nothing in Lean hashes anything: it is a label: what it is worth is what the hold of that sum in a sandbox is worth. -/
noncomputable def Try.pinned : Pinned := { name := "ytemkekighlahdaa", sum := "517053b6e5e5541f6eb2f3be429fbb1805cf26b98c71add6fc1024c030c9667c", checked := Try.checked }
namespace Rows
def none {H : Type} : Left H := { results := [], args := [] }

/-- 'grisaillelaw28.BlendModeNames': WHATEVER THE INPUT: true; the input reads as it did. -/
def blendModeNamesSpec : ChangeSpec := { name := "blendModeNames", fn := fun _ => fun
  | [d1, d2] => { results := [.lit (.bool true)], args := [d1, d2] }
  | _ => none }
def blendModeNamesRow : OpenClaim := { program := "ytemkekighlahdaa", sum := "517053b6e5e5541f6eb2f3be429fbb1805cf26b98c71add6fc1024c030c9667c", func := "grisaille/grisaillelaw28.BlendModeNames", spec := "blendModeNames", unfollowed := true, recurses := true, named := ["math/bits.divideError", "math/bits.overflowError"], apart := false }
def BlendModeNamesSaid : Prop := blendModeNamesRow.holds Try.pinned (OpenSpec.ofChange blendModeNamesSpec)

/-- ITS FALSE NEIGHBOUR: 'it returns false'. Refute it at one input. -/
def blendModeNamesWrong : ChangeSpec := { name := "blendModeNames", fn := fun _ => fun
  | [d1, d2] => { results := [.lit (.bool false)], args := [d1, d2] }
  | _ => none }
def BlendModeNamesWrongFalsely : Prop := blendModeNamesRow.holds Try.pinned (OpenSpec.ofChange blendModeNamesWrong)

/-- 'grisaillelaw28.BlendPixels': WHATEVER THE INPUT: true; the input reads as it did. -/
def blendPixelsSpec : ChangeSpec := { name := "blendPixels", fn := fun _ => fun
  | [d1, d2, d3] => { results := [.lit (.bool true)], args := [d1, d2, d3] }
  | _ => none }
def blendPixelsRow : OpenClaim := { program := "ytemkekighlahdaa", sum := "517053b6e5e5541f6eb2f3be429fbb1805cf26b98c71add6fc1024c030c9667c", func := "grisaille/grisaillelaw28.BlendPixels", spec := "blendPixels", unfollowed := true, recurses := true, named := ["math/bits.divideError", "math/bits.overflowError"], apart := false }
def BlendPixelsSaid : Prop := blendPixelsRow.holds Try.pinned (OpenSpec.ofChange blendPixelsSpec)

/-- ITS FALSE NEIGHBOUR: 'it returns false'. Refute it at one input. -/
def blendPixelsWrong : ChangeSpec := { name := "blendPixels", fn := fun _ => fun
  | [d1, d2, d3] => { results := [.lit (.bool false)], args := [d1, d2, d3] }
  | _ => none }
def BlendPixelsWrongFalsely : Prop := blendPixelsRow.holds Try.pinned (OpenSpec.ofChange blendPixelsWrong)

/-- 'grisaillelaw28.BlendTransparent': WHATEVER THE INPUT: true; the input reads as it did. -/
def blendTransparentSpec : ChangeSpec := { name := "blendTransparent", fn := fun _ => fun
  | [d1, d2] => { results := [.lit (.bool true)], args := [d1, d2] }
  | _ => none }
def blendTransparentRow : OpenClaim := { program := "ytemkekighlahdaa", sum := "517053b6e5e5541f6eb2f3be429fbb1805cf26b98c71add6fc1024c030c9667c", func := "grisaille/grisaillelaw28.BlendTransparent", spec := "blendTransparent", unfollowed := true, recurses := true, named := ["math/bits.divideError", "math/bits.overflowError"], apart := false }
def BlendTransparentSaid : Prop := blendTransparentRow.holds Try.pinned (OpenSpec.ofChange blendTransparentSpec)

/-- ITS FALSE NEIGHBOUR: 'it returns false'. Refute it at one input. -/
def blendTransparentWrong : ChangeSpec := { name := "blendTransparent", fn := fun _ => fun
  | [d1, d2] => { results := [.lit (.bool false)], args := [d1, d2] }
  | _ => none }
def BlendTransparentWrongFalsely : Prop := blendTransparentRow.holds Try.pinned (OpenSpec.ofChange blendTransparentWrong)

/-- 'grisaillelaw28.BlendSymmetry': WHATEVER THE INPUT: true; the input reads as it did. -/
def blendSymmetrySpec : ChangeSpec := { name := "blendSymmetry", fn := fun _ => fun
  | [d1, d2, d3] => { results := [.lit (.bool true)], args := [d1, d2, d3] }
  | _ => none }
def blendSymmetryRow : OpenClaim := { program := "ytemkekighlahdaa", sum := "517053b6e5e5541f6eb2f3be429fbb1805cf26b98c71add6fc1024c030c9667c", func := "grisaille/grisaillelaw28.BlendSymmetry", spec := "blendSymmetry", unfollowed := true, recurses := true, named := ["math/bits.divideError", "math/bits.overflowError"], apart := false }
def BlendSymmetrySaid : Prop := blendSymmetryRow.holds Try.pinned (OpenSpec.ofChange blendSymmetrySpec)

/-- ITS FALSE NEIGHBOUR: 'it returns false'. Refute it at one input. -/
def blendSymmetryWrong : ChangeSpec := { name := "blendSymmetry", fn := fun _ => fun
  | [d1, d2, d3] => { results := [.lit (.bool false)], args := [d1, d2, d3] }
  | _ => none }
def BlendSymmetryWrongFalsely : Prop := blendSymmetryRow.holds Try.pinned (OpenSpec.ofChange blendSymmetryWrong)

/-- 'grisaillelaw28.BlendOpaque': WHATEVER THE INPUT: true; the input reads as it did. -/
def blendOpaqueSpec : ChangeSpec := { name := "blendOpaque", fn := fun _ => fun
  | [d1, d2] => { results := [.lit (.bool true)], args := [d1, d2] }
  | _ => none }
def blendOpaqueRow : OpenClaim := { program := "ytemkekighlahdaa", sum := "517053b6e5e5541f6eb2f3be429fbb1805cf26b98c71add6fc1024c030c9667c", func := "grisaille/grisaillelaw28.BlendOpaque", spec := "blendOpaque", unfollowed := true, recurses := true, named := ["math/bits.divideError", "math/bits.overflowError"], apart := false }
def BlendOpaqueSaid : Prop := blendOpaqueRow.holds Try.pinned (OpenSpec.ofChange blendOpaqueSpec)

/-- ITS FALSE NEIGHBOUR: 'it returns false'. Refute it at one input. -/
def blendOpaqueWrong : ChangeSpec := { name := "blendOpaque", fn := fun _ => fun
  | [d1, d2] => { results := [.lit (.bool false)], args := [d1, d2] }
  | _ => none }
def BlendOpaqueWrongFalsely : Prop := blendOpaqueRow.holds Try.pinned (OpenSpec.ofChange blendOpaqueWrong)

/-- 'grisaillelaw28.BlendLuminosity': WHATEVER THE INPUT: true; the input reads as it did. -/
def blendLuminositySpec : ChangeSpec := { name := "blendLuminosity", fn := fun _ => fun
  | [d1, d2] => { results := [.lit (.bool true)], args := [d1, d2] }
  | _ => none }
def blendLuminosityRow : OpenClaim := { program := "ytemkekighlahdaa", sum := "517053b6e5e5541f6eb2f3be429fbb1805cf26b98c71add6fc1024c030c9667c", func := "grisaille/grisaillelaw28.BlendLuminosity", spec := "blendLuminosity", unfollowed := true, recurses := true, named := ["math/bits.divideError", "math/bits.overflowError"], apart := false }
def BlendLuminositySaid : Prop := blendLuminosityRow.holds Try.pinned (OpenSpec.ofChange blendLuminositySpec)

/-- ITS FALSE NEIGHBOUR: 'it returns false'. Refute it at one input. -/
def blendLuminosityWrong : ChangeSpec := { name := "blendLuminosity", fn := fun _ => fun
  | [d1, d2] => { results := [.lit (.bool false)], args := [d1, d2] }
  | _ => none }
def BlendLuminosityWrongFalsely : Prop := blendLuminosityRow.holds Try.pinned (OpenSpec.ofChange blendLuminosityWrong)

/-- 'grisaillelaw28.BlendSelf': WHATEVER THE INPUT: true; the input reads as it did. -/
def blendSelfSpec : ChangeSpec := { name := "blendSelf", fn := fun _ => fun
  | [d1, d2] => { results := [.lit (.bool true)], args := [d1, d2] }
  | _ => none }
def blendSelfRow : OpenClaim := { program := "ytemkekighlahdaa", sum := "517053b6e5e5541f6eb2f3be429fbb1805cf26b98c71add6fc1024c030c9667c", func := "grisaille/grisaillelaw28.BlendSelf", spec := "blendSelf", unfollowed := true, recurses := true, named := ["math/bits.divideError", "math/bits.overflowError"], apart := false }
def BlendSelfSaid : Prop := blendSelfRow.holds Try.pinned (OpenSpec.ofChange blendSelfSpec)

/-- ITS FALSE NEIGHBOUR: 'it returns false'. Refute it at one input. -/
def blendSelfWrong : ChangeSpec := { name := "blendSelf", fn := fun _ => fun
  | [d1, d2] => { results := [.lit (.bool false)], args := [d1, d2] }
  | _ => none }
def BlendSelfWrongFalsely : Prop := blendSelfRow.holds Try.pinned (OpenSpec.ofChange blendSelfWrong)

/-- 'grisaillelaw28.BlendGray': WHATEVER THE INPUT: true; the input reads as it did. -/
def blendGraySpec : ChangeSpec := { name := "blendGray", fn := fun _ => fun
  | [d1, d2] => { results := [.lit (.bool true)], args := [d1, d2] }
  | _ => none }
def blendGrayRow : OpenClaim := { program := "ytemkekighlahdaa", sum := "517053b6e5e5541f6eb2f3be429fbb1805cf26b98c71add6fc1024c030c9667c", func := "grisaille/grisaillelaw28.BlendGray", spec := "blendGray", unfollowed := true, recurses := true, named := ["math/bits.divideError", "math/bits.overflowError"], apart := false }
def BlendGraySaid : Prop := blendGrayRow.holds Try.pinned (OpenSpec.ofChange blendGraySpec)

/-- ITS FALSE NEIGHBOUR: 'it returns false'. Refute it at one input. -/
def blendGrayWrong : ChangeSpec := { name := "blendGray", fn := fun _ => fun
  | [d1, d2] => { results := [.lit (.bool false)], args := [d1, d2] }
  | _ => none }
def BlendGrayWrongFalsely : Prop := blendGrayRow.holds Try.pinned (OpenSpec.ofChange blendGrayWrong)

/-- 'grisaillelaw28.BlendTerms': WHATEVER THE INPUT: true; the input reads as it did. -/
def blendTermsSpec : ChangeSpec := { name := "blendTerms", fn := fun _ => fun
  | [d1, d2, d3, d4, d5] => { results := [.lit (.bool true)], args := [d1, d2, d3, d4, d5] }
  | _ => none }
def blendTermsRow : OpenClaim := { program := "ytemkekighlahdaa", sum := "517053b6e5e5541f6eb2f3be429fbb1805cf26b98c71add6fc1024c030c9667c", func := "grisaille/grisaillelaw28.BlendTerms", spec := "blendTerms", unfollowed := true, recurses := true, named := ["math/bits.divideError", "math/bits.overflowError"], apart := false }
def BlendTermsSaid : Prop := blendTermsRow.holds Try.pinned (OpenSpec.ofChange blendTermsSpec)

/-- ITS FALSE NEIGHBOUR: 'it returns false'. Refute it at one input. -/
def blendTermsWrong : ChangeSpec := { name := "blendTerms", fn := fun _ => fun
  | [d1, d2, d3, d4, d5] => { results := [.lit (.bool false)], args := [d1, d2, d3, d4, d5] }
  | _ => none }
def BlendTermsWrongFalsely : Prop := blendTermsRow.holds Try.pinned (OpenSpec.ofChange blendTermsWrong)

/-- 'grisaillelaw28.BlendTermRange': WHATEVER THE INPUT: true; the input reads as it did. -/
def blendTermRangeSpec : ChangeSpec := { name := "blendTermRange", fn := fun _ => fun
  | [d1, d2, d3] => { results := [.lit (.bool true)], args := [d1, d2, d3] }
  | _ => none }
def blendTermRangeRow : OpenClaim := { program := "ytemkekighlahdaa", sum := "517053b6e5e5541f6eb2f3be429fbb1805cf26b98c71add6fc1024c030c9667c", func := "grisaille/grisaillelaw28.BlendTermRange", spec := "blendTermRange", unfollowed := true, recurses := true, named := ["math/bits.divideError", "math/bits.overflowError"], apart := false }
def BlendTermRangeSaid : Prop := blendTermRangeRow.holds Try.pinned (OpenSpec.ofChange blendTermRangeSpec)

/-- ITS FALSE NEIGHBOUR: 'it returns false'. Refute it at one input. -/
def blendTermRangeWrong : ChangeSpec := { name := "blendTermRange", fn := fun _ => fun
  | [d1, d2, d3] => { results := [.lit (.bool false)], args := [d1, d2, d3] }
  | _ => none }
def BlendTermRangeWrongFalsely : Prop := blendTermRangeRow.holds Try.pinned (OpenSpec.ofChange blendTermRangeWrong)

/-- 'grisaillelaw28.BlendAlpha': WHATEVER THE INPUT: true; the input reads as it did. -/
def blendAlphaSpec : ChangeSpec := { name := "blendAlpha", fn := fun _ => fun
  | [d1, d2, d3] => { results := [.lit (.bool true)], args := [d1, d2, d3] }
  | _ => none }
def blendAlphaRow : OpenClaim := { program := "ytemkekighlahdaa", sum := "517053b6e5e5541f6eb2f3be429fbb1805cf26b98c71add6fc1024c030c9667c", func := "grisaille/grisaillelaw28.BlendAlpha", spec := "blendAlpha", unfollowed := true, recurses := true, named := ["math/bits.divideError", "math/bits.overflowError"], apart := false }
def BlendAlphaSaid : Prop := blendAlphaRow.holds Try.pinned (OpenSpec.ofChange blendAlphaSpec)

/-- ITS FALSE NEIGHBOUR: 'it returns false'. Refute it at one input. -/
def blendAlphaWrong : ChangeSpec := { name := "blendAlpha", fn := fun _ => fun
  | [d1, d2, d3] => { results := [.lit (.bool false)], args := [d1, d2, d3] }
  | _ => none }
def BlendAlphaWrongFalsely : Prop := blendAlphaRow.holds Try.pinned (OpenSpec.ofChange blendAlphaWrong)

/- THE SECOND FORM. 'bulk': how many values and letters a reading holds, each counted each time it is reached (what is shared counts as often as it is met; a slice's spare places count too). A statement '..UptoSaid' is the law's where the arguments, and the package variables that the reading takes, are together of bulk at most 1048576: NARROWER than '..Said'. Prove '..Said' where nothing that the law and all that it calls make is longer than what came in: it says more and counts as full. Else prove '..UptoSaid'. A law counts once. -/
mutual
def uptoBulk {H : Type} : DataW H → Nat
  | .lit (.string bytes) => bytes.length + 1
  | .lit _ => 1
  | .nil => 1
  | .ptr d => uptoBulk d + 1
  | .slice elems spare => uptoBulkAll elems + uptoBulkAll spare + 1
  | .agg parts => uptoBulkAll parts + 1
  | .iface _ d => uptoBulk d + 1
  | .map entries => uptoBulkEntries entries + 1
  | .held _ => 1
def uptoBulkAll {H : Type} : List (DataW H) → Nat
  | [] => 0
  | d :: r => uptoBulk d + uptoBulkAll r
def uptoBulkEntries {H : Type} : List (Lit × DataW H) → Nat
  | [] => 0
  | x :: r => uptoBulkEntry x + uptoBulkEntries r
def uptoBulkEntry {H : Type} : Lit × DataW H → Nat
  | (.string bytes, d) => bytes.length + uptoBulk d + 1
  | (_, d) => uptoBulk d + 1
 end
def uptoSmall : (H : Type) → List (DataW H) → Bool := fun _ ds => decide (uptoBulkAll ds ≤ 1048576)
def OpenSpec.upto (s : _root_.Go.ChangeSpec) : _root_.Go.OpenSpec := { _root_.Go.OpenSpec.ofChange s with cond := some uptoSmall }

/-- 'grisaillelaw28.BlendModeNames', WHERE WHAT IT READS IS OF BULK AT MOST 1048576: true; the input reads as it did. -/
def blendModeNamesUptoRow : OpenClaim := { program := "ytemkekighlahdaa", sum := "517053b6e5e5541f6eb2f3be429fbb1805cf26b98c71add6fc1024c030c9667c", func := "grisaille/grisaillelaw28.BlendModeNames", spec := "blendModeNames", unfollowed := true, recurses := true, named := ["math/bits.divideError", "math/bits.overflowError"], apart := false, narrowed := true }
def BlendModeNamesUptoSaid : Prop := blendModeNamesUptoRow.holds Try.pinned (OpenSpec.upto blendModeNamesSpec)

/-- 'grisaillelaw28.BlendPixels', WHERE WHAT IT READS IS OF BULK AT MOST 1048576: true; the input reads as it did. -/
def blendPixelsUptoRow : OpenClaim := { program := "ytemkekighlahdaa", sum := "517053b6e5e5541f6eb2f3be429fbb1805cf26b98c71add6fc1024c030c9667c", func := "grisaille/grisaillelaw28.BlendPixels", spec := "blendPixels", unfollowed := true, recurses := true, named := ["math/bits.divideError", "math/bits.overflowError"], apart := false, narrowed := true }
def BlendPixelsUptoSaid : Prop := blendPixelsUptoRow.holds Try.pinned (OpenSpec.upto blendPixelsSpec)

/-- 'grisaillelaw28.BlendTransparent', WHERE WHAT IT READS IS OF BULK AT MOST 1048576: true; the input reads as it did. -/
def blendTransparentUptoRow : OpenClaim := { program := "ytemkekighlahdaa", sum := "517053b6e5e5541f6eb2f3be429fbb1805cf26b98c71add6fc1024c030c9667c", func := "grisaille/grisaillelaw28.BlendTransparent", spec := "blendTransparent", unfollowed := true, recurses := true, named := ["math/bits.divideError", "math/bits.overflowError"], apart := false, narrowed := true }
def BlendTransparentUptoSaid : Prop := blendTransparentUptoRow.holds Try.pinned (OpenSpec.upto blendTransparentSpec)

/-- 'grisaillelaw28.BlendSymmetry', WHERE WHAT IT READS IS OF BULK AT MOST 1048576: true; the input reads as it did. -/
def blendSymmetryUptoRow : OpenClaim := { program := "ytemkekighlahdaa", sum := "517053b6e5e5541f6eb2f3be429fbb1805cf26b98c71add6fc1024c030c9667c", func := "grisaille/grisaillelaw28.BlendSymmetry", spec := "blendSymmetry", unfollowed := true, recurses := true, named := ["math/bits.divideError", "math/bits.overflowError"], apart := false, narrowed := true }
def BlendSymmetryUptoSaid : Prop := blendSymmetryUptoRow.holds Try.pinned (OpenSpec.upto blendSymmetrySpec)

/-- 'grisaillelaw28.BlendOpaque', WHERE WHAT IT READS IS OF BULK AT MOST 1048576: true; the input reads as it did. -/
def blendOpaqueUptoRow : OpenClaim := { program := "ytemkekighlahdaa", sum := "517053b6e5e5541f6eb2f3be429fbb1805cf26b98c71add6fc1024c030c9667c", func := "grisaille/grisaillelaw28.BlendOpaque", spec := "blendOpaque", unfollowed := true, recurses := true, named := ["math/bits.divideError", "math/bits.overflowError"], apart := false, narrowed := true }
def BlendOpaqueUptoSaid : Prop := blendOpaqueUptoRow.holds Try.pinned (OpenSpec.upto blendOpaqueSpec)

/-- 'grisaillelaw28.BlendLuminosity', WHERE WHAT IT READS IS OF BULK AT MOST 1048576: true; the input reads as it did. -/
def blendLuminosityUptoRow : OpenClaim := { program := "ytemkekighlahdaa", sum := "517053b6e5e5541f6eb2f3be429fbb1805cf26b98c71add6fc1024c030c9667c", func := "grisaille/grisaillelaw28.BlendLuminosity", spec := "blendLuminosity", unfollowed := true, recurses := true, named := ["math/bits.divideError", "math/bits.overflowError"], apart := false, narrowed := true }
def BlendLuminosityUptoSaid : Prop := blendLuminosityUptoRow.holds Try.pinned (OpenSpec.upto blendLuminositySpec)

/-- 'grisaillelaw28.BlendSelf', WHERE WHAT IT READS IS OF BULK AT MOST 1048576: true; the input reads as it did. -/
def blendSelfUptoRow : OpenClaim := { program := "ytemkekighlahdaa", sum := "517053b6e5e5541f6eb2f3be429fbb1805cf26b98c71add6fc1024c030c9667c", func := "grisaille/grisaillelaw28.BlendSelf", spec := "blendSelf", unfollowed := true, recurses := true, named := ["math/bits.divideError", "math/bits.overflowError"], apart := false, narrowed := true }
def BlendSelfUptoSaid : Prop := blendSelfUptoRow.holds Try.pinned (OpenSpec.upto blendSelfSpec)

/-- 'grisaillelaw28.BlendGray', WHERE WHAT IT READS IS OF BULK AT MOST 1048576: true; the input reads as it did. -/
def blendGrayUptoRow : OpenClaim := { program := "ytemkekighlahdaa", sum := "517053b6e5e5541f6eb2f3be429fbb1805cf26b98c71add6fc1024c030c9667c", func := "grisaille/grisaillelaw28.BlendGray", spec := "blendGray", unfollowed := true, recurses := true, named := ["math/bits.divideError", "math/bits.overflowError"], apart := false, narrowed := true }
def BlendGrayUptoSaid : Prop := blendGrayUptoRow.holds Try.pinned (OpenSpec.upto blendGraySpec)

/-- 'grisaillelaw28.BlendTerms', WHERE WHAT IT READS IS OF BULK AT MOST 1048576: true; the input reads as it did. -/
def blendTermsUptoRow : OpenClaim := { program := "ytemkekighlahdaa", sum := "517053b6e5e5541f6eb2f3be429fbb1805cf26b98c71add6fc1024c030c9667c", func := "grisaille/grisaillelaw28.BlendTerms", spec := "blendTerms", unfollowed := true, recurses := true, named := ["math/bits.divideError", "math/bits.overflowError"], apart := false, narrowed := true }
def BlendTermsUptoSaid : Prop := blendTermsUptoRow.holds Try.pinned (OpenSpec.upto blendTermsSpec)

/-- 'grisaillelaw28.BlendTermRange', WHERE WHAT IT READS IS OF BULK AT MOST 1048576: true; the input reads as it did. -/
def blendTermRangeUptoRow : OpenClaim := { program := "ytemkekighlahdaa", sum := "517053b6e5e5541f6eb2f3be429fbb1805cf26b98c71add6fc1024c030c9667c", func := "grisaille/grisaillelaw28.BlendTermRange", spec := "blendTermRange", unfollowed := true, recurses := true, named := ["math/bits.divideError", "math/bits.overflowError"], apart := false, narrowed := true }
def BlendTermRangeUptoSaid : Prop := blendTermRangeUptoRow.holds Try.pinned (OpenSpec.upto blendTermRangeSpec)

/-- 'grisaillelaw28.BlendAlpha', WHERE WHAT IT READS IS OF BULK AT MOST 1048576: true; the input reads as it did. -/
def blendAlphaUptoRow : OpenClaim := { program := "ytemkekighlahdaa", sum := "517053b6e5e5541f6eb2f3be429fbb1805cf26b98c71add6fc1024c030c9667c", func := "grisaille/grisaillelaw28.BlendAlpha", spec := "blendAlpha", unfollowed := true, recurses := true, named := ["math/bits.divideError", "math/bits.overflowError"], apart := false, narrowed := true }
def BlendAlphaUptoSaid : Prop := blendAlphaUptoRow.holds Try.pinned (OpenSpec.upto blendAlphaSpec)

end Rows
end Go.Proofs.Ytemkekighlahdaa
