/-
  No cell of these rows narrows 'for every input' (looked for: loops, veiled, ifaces, maps, wideKeys, modest, calm, conditions, laid).
  DERIVED. THE GIVEN ROWS OF THIS SEAT. 10 by the template 'for every input the law returns true; each argument reads behind the call as it read before'; 0 by the template 'total and deterministic' (their statements: YtnefnnhnjmmebaaTotals.lean).
  GIVEN WITH THE SEED: the statements are not yours to turn. If you find one false, say at which input.
  Laid BY PROGRAM, IN A SANDBOX (cutbox-rows.mjs): the forced cells as the released guide's own fill.sh prints them over the translation 0ad4b52457e15457… (all of the seat's roots in one cut). By AI agents, Wed Nov 11 2026. No macro, syntax, notation, axiom, sorry.
-/
import Derived.Test.YtnefnnhnjmmebaaChecked
import GoSem.Claim
import GoSem.ClaimJoined
import GoSem.ClaimMapViews
import Derived.JoinedTies
import Derived.KernelRfl
namespace Go.Proofs.Ytnefnnhnjmmebaa
/- THE CELL 'sum', in the pinned program and in every row, IS THE sha256 OF THE DUMP (.gsa) THAT YtnefnnhnjmmebaaProg.lean LOADS. Nothing in Lean hashes anything: it is a label: what it is worth is what the hold of that sum in a sandbox is worth. -/
noncomputable def Try.pinned : Pinned := { name := "ytnefnnhnjmmebaa", sum := "0ad4b52457e15457b7cc576f8740e38fe1a29aaa6a3953cdeeca6e1670ec8f24", checked := Try.checked }
namespace Rows
def none {H : Type} : Left H := { results := [], args := [] }

/-- 'grisaillelaw30.BitmapNew': WHATEVER THE INPUT: true; the input reads as it did. -/
def bitmapNewSpec : ChangeSpec := { name := "bitmapNew", fn := fun _ => fun
  | [d1, d2] => { results := [.lit (.bool true)], args := [d1, d2] }
  | _ => none }
def bitmapNewRow : OpenClaim := { program := "ytnefnnhnjmmebaa", sum := "0ad4b52457e15457b7cc576f8740e38fe1a29aaa6a3953cdeeca6e1670ec8f24", func := "grisaille/grisaillelaw30.BitmapNew", spec := "bitmapNew", unfollowed := true, recurses := true, apart := false }
def BitmapNewSaid : Prop := bitmapNewRow.holds Try.pinned (OpenSpec.ofChange bitmapNewSpec)

/-- ITS FALSE NEIGHBOUR: 'it returns false'. Refute it at one input. -/
def bitmapNewWrong : ChangeSpec := { name := "bitmapNew", fn := fun _ => fun
  | [d1, d2] => { results := [.lit (.bool false)], args := [d1, d2] }
  | _ => none }
def BitmapNewWrongFalsely : Prop := bitmapNewRow.holds Try.pinned (OpenSpec.ofChange bitmapNewWrong)

/-- 'grisaillelaw30.BitmapHistogram': WHATEVER THE INPUT: true; the input reads as it did. -/
def bitmapHistogramSpec : ChangeSpec := { name := "bitmapHistogram", fn := fun _ => fun
  | [d] => { results := [.lit (.bool true)], args := [d] }
  | _ => none }
def bitmapHistogramRow : OpenClaim := { program := "ytnefnnhnjmmebaa", sum := "0ad4b52457e15457b7cc576f8740e38fe1a29aaa6a3953cdeeca6e1670ec8f24", func := "grisaille/grisaillelaw30.BitmapHistogram", spec := "bitmapHistogram", unfollowed := true, recurses := true, apart := false }
def BitmapHistogramSaid : Prop := bitmapHistogramRow.holds Try.pinned (OpenSpec.ofChange bitmapHistogramSpec)

/-- ITS FALSE NEIGHBOUR: 'it returns false'. Refute it at one input. -/
def bitmapHistogramWrong : ChangeSpec := { name := "bitmapHistogram", fn := fun _ => fun
  | [d] => { results := [.lit (.bool false)], args := [d] }
  | _ => none }
def BitmapHistogramWrongFalsely : Prop := bitmapHistogramRow.holds Try.pinned (OpenSpec.ofChange bitmapHistogramWrong)

/-- 'grisaillelaw30.BitmapPixelwise': WHATEVER THE INPUT: true; the input reads as it did. -/
def bitmapPixelwiseSpec : ChangeSpec := { name := "bitmapPixelwise", fn := fun _ => fun
  | [d1, d2, d3] => { results := [.lit (.bool true)], args := [d1, d2, d3] }
  | _ => none }
def bitmapPixelwiseRow : OpenClaim := { program := "ytnefnnhnjmmebaa", sum := "0ad4b52457e15457b7cc576f8740e38fe1a29aaa6a3953cdeeca6e1670ec8f24", func := "grisaille/grisaillelaw30.BitmapPixelwise", spec := "bitmapPixelwise", unfollowed := true, recurses := true, named := ["math/bits.divideError", "math/bits.overflowError"], apart := false }
def BitmapPixelwiseSaid : Prop := bitmapPixelwiseRow.holds Try.pinned (OpenSpec.ofChange bitmapPixelwiseSpec)

/-- ITS FALSE NEIGHBOUR: 'it returns false'. Refute it at one input. -/
def bitmapPixelwiseWrong : ChangeSpec := { name := "bitmapPixelwise", fn := fun _ => fun
  | [d1, d2, d3] => { results := [.lit (.bool false)], args := [d1, d2, d3] }
  | _ => none }
def BitmapPixelwiseWrongFalsely : Prop := bitmapPixelwiseRow.holds Try.pinned (OpenSpec.ofChange bitmapPixelwiseWrong)

/-- 'grisaillelaw30.BitmapPaste': WHATEVER THE INPUT: true; the input reads as it did. -/
def bitmapPasteSpec : ChangeSpec := { name := "bitmapPaste", fn := fun _ => fun
  | [d1, d2] => { results := [.lit (.bool true)], args := [d1, d2] }
  | _ => none }
def bitmapPasteRow : OpenClaim := { program := "ytnefnnhnjmmebaa", sum := "0ad4b52457e15457b7cc576f8740e38fe1a29aaa6a3953cdeeca6e1670ec8f24", func := "grisaille/grisaillelaw30.BitmapPaste", spec := "bitmapPaste", unfollowed := true, recurses := true, apart := false }
def BitmapPasteSaid : Prop := bitmapPasteRow.holds Try.pinned (OpenSpec.ofChange bitmapPasteSpec)

/-- ITS FALSE NEIGHBOUR: 'it returns false'. Refute it at one input. -/
def bitmapPasteWrong : ChangeSpec := { name := "bitmapPaste", fn := fun _ => fun
  | [d1, d2] => { results := [.lit (.bool false)], args := [d1, d2] }
  | _ => none }
def BitmapPasteWrongFalsely : Prop := bitmapPasteRow.holds Try.pinned (OpenSpec.ofChange bitmapPasteWrong)

/-- 'grisaillelaw30.BitmapQueries': WHATEVER THE INPUT: true; the input reads as it did. -/
def bitmapQueriesSpec : ChangeSpec := { name := "bitmapQueries", fn := fun _ => fun
  | [d1, d2, d3] => { results := [.lit (.bool true)], args := [d1, d2, d3] }
  | _ => none }
def bitmapQueriesRow : OpenClaim := { program := "ytnefnnhnjmmebaa", sum := "0ad4b52457e15457b7cc576f8740e38fe1a29aaa6a3953cdeeca6e1670ec8f24", func := "grisaille/grisaillelaw30.BitmapQueries", spec := "bitmapQueries", unfollowed := true, recurses := true, apart := false }
def BitmapQueriesSaid : Prop := bitmapQueriesRow.holds Try.pinned (OpenSpec.ofChange bitmapQueriesSpec)

/-- ITS FALSE NEIGHBOUR: 'it returns false'. Refute it at one input. -/
def bitmapQueriesWrong : ChangeSpec := { name := "bitmapQueries", fn := fun _ => fun
  | [d1, d2, d3] => { results := [.lit (.bool false)], args := [d1, d2, d3] }
  | _ => none }
def BitmapQueriesWrongFalsely : Prop := bitmapQueriesRow.holds Try.pinned (OpenSpec.ofChange bitmapQueriesWrong)

/-- 'grisaillelaw30.BitmapDiffBounds': WHATEVER THE INPUT: true; the input reads as it did. -/
def bitmapDiffBoundsSpec : ChangeSpec := { name := "bitmapDiffBounds", fn := fun _ => fun
  | [d1, d2] => { results := [.lit (.bool true)], args := [d1, d2] }
  | _ => none }
def bitmapDiffBoundsRow : OpenClaim := { program := "ytnefnnhnjmmebaa", sum := "0ad4b52457e15457b7cc576f8740e38fe1a29aaa6a3953cdeeca6e1670ec8f24", func := "grisaille/grisaillelaw30.BitmapDiffBounds", spec := "bitmapDiffBounds", unfollowed := true, recurses := true, apart := false }
def BitmapDiffBoundsSaid : Prop := bitmapDiffBoundsRow.holds Try.pinned (OpenSpec.ofChange bitmapDiffBoundsSpec)

/-- ITS FALSE NEIGHBOUR: 'it returns false'. Refute it at one input. -/
def bitmapDiffBoundsWrong : ChangeSpec := { name := "bitmapDiffBounds", fn := fun _ => fun
  | [d1, d2] => { results := [.lit (.bool false)], args := [d1, d2] }
  | _ => none }
def BitmapDiffBoundsWrongFalsely : Prop := bitmapDiffBoundsRow.holds Try.pinned (OpenSpec.ofChange bitmapDiffBoundsWrong)

/-- 'grisaillelaw30.BitmapCrop': WHATEVER THE INPUT: true; the input reads as it did. -/
def bitmapCropSpec : ChangeSpec := { name := "bitmapCrop", fn := fun _ => fun
  | [d1, d2, d3] => { results := [.lit (.bool true)], args := [d1, d2, d3] }
  | _ => none }
def bitmapCropRow : OpenClaim := { program := "ytnefnnhnjmmebaa", sum := "0ad4b52457e15457b7cc576f8740e38fe1a29aaa6a3953cdeeca6e1670ec8f24", func := "grisaille/grisaillelaw30.BitmapCrop", spec := "bitmapCrop", unfollowed := true, recurses := true, named := ["math/bits.divideError", "math/bits.overflowError"], apart := false }
def BitmapCropSaid : Prop := bitmapCropRow.holds Try.pinned (OpenSpec.ofChange bitmapCropSpec)

/-- ITS FALSE NEIGHBOUR: 'it returns false'. Refute it at one input. -/
def bitmapCropWrong : ChangeSpec := { name := "bitmapCrop", fn := fun _ => fun
  | [d1, d2, d3] => { results := [.lit (.bool false)], args := [d1, d2, d3] }
  | _ => none }
def BitmapCropWrongFalsely : Prop := bitmapCropRow.holds Try.pinned (OpenSpec.ofChange bitmapCropWrong)

/-- 'grisaillelaw30.BitmapBlurCenter': WHATEVER THE INPUT: true; the input reads as it did. -/
def bitmapBlurCenterSpec : ChangeSpec := { name := "bitmapBlurCenter", fn := fun _ => fun
  | [d1, d2] => { results := [.lit (.bool true)], args := [d1, d2] }
  | _ => none }
def bitmapBlurCenterRow : OpenClaim := { program := "ytnefnnhnjmmebaa", sum := "0ad4b52457e15457b7cc576f8740e38fe1a29aaa6a3953cdeeca6e1670ec8f24", func := "grisaille/grisaillelaw30.BitmapBlurCenter", spec := "bitmapBlurCenter", unfollowed := true, recurses := true, named := ["math/bits.divideError", "math/bits.overflowError"], apart := false }
def BitmapBlurCenterSaid : Prop := bitmapBlurCenterRow.holds Try.pinned (OpenSpec.ofChange bitmapBlurCenterSpec)

/-- ITS FALSE NEIGHBOUR: 'it returns false'. Refute it at one input. -/
def bitmapBlurCenterWrong : ChangeSpec := { name := "bitmapBlurCenter", fn := fun _ => fun
  | [d1, d2] => { results := [.lit (.bool false)], args := [d1, d2] }
  | _ => none }
def BitmapBlurCenterWrongFalsely : Prop := bitmapBlurCenterRow.holds Try.pinned (OpenSpec.ofChange bitmapBlurCenterWrong)

/-- 'grisaillelaw30.BitmapBlur': WHATEVER THE INPUT: true; the input reads as it did. -/
def bitmapBlurSpec : ChangeSpec := { name := "bitmapBlur", fn := fun _ => fun
  | [d1, d2, d3, d4] => { results := [.lit (.bool true)], args := [d1, d2, d3, d4] }
  | _ => none }
def bitmapBlurRow : OpenClaim := { program := "ytnefnnhnjmmebaa", sum := "0ad4b52457e15457b7cc576f8740e38fe1a29aaa6a3953cdeeca6e1670ec8f24", func := "grisaille/grisaillelaw30.BitmapBlur", spec := "bitmapBlur", unfollowed := true, recurses := true, named := ["math/bits.divideError", "math/bits.overflowError"], apart := false }
def BitmapBlurSaid : Prop := bitmapBlurRow.holds Try.pinned (OpenSpec.ofChange bitmapBlurSpec)

/-- ITS FALSE NEIGHBOUR: 'it returns false'. Refute it at one input. -/
def bitmapBlurWrong : ChangeSpec := { name := "bitmapBlur", fn := fun _ => fun
  | [d1, d2, d3, d4] => { results := [.lit (.bool false)], args := [d1, d2, d3, d4] }
  | _ => none }
def BitmapBlurWrongFalsely : Prop := bitmapBlurRow.holds Try.pinned (OpenSpec.ofChange bitmapBlurWrong)

/-- 'grisaillelaw30.BitmapBlurBounds': WHATEVER THE INPUT: true; the input reads as it did. -/
def bitmapBlurBoundsSpec : ChangeSpec := { name := "bitmapBlurBounds", fn := fun _ => fun
  | [d1, d2, d3] => { results := [.lit (.bool true)], args := [d1, d2, d3] }
  | _ => none }
def bitmapBlurBoundsRow : OpenClaim := { program := "ytnefnnhnjmmebaa", sum := "0ad4b52457e15457b7cc576f8740e38fe1a29aaa6a3953cdeeca6e1670ec8f24", func := "grisaille/grisaillelaw30.BitmapBlurBounds", spec := "bitmapBlurBounds", unfollowed := true, recurses := true, named := ["math/bits.divideError", "math/bits.overflowError"], apart := false }
def BitmapBlurBoundsSaid : Prop := bitmapBlurBoundsRow.holds Try.pinned (OpenSpec.ofChange bitmapBlurBoundsSpec)

/-- ITS FALSE NEIGHBOUR: 'it returns false'. Refute it at one input. -/
def bitmapBlurBoundsWrong : ChangeSpec := { name := "bitmapBlurBounds", fn := fun _ => fun
  | [d1, d2, d3] => { results := [.lit (.bool false)], args := [d1, d2, d3] }
  | _ => none }
def BitmapBlurBoundsWrongFalsely : Prop := bitmapBlurBoundsRow.holds Try.pinned (OpenSpec.ofChange bitmapBlurBoundsWrong)

/- THE SECOND FORM. 'bulk': how many values and letters a reading holds, each counted each time it is reached (what is shared counts as often as it is met; a slice's spare places count too). A statement '..UptoSaid' is the law's where the arguments, and the package variables that the reading takes, are together of bulk at most 1048576: NARROWER than '..Said'. Prove '..Said' where nothing that the law and all that it calls make is longer than what came in: it says more and counts as full. Else prove '..UptoSaid'. A law counts once. -/
mutual
def uptoBulk {H : Type} : DataW H → Nat
  | .lit (.string bytes) => bytes.length + 1
  | .lit _ => 1
  | .nil => 1
  | .ptr d => uptoBulk d + 1
  | .slice elems spare => uptoBulkAll elems + uptoBulkAll spare + 1
  | .agg parts => uptoBulkAll parts + 1
  | .iface _ d => uptoBulk d + 1
  | .map entries => uptoBulkEntries entries + 1
  | .held _ => 1
def uptoBulkAll {H : Type} : List (DataW H) → Nat
  | [] => 0
  | d :: r => uptoBulk d + uptoBulkAll r
def uptoBulkEntries {H : Type} : List (Lit × DataW H) → Nat
  | [] => 0
  | x :: r => uptoBulkEntry x + uptoBulkEntries r
def uptoBulkEntry {H : Type} : Lit × DataW H → Nat
  | (.string bytes, d) => bytes.length + uptoBulk d + 1
  | (_, d) => uptoBulk d + 1
 end
def uptoSmall : (H : Type) → List (DataW H) → Bool := fun _ ds => decide (uptoBulkAll ds ≤ 1048576)
def OpenSpec.upto (s : _root_.Go.ChangeSpec) : _root_.Go.OpenSpec := { _root_.Go.OpenSpec.ofChange s with cond := some uptoSmall }

/-- 'grisaillelaw30.BitmapNew', WHERE WHAT IT READS IS OF BULK AT MOST 1048576: true; the input reads as it did. -/
def bitmapNewUptoRow : OpenClaim := { program := "ytnefnnhnjmmebaa", sum := "0ad4b52457e15457b7cc576f8740e38fe1a29aaa6a3953cdeeca6e1670ec8f24", func := "grisaille/grisaillelaw30.BitmapNew", spec := "bitmapNew", unfollowed := true, recurses := true, apart := false, narrowed := true }
def BitmapNewUptoSaid : Prop := bitmapNewUptoRow.holds Try.pinned (OpenSpec.upto bitmapNewSpec)

/-- 'grisaillelaw30.BitmapHistogram', WHERE WHAT IT READS IS OF BULK AT MOST 1048576: true; the input reads as it did. -/
def bitmapHistogramUptoRow : OpenClaim := { program := "ytnefnnhnjmmebaa", sum := "0ad4b52457e15457b7cc576f8740e38fe1a29aaa6a3953cdeeca6e1670ec8f24", func := "grisaille/grisaillelaw30.BitmapHistogram", spec := "bitmapHistogram", unfollowed := true, recurses := true, apart := false, narrowed := true }
def BitmapHistogramUptoSaid : Prop := bitmapHistogramUptoRow.holds Try.pinned (OpenSpec.upto bitmapHistogramSpec)

/-- 'grisaillelaw30.BitmapPixelwise', WHERE WHAT IT READS IS OF BULK AT MOST 1048576: true; the input reads as it did. -/
def bitmapPixelwiseUptoRow : OpenClaim := { program := "ytnefnnhnjmmebaa", sum := "0ad4b52457e15457b7cc576f8740e38fe1a29aaa6a3953cdeeca6e1670ec8f24", func := "grisaille/grisaillelaw30.BitmapPixelwise", spec := "bitmapPixelwise", unfollowed := true, recurses := true, named := ["math/bits.divideError", "math/bits.overflowError"], apart := false, narrowed := true }
def BitmapPixelwiseUptoSaid : Prop := bitmapPixelwiseUptoRow.holds Try.pinned (OpenSpec.upto bitmapPixelwiseSpec)

/-- 'grisaillelaw30.BitmapPaste', WHERE WHAT IT READS IS OF BULK AT MOST 1048576: true; the input reads as it did. -/
def bitmapPasteUptoRow : OpenClaim := { program := "ytnefnnhnjmmebaa", sum := "0ad4b52457e15457b7cc576f8740e38fe1a29aaa6a3953cdeeca6e1670ec8f24", func := "grisaille/grisaillelaw30.BitmapPaste", spec := "bitmapPaste", unfollowed := true, recurses := true, apart := false, narrowed := true }
def BitmapPasteUptoSaid : Prop := bitmapPasteUptoRow.holds Try.pinned (OpenSpec.upto bitmapPasteSpec)

/-- 'grisaillelaw30.BitmapQueries', WHERE WHAT IT READS IS OF BULK AT MOST 1048576: true; the input reads as it did. -/
def bitmapQueriesUptoRow : OpenClaim := { program := "ytnefnnhnjmmebaa", sum := "0ad4b52457e15457b7cc576f8740e38fe1a29aaa6a3953cdeeca6e1670ec8f24", func := "grisaille/grisaillelaw30.BitmapQueries", spec := "bitmapQueries", unfollowed := true, recurses := true, apart := false, narrowed := true }
def BitmapQueriesUptoSaid : Prop := bitmapQueriesUptoRow.holds Try.pinned (OpenSpec.upto bitmapQueriesSpec)

/-- 'grisaillelaw30.BitmapDiffBounds', WHERE WHAT IT READS IS OF BULK AT MOST 1048576: true; the input reads as it did. -/
def bitmapDiffBoundsUptoRow : OpenClaim := { program := "ytnefnnhnjmmebaa", sum := "0ad4b52457e15457b7cc576f8740e38fe1a29aaa6a3953cdeeca6e1670ec8f24", func := "grisaille/grisaillelaw30.BitmapDiffBounds", spec := "bitmapDiffBounds", unfollowed := true, recurses := true, apart := false, narrowed := true }
def BitmapDiffBoundsUptoSaid : Prop := bitmapDiffBoundsUptoRow.holds Try.pinned (OpenSpec.upto bitmapDiffBoundsSpec)

/-- 'grisaillelaw30.BitmapCrop', WHERE WHAT IT READS IS OF BULK AT MOST 1048576: true; the input reads as it did. -/
def bitmapCropUptoRow : OpenClaim := { program := "ytnefnnhnjmmebaa", sum := "0ad4b52457e15457b7cc576f8740e38fe1a29aaa6a3953cdeeca6e1670ec8f24", func := "grisaille/grisaillelaw30.BitmapCrop", spec := "bitmapCrop", unfollowed := true, recurses := true, named := ["math/bits.divideError", "math/bits.overflowError"], apart := false, narrowed := true }
def BitmapCropUptoSaid : Prop := bitmapCropUptoRow.holds Try.pinned (OpenSpec.upto bitmapCropSpec)

/-- 'grisaillelaw30.BitmapBlurCenter', WHERE WHAT IT READS IS OF BULK AT MOST 1048576: true; the input reads as it did. -/
def bitmapBlurCenterUptoRow : OpenClaim := { program := "ytnefnnhnjmmebaa", sum := "0ad4b52457e15457b7cc576f8740e38fe1a29aaa6a3953cdeeca6e1670ec8f24", func := "grisaille/grisaillelaw30.BitmapBlurCenter", spec := "bitmapBlurCenter", unfollowed := true, recurses := true, named := ["math/bits.divideError", "math/bits.overflowError"], apart := false, narrowed := true }
def BitmapBlurCenterUptoSaid : Prop := bitmapBlurCenterUptoRow.holds Try.pinned (OpenSpec.upto bitmapBlurCenterSpec)

/-- 'grisaillelaw30.BitmapBlur', WHERE WHAT IT READS IS OF BULK AT MOST 1048576: true; the input reads as it did. -/
def bitmapBlurUptoRow : OpenClaim := { program := "ytnefnnhnjmmebaa", sum := "0ad4b52457e15457b7cc576f8740e38fe1a29aaa6a3953cdeeca6e1670ec8f24", func := "grisaille/grisaillelaw30.BitmapBlur", spec := "bitmapBlur", unfollowed := true, recurses := true, named := ["math/bits.divideError", "math/bits.overflowError"], apart := false, narrowed := true }
def BitmapBlurUptoSaid : Prop := bitmapBlurUptoRow.holds Try.pinned (OpenSpec.upto bitmapBlurSpec)

/-- 'grisaillelaw30.BitmapBlurBounds', WHERE WHAT IT READS IS OF BULK AT MOST 1048576: true; the input reads as it did. -/
def bitmapBlurBoundsUptoRow : OpenClaim := { program := "ytnefnnhnjmmebaa", sum := "0ad4b52457e15457b7cc576f8740e38fe1a29aaa6a3953cdeeca6e1670ec8f24", func := "grisaille/grisaillelaw30.BitmapBlurBounds", spec := "bitmapBlurBounds", unfollowed := true, recurses := true, named := ["math/bits.divideError", "math/bits.overflowError"], apart := false, narrowed := true }
def BitmapBlurBoundsUptoSaid : Prop := bitmapBlurBoundsUptoRow.holds Try.pinned (OpenSpec.upto bitmapBlurBoundsSpec)

end Rows
end Go.Proofs.Ytnefnnhnjmmebaa
