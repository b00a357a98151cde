/-
  No cell of these rows narrows 'for every input' (looked for: loops, veiled, ifaces, maps, wideKeys, modest, calm, conditions, laid).
  DERIVED. THE GIVEN ROWS OF THIS SEAT. 5 by the template 'for every input the law returns true; each argument reads behind the call as it read before'; 0 by the template 'total and deterministic' (their statements: YtbhmpmhjklkghaaTotals.lean).
  GIVEN WITH THE SEED: the statements are not yours to turn. If you find one false, say at which input.
  Laid BY PROGRAM, IN A SANDBOX (cutbox-rows.mjs): the forced cells as the released guide's own fill.sh prints them over the translation 176614bccba0f64c… (all of the seat's roots in one cut). By AI agents, Wed Nov 11 2026. No macro, syntax, notation, axiom, sorry.
-/
import Derived.Test.YtbhmpmhjklkghaaChecked
import GoSem.Claim
import GoSem.ClaimJoined
import GoSem.ClaimMapViews
import Derived.JoinedTies
import Derived.KernelRfl
namespace Go.Proofs.Ytbhmpmhjklkghaa
/- THE CELL 'sum', in the pinned program and in every row, IS THE sha256 OF THE DUMP (.gsa) THAT YtbhmpmhjklkghaaProg.lean LOADS. Nothing in Lean hashes anything: it is a label: what it is worth is what the hold of that sum in a sandbox is worth. -/
noncomputable def Try.pinned : Pinned := { name := "ytbhmpmhjklkghaa", sum := "176614bccba0f64cb66d36f0f6a3b0eaa2280e03b5e2922b6096e45c026680a4", checked := Try.checked }
namespace Rows
def none {H : Type} : Left H := { results := [], args := [] }

/-- 'descantlaw5.Decoders': WHATEVER THE INPUT: true; the input reads as it did. -/
def decodersSpec : ChangeSpec := { name := "decoders", fn := fun _ => fun
  | [d1, d2, d3] => { results := [.lit (.bool true)], args := [d1, d2, d3] }
  | _ => none }
def decodersRow : OpenClaim := { program := "ytbhmpmhjklkghaa", sum := "176614bccba0f64cb66d36f0f6a3b0eaa2280e03b5e2922b6096e45c026680a4", func := "descant/descantlaw5.Decoders", spec := "decoders", apart := false }
def DecodersSaid : Prop := decodersRow.holds Try.pinned (OpenSpec.ofChange decodersSpec)

/-- ITS FALSE NEIGHBOUR: 'it returns false'. Refute it at one input. -/
def decodersWrong : ChangeSpec := { name := "decoders", fn := fun _ => fun
  | [d1, d2, d3] => { results := [.lit (.bool false)], args := [d1, d2, d3] }
  | _ => none }
def DecodersWrongFalsely : Prop := decodersRow.holds Try.pinned (OpenSpec.ofChange decodersWrong)

/-- 'descantlaw5.DecoderBack': WHATEVER THE INPUT: true; the input reads as it did. -/
def decoderBackSpec : ChangeSpec := { name := "decoderBack", fn := fun _ => fun
  | [d1, d2] => { results := [.lit (.bool true)], args := [d1, d2] }
  | _ => none }
def decoderBackRow : OpenClaim := { program := "ytbhmpmhjklkghaa", sum := "176614bccba0f64cb66d36f0f6a3b0eaa2280e03b5e2922b6096e45c026680a4", func := "descant/descantlaw5.DecoderBack", spec := "decoderBack", apart := false }
def DecoderBackSaid : Prop := decoderBackRow.holds Try.pinned (OpenSpec.ofChange decoderBackSpec)

/-- ITS FALSE NEIGHBOUR: 'it returns false'. Refute it at one input. -/
def decoderBackWrong : ChangeSpec := { name := "decoderBack", fn := fun _ => fun
  | [d1, d2] => { results := [.lit (.bool false)], args := [d1, d2] }
  | _ => none }
def DecoderBackWrongFalsely : Prop := decoderBackRow.holds Try.pinned (OpenSpec.ofChange decoderBackWrong)

/-- 'descantlaw5.DecoderForms': WHATEVER THE INPUT: true; the input reads as it did. -/
def decoderFormsSpec : ChangeSpec := { name := "decoderForms", fn := fun _ => fun
  | [d1, d2] => { results := [.lit (.bool true)], args := [d1, d2] }
  | _ => none }
def decoderFormsRow : OpenClaim := { program := "ytbhmpmhjklkghaa", sum := "176614bccba0f64cb66d36f0f6a3b0eaa2280e03b5e2922b6096e45c026680a4", func := "descant/descantlaw5.DecoderForms", spec := "decoderForms", apart := false }
def DecoderFormsSaid : Prop := decoderFormsRow.holds Try.pinned (OpenSpec.ofChange decoderFormsSpec)

/-- ITS FALSE NEIGHBOUR: 'it returns false'. Refute it at one input. -/
def decoderFormsWrong : ChangeSpec := { name := "decoderForms", fn := fun _ => fun
  | [d1, d2] => { results := [.lit (.bool false)], args := [d1, d2] }
  | _ => none }
def DecoderFormsWrongFalsely : Prop := decoderFormsRow.holds Try.pinned (OpenSpec.ofChange decoderFormsWrong)

/-- 'descantlaw5.DecoderZeros': WHATEVER THE INPUT: true; the input reads as it did. -/
def decoderZerosSpec : ChangeSpec := { name := "decoderZeros", fn := fun _ => fun
  | [d1, d2] => { results := [.lit (.bool true)], args := [d1, d2] }
  | _ => none }
def decoderZerosRow : OpenClaim := { program := "ytbhmpmhjklkghaa", sum := "176614bccba0f64cb66d36f0f6a3b0eaa2280e03b5e2922b6096e45c026680a4", func := "descant/descantlaw5.DecoderZeros", spec := "decoderZeros", apart := false }
def DecoderZerosSaid : Prop := decoderZerosRow.holds Try.pinned (OpenSpec.ofChange decoderZerosSpec)

/-- ITS FALSE NEIGHBOUR: 'it returns false'. Refute it at one input. -/
def decoderZerosWrong : ChangeSpec := { name := "decoderZeros", fn := fun _ => fun
  | [d1, d2] => { results := [.lit (.bool false)], args := [d1, d2] }
  | _ => none }
def DecoderZerosWrongFalsely : Prop := decoderZerosRow.holds Try.pinned (OpenSpec.ofChange decoderZerosWrong)

/-- 'descantlaw5.DecoderAny': WHATEVER THE INPUT: true; the input reads as it did. -/
def decoderAnySpec : ChangeSpec := { name := "decoderAny", fn := fun _ => fun
  | [d1, d2] => { results := [.lit (.bool true)], args := [d1, d2] }
  | _ => none }
def decoderAnyRow : OpenClaim := { program := "ytbhmpmhjklkghaa", sum := "176614bccba0f64cb66d36f0f6a3b0eaa2280e03b5e2922b6096e45c026680a4", func := "descant/descantlaw5.DecoderAny", spec := "decoderAny", apart := false }
def DecoderAnySaid : Prop := decoderAnyRow.holds Try.pinned (OpenSpec.ofChange decoderAnySpec)

/-- ITS FALSE NEIGHBOUR: 'it returns false'. Refute it at one input. -/
def decoderAnyWrong : ChangeSpec := { name := "decoderAny", fn := fun _ => fun
  | [d1, d2] => { results := [.lit (.bool false)], args := [d1, d2] }
  | _ => none }
def DecoderAnyWrongFalsely : Prop := decoderAnyRow.holds Try.pinned (OpenSpec.ofChange decoderAnyWrong)

/- THE SECOND FORM. 'bulk': how many values and letters a reading holds, each counted each time it is reached (what is shared counts as often as it is met; a slice's spare places count too). A statement '..UptoSaid' is the law's where the arguments, and the package variables that the reading takes, are together of bulk at most 1048576: NARROWER than '..Said'. Prove '..Said' where nothing that the law and all that it calls make is longer than what came in: it says more and counts as full. Else prove '..UptoSaid'. A law counts once. -/
mutual
def uptoBulk {H : Type} : DataW H → Nat
  | .lit (.string bytes) => bytes.length + 1
  | .lit _ => 1
  | .nil => 1
  | .ptr d => uptoBulk d + 1
  | .slice elems spare => uptoBulkAll elems + uptoBulkAll spare + 1
  | .agg parts => uptoBulkAll parts + 1
  | .iface _ d => uptoBulk d + 1
  | .map entries => uptoBulkEntries entries + 1
  | .held _ => 1
def uptoBulkAll {H : Type} : List (DataW H) → Nat
  | [] => 0
  | d :: r => uptoBulk d + uptoBulkAll r
def uptoBulkEntries {H : Type} : List (Lit × DataW H) → Nat
  | [] => 0
  | x :: r => uptoBulkEntry x + uptoBulkEntries r
def uptoBulkEntry {H : Type} : Lit × DataW H → Nat
  | (.string bytes, d) => bytes.length + uptoBulk d + 1
  | (_, d) => uptoBulk d + 1
 end
def uptoSmall : (H : Type) → List (DataW H) → Bool := fun _ ds => decide (uptoBulkAll ds ≤ 1048576)
def OpenSpec.upto (s : _root_.Go.ChangeSpec) : _root_.Go.OpenSpec := { _root_.Go.OpenSpec.ofChange s with cond := some uptoSmall }

/-- 'descantlaw5.Decoders', WHERE WHAT IT READS IS OF BULK AT MOST 1048576: true; the input reads as it did. -/
def decodersUptoRow : OpenClaim := { program := "ytbhmpmhjklkghaa", sum := "176614bccba0f64cb66d36f0f6a3b0eaa2280e03b5e2922b6096e45c026680a4", func := "descant/descantlaw5.Decoders", spec := "decoders", apart := false, narrowed := true }
def DecodersUptoSaid : Prop := decodersUptoRow.holds Try.pinned (OpenSpec.upto decodersSpec)

/-- 'descantlaw5.DecoderBack', WHERE WHAT IT READS IS OF BULK AT MOST 1048576: true; the input reads as it did. -/
def decoderBackUptoRow : OpenClaim := { program := "ytbhmpmhjklkghaa", sum := "176614bccba0f64cb66d36f0f6a3b0eaa2280e03b5e2922b6096e45c026680a4", func := "descant/descantlaw5.DecoderBack", spec := "decoderBack", apart := false, narrowed := true }
def DecoderBackUptoSaid : Prop := decoderBackUptoRow.holds Try.pinned (OpenSpec.upto decoderBackSpec)

/-- 'descantlaw5.DecoderForms', WHERE WHAT IT READS IS OF BULK AT MOST 1048576: true; the input reads as it did. -/
def decoderFormsUptoRow : OpenClaim := { program := "ytbhmpmhjklkghaa", sum := "176614bccba0f64cb66d36f0f6a3b0eaa2280e03b5e2922b6096e45c026680a4", func := "descant/descantlaw5.DecoderForms", spec := "decoderForms", apart := false, narrowed := true }
def DecoderFormsUptoSaid : Prop := decoderFormsUptoRow.holds Try.pinned (OpenSpec.upto decoderFormsSpec)

/-- 'descantlaw5.DecoderZeros', WHERE WHAT IT READS IS OF BULK AT MOST 1048576: true; the input reads as it did. -/
def decoderZerosUptoRow : OpenClaim := { program := "ytbhmpmhjklkghaa", sum := "176614bccba0f64cb66d36f0f6a3b0eaa2280e03b5e2922b6096e45c026680a4", func := "descant/descantlaw5.DecoderZeros", spec := "decoderZeros", apart := false, narrowed := true }
def DecoderZerosUptoSaid : Prop := decoderZerosUptoRow.holds Try.pinned (OpenSpec.upto decoderZerosSpec)

/-- 'descantlaw5.DecoderAny', WHERE WHAT IT READS IS OF BULK AT MOST 1048576: true; the input reads as it did. -/
def decoderAnyUptoRow : OpenClaim := { program := "ytbhmpmhjklkghaa", sum := "176614bccba0f64cb66d36f0f6a3b0eaa2280e03b5e2922b6096e45c026680a4", func := "descant/descantlaw5.DecoderAny", spec := "decoderAny", apart := false, narrowed := true }
def DecoderAnyUptoSaid : Prop := decoderAnyUptoRow.holds Try.pinned (OpenSpec.upto decoderAnySpec)

end Rows
end Go.Proofs.Ytbhmpmhjklkghaa
