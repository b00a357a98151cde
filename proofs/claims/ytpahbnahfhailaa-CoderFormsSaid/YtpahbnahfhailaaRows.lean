/-
  No cell of these rows narrows 'for every input' (looked for: loops, veiled, ifaces, maps, wideKeys, modest, calm, conditions, laid).
  DERIVED. THE GIVEN ROWS OF THIS SEAT. 6 by the template 'for every input the law returns true; each argument reads behind the call as it read before'; 0 by the template 'total and deterministic' (their statements: YtpahbnahfhailaaTotals.lean).
  GIVEN WITH THE SEED: the statements are not yours to turn. If you find one false, say at which input.
  Laid BY PROGRAM, IN A SANDBOX (cutbox-rows.mjs): the forced cells as the released guide's own fill.sh prints them over the translation 9d7572fdd3259fc1… (all of the seat's roots in one cut). By AI agents, Wed Nov 11 2026. No macro, syntax, notation, axiom, sorry.
-/
import Derived.Test.YtpahbnahfhailaaChecked
import GoSem.Claim
import GoSem.ClaimJoined
import GoSem.ClaimMapViews
import Derived.JoinedTies
import Derived.KernelRfl
namespace Go.Proofs.Ytpahbnahfhailaa
/- THE CELL 'sum', in the pinned program and in every row, IS THE sha256 OF THE DUMP (.gsa) THAT YtpahbnahfhailaaProg.lean LOADS. Nothing in Lean hashes anything: it is a label: what it is worth is what the hold of that sum in a sandbox is worth. -/
noncomputable def Try.pinned : Pinned := { name := "ytpahbnahfhailaa", sum := "9d7572fdd3259fc11956c2f529dc152d60216191f0dec27691990b3e901d132f", checked := Try.checked }
namespace Rows
def none {H : Type} : Left H := { results := [], args := [] }

/-- 'descantlaw4.Coders': WHATEVER THE INPUT: true; the input reads as it did. -/
def codersSpec : ChangeSpec := { name := "coders", fn := fun _ => fun
  | [d1, d2, d3] => { results := [.lit (.bool true)], args := [d1, d2, d3] }
  | _ => none }
def codersRow : OpenClaim := { program := "ytpahbnahfhailaa", sum := "9d7572fdd3259fc11956c2f529dc152d60216191f0dec27691990b3e901d132f", func := "descant/descantlaw4.Coders", spec := "coders", apart := false }
def CodersSaid : Prop := codersRow.holds Try.pinned (OpenSpec.ofChange codersSpec)

/-- ITS FALSE NEIGHBOUR: 'it returns false'. Refute it at one input. -/
def codersWrong : ChangeSpec := { name := "coders", fn := fun _ => fun
  | [d1, d2, d3] => { results := [.lit (.bool false)], args := [d1, d2, d3] }
  | _ => none }
def CodersWrongFalsely : Prop := codersRow.holds Try.pinned (OpenSpec.ofChange codersWrong)

/-- 'descantlaw4.CoderForms': WHATEVER THE INPUT: true; the input reads as it did. -/
def coderFormsSpec : ChangeSpec := { name := "coderForms", fn := fun _ => fun
  | [d1, d2] => { results := [.lit (.bool true)], args := [d1, d2] }
  | _ => none }
def coderFormsRow : OpenClaim := { program := "ytpahbnahfhailaa", sum := "9d7572fdd3259fc11956c2f529dc152d60216191f0dec27691990b3e901d132f", func := "descant/descantlaw4.CoderForms", spec := "coderForms", apart := false }
def CoderFormsSaid : Prop := coderFormsRow.holds Try.pinned (OpenSpec.ofChange coderFormsSpec)

/-- ITS FALSE NEIGHBOUR: 'it returns false'. Refute it at one input. -/
def coderFormsWrong : ChangeSpec := { name := "coderForms", fn := fun _ => fun
  | [d1, d2] => { results := [.lit (.bool false)], args := [d1, d2] }
  | _ => none }
def CoderFormsWrongFalsely : Prop := coderFormsRow.holds Try.pinned (OpenSpec.ofChange coderFormsWrong)

/-- 'descantlaw4.CoderNarrows': WHATEVER THE INPUT: true; the input reads as it did. -/
def coderNarrowsSpec : ChangeSpec := { name := "coderNarrows", fn := fun _ => fun
  | [d1, d2] => { results := [.lit (.bool true)], args := [d1, d2] }
  | _ => none }
def coderNarrowsRow : OpenClaim := { program := "ytpahbnahfhailaa", sum := "9d7572fdd3259fc11956c2f529dc152d60216191f0dec27691990b3e901d132f", func := "descant/descantlaw4.CoderNarrows", spec := "coderNarrows", apart := false }
def CoderNarrowsSaid : Prop := coderNarrowsRow.holds Try.pinned (OpenSpec.ofChange coderNarrowsSpec)

/-- ITS FALSE NEIGHBOUR: 'it returns false'. Refute it at one input. -/
def coderNarrowsWrong : ChangeSpec := { name := "coderNarrows", fn := fun _ => fun
  | [d1, d2] => { results := [.lit (.bool false)], args := [d1, d2] }
  | _ => none }
def CoderNarrowsWrongFalsely : Prop := coderNarrowsRow.holds Try.pinned (OpenSpec.ofChange coderNarrowsWrong)

/-- 'descantlaw4.CoderShort': WHATEVER THE INPUT: true; the input reads as it did. -/
def coderShortSpec : ChangeSpec := { name := "coderShort", fn := fun _ => fun
  | [d1, d2] => { results := [.lit (.bool true)], args := [d1, d2] }
  | _ => none }
def coderShortRow : OpenClaim := { program := "ytpahbnahfhailaa", sum := "9d7572fdd3259fc11956c2f529dc152d60216191f0dec27691990b3e901d132f", func := "descant/descantlaw4.CoderShort", spec := "coderShort", apart := false }
def CoderShortSaid : Prop := coderShortRow.holds Try.pinned (OpenSpec.ofChange coderShortSpec)

/-- ITS FALSE NEIGHBOUR: 'it returns false'. Refute it at one input. -/
def coderShortWrong : ChangeSpec := { name := "coderShort", fn := fun _ => fun
  | [d1, d2] => { results := [.lit (.bool false)], args := [d1, d2] }
  | _ => none }
def CoderShortWrongFalsely : Prop := coderShortRow.holds Try.pinned (OpenSpec.ofChange coderShortWrong)

/-- 'descantlaw4.CoderRow': WHATEVER THE INPUT: true; the input reads as it did. -/
def coderRowSpec : ChangeSpec := { name := "coderRow", fn := fun _ => fun
  | [d1, d2] => { results := [.lit (.bool true)], args := [d1, d2] }
  | _ => none }
def coderRowRow : OpenClaim := { program := "ytpahbnahfhailaa", sum := "9d7572fdd3259fc11956c2f529dc152d60216191f0dec27691990b3e901d132f", func := "descant/descantlaw4.CoderRow", spec := "coderRow", apart := false }
def CoderRowSaid : Prop := coderRowRow.holds Try.pinned (OpenSpec.ofChange coderRowSpec)

/-- ITS FALSE NEIGHBOUR: 'it returns false'. Refute it at one input. -/
def coderRowWrong : ChangeSpec := { name := "coderRow", fn := fun _ => fun
  | [d1, d2] => { results := [.lit (.bool false)], args := [d1, d2] }
  | _ => none }
def CoderRowWrongFalsely : Prop := coderRowRow.holds Try.pinned (OpenSpec.ofChange coderRowWrong)

/-- 'descantlaw4.CoderEnds': WHATEVER THE INPUT: true; the input reads as it did. -/
def coderEndsSpec : ChangeSpec := { name := "coderEnds", fn := fun _ => fun
  | [d] => { results := [.lit (.bool true)], args := [d] }
  | _ => none }
def coderEndsRow : OpenClaim := { program := "ytpahbnahfhailaa", sum := "9d7572fdd3259fc11956c2f529dc152d60216191f0dec27691990b3e901d132f", func := "descant/descantlaw4.CoderEnds", spec := "coderEnds", apart := false }
def CoderEndsSaid : Prop := coderEndsRow.holds Try.pinned (OpenSpec.ofChange coderEndsSpec)

/-- ITS FALSE NEIGHBOUR: 'it returns false'. Refute it at one input. -/
def coderEndsWrong : ChangeSpec := { name := "coderEnds", fn := fun _ => fun
  | [d] => { results := [.lit (.bool false)], args := [d] }
  | _ => none }
def CoderEndsWrongFalsely : Prop := coderEndsRow.holds Try.pinned (OpenSpec.ofChange coderEndsWrong)

/- THE SECOND FORM. 'bulk': how many values and letters a reading holds, each counted each time it is reached (what is shared counts as often as it is met; a slice's spare places count too). A statement '..UptoSaid' is the law's where the arguments, and the package variables that the reading takes, are together of bulk at most 1048576: NARROWER than '..Said'. Prove '..Said' where nothing that the law and all that it calls make is longer than what came in: it says more and counts as full. Else prove '..UptoSaid'. A law counts once. -/
mutual
def uptoBulk {H : Type} : DataW H → Nat
  | .lit (.string bytes) => bytes.length + 1
  | .lit _ => 1
  | .nil => 1
  | .ptr d => uptoBulk d + 1
  | .slice elems spare => uptoBulkAll elems + uptoBulkAll spare + 1
  | .agg parts => uptoBulkAll parts + 1
  | .iface _ d => uptoBulk d + 1
  | .map entries => uptoBulkEntries entries + 1
  | .held _ => 1
def uptoBulkAll {H : Type} : List (DataW H) → Nat
  | [] => 0
  | d :: r => uptoBulk d + uptoBulkAll r
def uptoBulkEntries {H : Type} : List (Lit × DataW H) → Nat
  | [] => 0
  | x :: r => uptoBulkEntry x + uptoBulkEntries r
def uptoBulkEntry {H : Type} : Lit × DataW H → Nat
  | (.string bytes, d) => bytes.length + uptoBulk d + 1
  | (_, d) => uptoBulk d + 1
 end
def uptoSmall : (H : Type) → List (DataW H) → Bool := fun _ ds => decide (uptoBulkAll ds ≤ 1048576)
def OpenSpec.upto (s : _root_.Go.ChangeSpec) : _root_.Go.OpenSpec := { _root_.Go.OpenSpec.ofChange s with cond := some uptoSmall }

/-- 'descantlaw4.Coders', WHERE WHAT IT READS IS OF BULK AT MOST 1048576: true; the input reads as it did. -/
def codersUptoRow : OpenClaim := { program := "ytpahbnahfhailaa", sum := "9d7572fdd3259fc11956c2f529dc152d60216191f0dec27691990b3e901d132f", func := "descant/descantlaw4.Coders", spec := "coders", apart := false, narrowed := true }
def CodersUptoSaid : Prop := codersUptoRow.holds Try.pinned (OpenSpec.upto codersSpec)

/-- 'descantlaw4.CoderForms', WHERE WHAT IT READS IS OF BULK AT MOST 1048576: true; the input reads as it did. -/
def coderFormsUptoRow : OpenClaim := { program := "ytpahbnahfhailaa", sum := "9d7572fdd3259fc11956c2f529dc152d60216191f0dec27691990b3e901d132f", func := "descant/descantlaw4.CoderForms", spec := "coderForms", apart := false, narrowed := true }
def CoderFormsUptoSaid : Prop := coderFormsUptoRow.holds Try.pinned (OpenSpec.upto coderFormsSpec)

/-- 'descantlaw4.CoderNarrows', WHERE WHAT IT READS IS OF BULK AT MOST 1048576: true; the input reads as it did. -/
def coderNarrowsUptoRow : OpenClaim := { program := "ytpahbnahfhailaa", sum := "9d7572fdd3259fc11956c2f529dc152d60216191f0dec27691990b3e901d132f", func := "descant/descantlaw4.CoderNarrows", spec := "coderNarrows", apart := false, narrowed := true }
def CoderNarrowsUptoSaid : Prop := coderNarrowsUptoRow.holds Try.pinned (OpenSpec.upto coderNarrowsSpec)

/-- 'descantlaw4.CoderShort', WHERE WHAT IT READS IS OF BULK AT MOST 1048576: true; the input reads as it did. -/
def coderShortUptoRow : OpenClaim := { program := "ytpahbnahfhailaa", sum := "9d7572fdd3259fc11956c2f529dc152d60216191f0dec27691990b3e901d132f", func := "descant/descantlaw4.CoderShort", spec := "coderShort", apart := false, narrowed := true }
def CoderShortUptoSaid : Prop := coderShortUptoRow.holds Try.pinned (OpenSpec.upto coderShortSpec)

/-- 'descantlaw4.CoderRow', WHERE WHAT IT READS IS OF BULK AT MOST 1048576: true; the input reads as it did. -/
def coderRowUptoRow : OpenClaim := { program := "ytpahbnahfhailaa", sum := "9d7572fdd3259fc11956c2f529dc152d60216191f0dec27691990b3e901d132f", func := "descant/descantlaw4.CoderRow", spec := "coderRow", apart := false, narrowed := true }
def CoderRowUptoSaid : Prop := coderRowUptoRow.holds Try.pinned (OpenSpec.upto coderRowSpec)

/-- 'descantlaw4.CoderEnds', WHERE WHAT IT READS IS OF BULK AT MOST 1048576: true; the input reads as it did. -/
def coderEndsUptoRow : OpenClaim := { program := "ytpahbnahfhailaa", sum := "9d7572fdd3259fc11956c2f529dc152d60216191f0dec27691990b3e901d132f", func := "descant/descantlaw4.CoderEnds", spec := "coderEnds", apart := false, narrowed := true }
def CoderEndsUptoSaid : Prop := coderEndsUptoRow.holds Try.pinned (OpenSpec.upto coderEndsSpec)

end Rows
end Go.Proofs.Ytpahbnahfhailaa
