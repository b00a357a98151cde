/-
  No cell of these rows narrows 'for every input' (looked for: loops, veiled, ifaces, maps, wideKeys, modest, calm, conditions, laid).
  DERIVED. THE GIVEN ROWS OF THIS SEAT. 6 by the template 'for every input the law returns true; each argument reads behind the call as it read before'; 0 by the template 'total and deterministic' (their statements: YtdojomdnnmaoeaaTotals.lean).
  GIVEN WITH THE SEED: the statements are not yours to turn. If you find one false, say at which input.
  Laid BY PROGRAM, IN A SANDBOX (cutbox-rows.mjs): the forced cells as the released guide's own fill.sh prints them over the translation 04588b48d38d2039… (all of the seat's roots in one cut). By AI agents, Wed Nov 11 2026. No macro, syntax, notation, axiom, sorry.
-/
import Derived.Test.YtdojomdnnmaoeaaChecked
import GoSem.Claim
import GoSem.ClaimJoined
import GoSem.ClaimMapViews
import Derived.JoinedTies
import Derived.KernelRfl
namespace Go.Proofs.Ytdojomdnnmaoeaa
/- THE CELL 'sum', in the pinned program and in every row, IS THE sha256 OF THE DUMP (.gsa) THAT YtdojomdnnmaoeaaProg.lean LOADS. Nothing in Lean hashes anything: it is a label: what it is worth is what the hold of that sum in a sandbox is worth. -/
noncomputable def Try.pinned : Pinned := { name := "ytdojomdnnmaoeaa", sum := "04588b48d38d2039089aa69b548934f1a56e8bdc7f8d5ca9978e1f8377c561a0", checked := Try.checked }
namespace Rows
def none {H : Type} : Left H := { results := [], args := [] }

/-- 'descantlaw0.DescantNames': WHATEVER THE INPUT: true; the input reads as it did. -/
def descantNamesSpec : ChangeSpec := { name := "descantNames", fn := fun _ => fun
  | [] => { results := [.lit (.bool true)], args := [] }
  | _ => none }
def descantNamesRow : OpenClaim := { program := "ytdojomdnnmaoeaa", sum := "04588b48d38d2039089aa69b548934f1a56e8bdc7f8d5ca9978e1f8377c561a0", func := "descant/descantlaw0.DescantNames", spec := "descantNames", apart := false }
def DescantNamesSaid : Prop := descantNamesRow.holds Try.pinned (OpenSpec.ofChange descantNamesSpec)

/-- ITS FALSE NEIGHBOUR: 'it returns false'. Refute it at one input. -/
def descantNamesWrong : ChangeSpec := { name := "descantNames", fn := fun _ => fun
  | [] => { results := [.lit (.bool false)], args := [] }
  | _ => none }
def DescantNamesWrongFalsely : Prop := descantNamesRow.holds Try.pinned (OpenSpec.ofChange descantNamesWrong)

/-- 'descantlaw3.Crcs': WHATEVER THE INPUT: true; the input reads as it did. -/
def crcsSpec : ChangeSpec := { name := "crcs", fn := fun _ => fun
  | [d] => { results := [.lit (.bool true)], args := [d] }
  | _ => none }
def crcsRow : OpenClaim := { program := "ytdojomdnnmaoeaa", sum := "04588b48d38d2039089aa69b548934f1a56e8bdc7f8d5ca9978e1f8377c561a0", func := "descant/descantlaw3.Crcs", spec := "crcs", apart := false }
def CrcsSaid : Prop := crcsRow.holds Try.pinned (OpenSpec.ofChange crcsSpec)

/-- ITS FALSE NEIGHBOUR: 'it returns false'. Refute it at one input. -/
def crcsWrong : ChangeSpec := { name := "crcs", fn := fun _ => fun
  | [d] => { results := [.lit (.bool false)], args := [d] }
  | _ => none }
def CrcsWrongFalsely : Prop := crcsRow.holds Try.pinned (OpenSpec.ofChange crcsWrong)

/-- 'descantlaw3.CrcBurst': WHATEVER THE INPUT: true; the input reads as it did. -/
def crcBurstSpec : ChangeSpec := { name := "crcBurst", fn := fun _ => fun
  | [d1, d2, d3] => { results := [.lit (.bool true)], args := [d1, d2, d3] }
  | _ => none }
def crcBurstRow : OpenClaim := { program := "ytdojomdnnmaoeaa", sum := "04588b48d38d2039089aa69b548934f1a56e8bdc7f8d5ca9978e1f8377c561a0", func := "descant/descantlaw3.CrcBurst", spec := "crcBurst", apart := false }
def CrcBurstSaid : Prop := crcBurstRow.holds Try.pinned (OpenSpec.ofChange crcBurstSpec)

/-- ITS FALSE NEIGHBOUR: 'it returns false'. Refute it at one input. -/
def crcBurstWrong : ChangeSpec := { name := "crcBurst", fn := fun _ => fun
  | [d1, d2, d3] => { results := [.lit (.bool false)], args := [d1, d2, d3] }
  | _ => none }
def CrcBurstWrongFalsely : Prop := crcBurstRow.holds Try.pinned (OpenSpec.ofChange crcBurstWrong)

/-- 'descantlaw3.CrcKnown': WHATEVER THE INPUT: true; the input reads as it did. -/
def crcKnownSpec : ChangeSpec := { name := "crcKnown", fn := fun _ => fun
  | [d] => { results := [.lit (.bool true)], args := [d] }
  | _ => none }
def crcKnownRow : OpenClaim := { program := "ytdojomdnnmaoeaa", sum := "04588b48d38d2039089aa69b548934f1a56e8bdc7f8d5ca9978e1f8377c561a0", func := "descant/descantlaw3.CrcKnown", spec := "crcKnown", apart := false }
def CrcKnownSaid : Prop := crcKnownRow.holds Try.pinned (OpenSpec.ofChange crcKnownSpec)

/-- ITS FALSE NEIGHBOUR: 'it returns false'. Refute it at one input. -/
def crcKnownWrong : ChangeSpec := { name := "crcKnown", fn := fun _ => fun
  | [d] => { results := [.lit (.bool false)], args := [d] }
  | _ => none }
def CrcKnownWrongFalsely : Prop := crcKnownRow.holds Try.pinned (OpenSpec.ofChange crcKnownWrong)

/-- 'descantlaw3.CrcTurned': WHATEVER THE INPUT: true; the input reads as it did. -/
def crcTurnedSpec : ChangeSpec := { name := "crcTurned", fn := fun _ => fun
  | [d1, d2, d3] => { results := [.lit (.bool true)], args := [d1, d2, d3] }
  | _ => none }
def crcTurnedRow : OpenClaim := { program := "ytdojomdnnmaoeaa", sum := "04588b48d38d2039089aa69b548934f1a56e8bdc7f8d5ca9978e1f8377c561a0", func := "descant/descantlaw3.CrcTurned", spec := "crcTurned", apart := false }
def CrcTurnedSaid : Prop := crcTurnedRow.holds Try.pinned (OpenSpec.ofChange crcTurnedSpec)

/-- ITS FALSE NEIGHBOUR: 'it returns false'. Refute it at one input. -/
def crcTurnedWrong : ChangeSpec := { name := "crcTurned", fn := fun _ => fun
  | [d1, d2, d3] => { results := [.lit (.bool false)], args := [d1, d2, d3] }
  | _ => none }
def CrcTurnedWrongFalsely : Prop := crcTurnedRow.holds Try.pinned (OpenSpec.ofChange crcTurnedWrong)

/-- 'descantlaw3.CrcLonger': WHATEVER THE INPUT: true; the input reads as it did. -/
def crcLongerSpec : ChangeSpec := { name := "crcLonger", fn := fun _ => fun
  | [d1, d2, d3] => { results := [.lit (.bool true)], args := [d1, d2, d3] }
  | _ => none }
def crcLongerRow : OpenClaim := { program := "ytdojomdnnmaoeaa", sum := "04588b48d38d2039089aa69b548934f1a56e8bdc7f8d5ca9978e1f8377c561a0", func := "descant/descantlaw3.CrcLonger", spec := "crcLonger", apart := false }
def CrcLongerSaid : Prop := crcLongerRow.holds Try.pinned (OpenSpec.ofChange crcLongerSpec)

/-- ITS FALSE NEIGHBOUR: 'it returns false'. Refute it at one input. -/
def crcLongerWrong : ChangeSpec := { name := "crcLonger", fn := fun _ => fun
  | [d1, d2, d3] => { results := [.lit (.bool false)], args := [d1, d2, d3] }
  | _ => none }
def CrcLongerWrongFalsely : Prop := crcLongerRow.holds Try.pinned (OpenSpec.ofChange crcLongerWrong)

/- THE SECOND FORM. 'bulk': how many values and letters a reading holds, each counted each time it is reached (what is shared counts as often as it is met; a slice's spare places count too). A statement '..UptoSaid' is the law's where the arguments, and the package variables that the reading takes, are together of bulk at most 1048576: NARROWER than '..Said'. Prove '..Said' where nothing that the law and all that it calls make is longer than what came in: it says more and counts as full. Else prove '..UptoSaid'. A law counts once. -/
mutual
def uptoBulk {H : Type} : DataW H → Nat
  | .lit (.string bytes) => bytes.length + 1
  | .lit _ => 1
  | .nil => 1
  | .ptr d => uptoBulk d + 1
  | .slice elems spare => uptoBulkAll elems + uptoBulkAll spare + 1
  | .agg parts => uptoBulkAll parts + 1
  | .iface _ d => uptoBulk d + 1
  | .map entries => uptoBulkEntries entries + 1
  | .held _ => 1
def uptoBulkAll {H : Type} : List (DataW H) → Nat
  | [] => 0
  | d :: r => uptoBulk d + uptoBulkAll r
def uptoBulkEntries {H : Type} : List (Lit × DataW H) → Nat
  | [] => 0
  | x :: r => uptoBulkEntry x + uptoBulkEntries r
def uptoBulkEntry {H : Type} : Lit × DataW H → Nat
  | (.string bytes, d) => bytes.length + uptoBulk d + 1
  | (_, d) => uptoBulk d + 1
 end
def uptoSmall : (H : Type) → List (DataW H) → Bool := fun _ ds => decide (uptoBulkAll ds ≤ 1048576)
def OpenSpec.upto (s : _root_.Go.ChangeSpec) : _root_.Go.OpenSpec := { _root_.Go.OpenSpec.ofChange s with cond := some uptoSmall }

/-- 'descantlaw0.DescantNames', WHERE WHAT IT READS IS OF BULK AT MOST 1048576: true; the input reads as it did. -/
def descantNamesUptoRow : OpenClaim := { program := "ytdojomdnnmaoeaa", sum := "04588b48d38d2039089aa69b548934f1a56e8bdc7f8d5ca9978e1f8377c561a0", func := "descant/descantlaw0.DescantNames", spec := "descantNames", apart := false, narrowed := true }
def DescantNamesUptoSaid : Prop := descantNamesUptoRow.holds Try.pinned (OpenSpec.upto descantNamesSpec)

/-- 'descantlaw3.Crcs', WHERE WHAT IT READS IS OF BULK AT MOST 1048576: true; the input reads as it did. -/
def crcsUptoRow : OpenClaim := { program := "ytdojomdnnmaoeaa", sum := "04588b48d38d2039089aa69b548934f1a56e8bdc7f8d5ca9978e1f8377c561a0", func := "descant/descantlaw3.Crcs", spec := "crcs", apart := false, narrowed := true }
def CrcsUptoSaid : Prop := crcsUptoRow.holds Try.pinned (OpenSpec.upto crcsSpec)

/-- 'descantlaw3.CrcBurst', WHERE WHAT IT READS IS OF BULK AT MOST 1048576: true; the input reads as it did. -/
def crcBurstUptoRow : OpenClaim := { program := "ytdojomdnnmaoeaa", sum := "04588b48d38d2039089aa69b548934f1a56e8bdc7f8d5ca9978e1f8377c561a0", func := "descant/descantlaw3.CrcBurst", spec := "crcBurst", apart := false, narrowed := true }
def CrcBurstUptoSaid : Prop := crcBurstUptoRow.holds Try.pinned (OpenSpec.upto crcBurstSpec)

/-- 'descantlaw3.CrcKnown', WHERE WHAT IT READS IS OF BULK AT MOST 1048576: true; the input reads as it did. -/
def crcKnownUptoRow : OpenClaim := { program := "ytdojomdnnmaoeaa", sum := "04588b48d38d2039089aa69b548934f1a56e8bdc7f8d5ca9978e1f8377c561a0", func := "descant/descantlaw3.CrcKnown", spec := "crcKnown", apart := false, narrowed := true }
def CrcKnownUptoSaid : Prop := crcKnownUptoRow.holds Try.pinned (OpenSpec.upto crcKnownSpec)

/-- 'descantlaw3.CrcTurned', WHERE WHAT IT READS IS OF BULK AT MOST 1048576: true; the input reads as it did. -/
def crcTurnedUptoRow : OpenClaim := { program := "ytdojomdnnmaoeaa", sum := "04588b48d38d2039089aa69b548934f1a56e8bdc7f8d5ca9978e1f8377c561a0", func := "descant/descantlaw3.CrcTurned", spec := "crcTurned", apart := false, narrowed := true }
def CrcTurnedUptoSaid : Prop := crcTurnedUptoRow.holds Try.pinned (OpenSpec.upto crcTurnedSpec)

/-- 'descantlaw3.CrcLonger', WHERE WHAT IT READS IS OF BULK AT MOST 1048576: true; the input reads as it did. -/
def crcLongerUptoRow : OpenClaim := { program := "ytdojomdnnmaoeaa", sum := "04588b48d38d2039089aa69b548934f1a56e8bdc7f8d5ca9978e1f8377c561a0", func := "descant/descantlaw3.CrcLonger", spec := "crcLonger", apart := false, narrowed := true }
def CrcLongerUptoSaid : Prop := crcLongerUptoRow.holds Try.pinned (OpenSpec.upto crcLongerSpec)

end Rows
end Go.Proofs.Ytdojomdnnmaoeaa
