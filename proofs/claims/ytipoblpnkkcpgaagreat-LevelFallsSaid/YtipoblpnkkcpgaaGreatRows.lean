/-
  No cell of these rows narrows 'for every input' (looked for: loops, veiled, ifaces, maps, wideKeys, modest, calm, conditions, laid).
  DERIVED. THE GIVEN ROWS OF THIS SEAT. 3 by the template 'for every input the law returns true; each argument reads behind the call as it read before'; 0 by the template 'total and deterministic' (their statements: YtipoblpnkkcpgaaGreatTotals.lean).
  GIVEN WITH THE SEED: the statements are not yours to turn. If you find one false, say at which input.
  Laid BY PROGRAM, IN A SANDBOX (cutbox-rows.mjs): the forced cells as the released guide's own fill.sh prints them over the translation 04b1965f8540bf75… (all of the seat's roots in one cut). By AI agents, Wed Nov 11 2026. No macro, syntax, notation, axiom, sorry.
-/
import Derived.Test.YtipoblpnkkcpgaaGreatChecked
import GoSem.Claim
import GoSem.ClaimJoined
import GoSem.ClaimMapViews
import Derived.JoinedTies
import Derived.KernelRfl
namespace Go.Proofs.YtipoblpnkkcpgaaGreat
/- THE CELL 'sum', in the pinned program and in every row, IS THE sha256 OF THE DUMP (.gsa) THAT YtipoblpnkkcpgaaGreatProg.lean LOADS. Nothing in Lean hashes anything: it is a label: what it is worth is what the hold of that sum in a sandbox is worth. -/
noncomputable def Tryz.pinned : Pinned := { name := "ytipoblpnkkcpgaagreat", sum := "04b1965f8540bf75bfd6be09a3b866472292f6b1caa10a877eb316bbd4f769bd", checked := Tryz.checked }
namespace Rows
def none {H : Type} : Left H := { results := [], args := [] }

/-- 'straitlaw23.ResidPlays': WHATEVER THE INPUT: true; the input reads as it did. -/
def residPlaysSpec : ChangeSpec := { name := "residPlays", fn := fun _ => fun
  | [d1, d2, d3] => { results := [.lit (.bool true)], args := [d1, d2, d3] }
  | _ => none }
def residPlaysRow : OpenClaim := { program := "ytipoblpnkkcpgaagreat", sum := "04b1965f8540bf75bfd6be09a3b866472292f6b1caa10a877eb316bbd4f769bd", func := "strait/straitlaw23.ResidPlays", spec := "residPlays", unfollowed := true, recurses := true, plainKeys := false, apart := false }
def ResidPlaysSaid : Prop := residPlaysRow.holds Tryz.pinned (OpenSpec.ofChange residPlaysSpec)

/-- ITS FALSE NEIGHBOUR: 'it returns false'. Refute it at one input. -/
def residPlaysWrong : ChangeSpec := { name := "residPlays", fn := fun _ => fun
  | [d1, d2, d3] => { results := [.lit (.bool false)], args := [d1, d2, d3] }
  | _ => none }
def ResidPlaysWrongFalsely : Prop := residPlaysRow.holds Tryz.pinned (OpenSpec.ofChange residPlaysWrong)

/-- 'straitlaw28.FlowckTells': WHATEVER THE INPUT: true; the input reads as it did. -/
def flowckTellsSpec : ChangeSpec := { name := "flowckTells", fn := fun _ => fun
  | [d1, d2, d3] => { results := [.lit (.bool true)], args := [d1, d2, d3] }
  | _ => none }
def flowckTellsRow : OpenClaim := { program := "ytipoblpnkkcpgaagreat", sum := "04b1965f8540bf75bfd6be09a3b866472292f6b1caa10a877eb316bbd4f769bd", func := "strait/straitlaw28.FlowckTells", spec := "flowckTells", unfollowed := true, recurses := true, plainKeys := false, apart := false }
def FlowckTellsSaid : Prop := flowckTellsRow.holds Tryz.pinned (OpenSpec.ofChange flowckTellsSpec)

/-- ITS FALSE NEIGHBOUR: 'it returns false'. Refute it at one input. -/
def flowckTellsWrong : ChangeSpec := { name := "flowckTells", fn := fun _ => fun
  | [d1, d2, d3] => { results := [.lit (.bool false)], args := [d1, d2, d3] }
  | _ => none }
def FlowckTellsWrongFalsely : Prop := flowckTellsRow.holds Tryz.pinned (OpenSpec.ofChange flowckTellsWrong)

/-- 'straitlaw24.LevelFalls': WHATEVER THE INPUT: true; the input reads as it did. -/
def levelFallsSpec : ChangeSpec := { name := "levelFalls", fn := fun _ => fun
  | [d1, d2, d3] => { results := [.lit (.bool true)], args := [d1, d2, d3] }
  | _ => none }
def levelFallsRow : OpenClaim := { program := "ytipoblpnkkcpgaagreat", sum := "04b1965f8540bf75bfd6be09a3b866472292f6b1caa10a877eb316bbd4f769bd", func := "strait/straitlaw24.LevelFalls", spec := "levelFalls", unfollowed := true, recurses := true, plainKeys := false, apart := false }
def LevelFallsSaid : Prop := levelFallsRow.holds Tryz.pinned (OpenSpec.ofChange levelFallsSpec)

/-- ITS FALSE NEIGHBOUR: 'it returns false'. Refute it at one input. -/
def levelFallsWrong : ChangeSpec := { name := "levelFalls", fn := fun _ => fun
  | [d1, d2, d3] => { results := [.lit (.bool false)], args := [d1, d2, d3] }
  | _ => none }
def LevelFallsWrongFalsely : Prop := levelFallsRow.holds Tryz.pinned (OpenSpec.ofChange levelFallsWrong)

/- THE SECOND FORM. 'bulk': how many values and letters a reading holds, each counted each time it is reached (what is shared counts as often as it is met; a slice's spare places count too). A statement '..UptoSaid' is the law's where the arguments, and the package variables that the reading takes, are together of bulk at most 1048576: NARROWER than '..Said'. Prove '..Said' where nothing that the law and all that it calls make is longer than what came in: it says more and counts as full. Else prove '..UptoSaid'. A law counts once. -/
mutual
def uptoBulk {H : Type} : DataW H → Nat
  | .lit (.string bytes) => bytes.length + 1
  | .lit _ => 1
  | .nil => 1
  | .ptr d => uptoBulk d + 1
  | .slice elems spare => uptoBulkAll elems + uptoBulkAll spare + 1
  | .agg parts => uptoBulkAll parts + 1
  | .iface _ d => uptoBulk d + 1
  | .map entries => uptoBulkEntries entries + 1
  | .held _ => 1
def uptoBulkAll {H : Type} : List (DataW H) → Nat
  | [] => 0
  | d :: r => uptoBulk d + uptoBulkAll r
def uptoBulkEntries {H : Type} : List (Lit × DataW H) → Nat
  | [] => 0
  | x :: r => uptoBulkEntry x + uptoBulkEntries r
def uptoBulkEntry {H : Type} : Lit × DataW H → Nat
  | (.string bytes, d) => bytes.length + uptoBulk d + 1
  | (_, d) => uptoBulk d + 1
 end
def uptoSmall : (H : Type) → List (DataW H) → Bool := fun _ ds => decide (uptoBulkAll ds ≤ 1048576)
def OpenSpec.upto (s : _root_.Go.ChangeSpec) : _root_.Go.OpenSpec := { _root_.Go.OpenSpec.ofChange s with cond := some uptoSmall }

/-- 'straitlaw23.ResidPlays', WHERE WHAT IT READS IS OF BULK AT MOST 1048576: true; the input reads as it did. -/
def residPlaysUptoRow : OpenClaim := { program := "ytipoblpnkkcpgaagreat", sum := "04b1965f8540bf75bfd6be09a3b866472292f6b1caa10a877eb316bbd4f769bd", func := "strait/straitlaw23.ResidPlays", spec := "residPlays", unfollowed := true, recurses := true, plainKeys := false, apart := false, narrowed := true }
def ResidPlaysUptoSaid : Prop := residPlaysUptoRow.holds Tryz.pinned (OpenSpec.upto residPlaysSpec)

/-- 'straitlaw28.FlowckTells', WHERE WHAT IT READS IS OF BULK AT MOST 1048576: true; the input reads as it did. -/
def flowckTellsUptoRow : OpenClaim := { program := "ytipoblpnkkcpgaagreat", sum := "04b1965f8540bf75bfd6be09a3b866472292f6b1caa10a877eb316bbd4f769bd", func := "strait/straitlaw28.FlowckTells", spec := "flowckTells", unfollowed := true, recurses := true, plainKeys := false, apart := false, narrowed := true }
def FlowckTellsUptoSaid : Prop := flowckTellsUptoRow.holds Tryz.pinned (OpenSpec.upto flowckTellsSpec)

/-- 'straitlaw24.LevelFalls', WHERE WHAT IT READS IS OF BULK AT MOST 1048576: true; the input reads as it did. -/
def levelFallsUptoRow : OpenClaim := { program := "ytipoblpnkkcpgaagreat", sum := "04b1965f8540bf75bfd6be09a3b866472292f6b1caa10a877eb316bbd4f769bd", func := "strait/straitlaw24.LevelFalls", spec := "levelFalls", unfollowed := true, recurses := true, plainKeys := false, apart := false, narrowed := true }
def LevelFallsUptoSaid : Prop := levelFallsUptoRow.holds Tryz.pinned (OpenSpec.upto levelFallsSpec)

end Rows
end Go.Proofs.YtipoblpnkkcpgaaGreat
