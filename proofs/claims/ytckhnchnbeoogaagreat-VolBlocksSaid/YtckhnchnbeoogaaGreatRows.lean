/-
  No cell of these rows narrows 'for every input' (looked for: loops, veiled, ifaces, maps, wideKeys, modest, calm, conditions, laid).
  DERIVED. THE GIVEN ROWS OF THIS SEAT. 2 by the template 'for every input the law returns true; each argument reads behind the call as it read before'; 0 by the template 'total and deterministic' (their statements: YtckhnchnbeoogaaGreatTotals.lean).
  GIVEN WITH THE SEED: the statements are not yours to turn. If you find one false, say at which input.
  Laid BY PROGRAM, IN A SANDBOX (cutbox-rows.mjs): the forced cells as the released guide's own fill.sh prints them over the translation f226f08851af7a9b… (all of the seat's roots in one cut). By AI agents, Wed Nov 11 2026. No macro, syntax, notation, axiom, sorry.
-/
import Derived.Test.YtckhnchnbeoogaaGreatChecked
import GoSem.Claim
import GoSem.ClaimJoined
import GoSem.ClaimMapViews
import Derived.JoinedTies
import Derived.KernelRfl
namespace Go.Proofs.YtckhnchnbeoogaaGreat
/- THE CELL 'sum', in the pinned program and in every row, IS THE sha256 OF THE DUMP (.gsa) THAT YtckhnchnbeoogaaGreatProg.lean LOADS. Nothing in Lean hashes anything: it is a label: what it is worth is what the hold of that sum in a sandbox is worth. -/
noncomputable def Tryz.pinned : Pinned := { name := "ytckhnchnbeoogaagreat", sum := "f226f08851af7a9baba3b886e89ca60d927ed7bf9774f218d10cd3744bd5fb6c", checked := Tryz.checked }
namespace Rows
def none {H : Type} : Left H := { results := [], args := [] }

/-- 'scionrylaw17.VolAsks': WHATEVER THE INPUT: true; the input reads as it did. -/
def volAsksSpec : ChangeSpec := { name := "volAsks", fn := fun _ => fun
  | [d1, d2, d3, d4] => { results := [.lit (.bool true)], args := [d1, d2, d3, d4] }
  | _ => none }
def volAsksRow : OpenClaim := { program := "ytckhnchnbeoogaagreat", sum := "f226f08851af7a9baba3b886e89ca60d927ed7bf9774f218d10cd3744bd5fb6c", func := "scionry/scionrylaw17.VolAsks", spec := "volAsks", unfollowed := true, recurses := true, apart := false }
def VolAsksSaid : Prop := volAsksRow.holds Tryz.pinned (OpenSpec.ofChange volAsksSpec)

/-- ITS FALSE NEIGHBOUR: 'it returns false'. Refute it at one input. -/
def volAsksWrong : ChangeSpec := { name := "volAsks", fn := fun _ => fun
  | [d1, d2, d3, d4] => { results := [.lit (.bool false)], args := [d1, d2, d3, d4] }
  | _ => none }
def VolAsksWrongFalsely : Prop := volAsksRow.holds Tryz.pinned (OpenSpec.ofChange volAsksWrong)

/-- 'scionrylaw17.VolBlocks': WHATEVER THE INPUT: true; the input reads as it did. -/
def volBlocksSpec : ChangeSpec := { name := "volBlocks", fn := fun _ => fun
  | [d1, d2, d3] => { results := [.lit (.bool true)], args := [d1, d2, d3] }
  | _ => none }
def volBlocksRow : OpenClaim := { program := "ytckhnchnbeoogaagreat", sum := "f226f08851af7a9baba3b886e89ca60d927ed7bf9774f218d10cd3744bd5fb6c", func := "scionry/scionrylaw17.VolBlocks", spec := "volBlocks", unfollowed := true, recurses := true, apart := false }
def VolBlocksSaid : Prop := volBlocksRow.holds Tryz.pinned (OpenSpec.ofChange volBlocksSpec)

/-- ITS FALSE NEIGHBOUR: 'it returns false'. Refute it at one input. -/
def volBlocksWrong : ChangeSpec := { name := "volBlocks", fn := fun _ => fun
  | [d1, d2, d3] => { results := [.lit (.bool false)], args := [d1, d2, d3] }
  | _ => none }
def VolBlocksWrongFalsely : Prop := volBlocksRow.holds Tryz.pinned (OpenSpec.ofChange volBlocksWrong)

/- THE SECOND FORM. 'bulk': how many values and letters a reading holds, each counted each time it is reached (what is shared counts as often as it is met; a slice's spare places count too). A statement '..UptoSaid' is the law's where the arguments, and the package variables that the reading takes, are together of bulk at most 1048576: NARROWER than '..Said'. Prove '..Said' where nothing that the law and all that it calls make is longer than what came in: it says more and counts as full. Else prove '..UptoSaid'. A law counts once. -/
mutual
def uptoBulk {H : Type} : DataW H → Nat
  | .lit (.string bytes) => bytes.length + 1
  | .lit _ => 1
  | .nil => 1
  | .ptr d => uptoBulk d + 1
  | .slice elems spare => uptoBulkAll elems + uptoBulkAll spare + 1
  | .agg parts => uptoBulkAll parts + 1
  | .iface _ d => uptoBulk d + 1
  | .map entries => uptoBulkEntries entries + 1
  | .held _ => 1
def uptoBulkAll {H : Type} : List (DataW H) → Nat
  | [] => 0
  | d :: r => uptoBulk d + uptoBulkAll r
def uptoBulkEntries {H : Type} : List (Lit × DataW H) → Nat
  | [] => 0
  | x :: r => uptoBulkEntry x + uptoBulkEntries r
def uptoBulkEntry {H : Type} : Lit × DataW H → Nat
  | (.string bytes, d) => bytes.length + uptoBulk d + 1
  | (_, d) => uptoBulk d + 1
 end
def uptoSmall : (H : Type) → List (DataW H) → Bool := fun _ ds => decide (uptoBulkAll ds ≤ 1048576)
def OpenSpec.upto (s : _root_.Go.ChangeSpec) : _root_.Go.OpenSpec := { _root_.Go.OpenSpec.ofChange s with cond := some uptoSmall }

/-- 'scionrylaw17.VolAsks', WHERE WHAT IT READS IS OF BULK AT MOST 1048576: true; the input reads as it did. -/
def volAsksUptoRow : OpenClaim := { program := "ytckhnchnbeoogaagreat", sum := "f226f08851af7a9baba3b886e89ca60d927ed7bf9774f218d10cd3744bd5fb6c", func := "scionry/scionrylaw17.VolAsks", spec := "volAsks", unfollowed := true, recurses := true, apart := false, narrowed := true }
def VolAsksUptoSaid : Prop := volAsksUptoRow.holds Tryz.pinned (OpenSpec.upto volAsksSpec)

/-- 'scionrylaw17.VolBlocks', WHERE WHAT IT READS IS OF BULK AT MOST 1048576: true; the input reads as it did. -/
def volBlocksUptoRow : OpenClaim := { program := "ytckhnchnbeoogaagreat", sum := "f226f08851af7a9baba3b886e89ca60d927ed7bf9774f218d10cd3744bd5fb6c", func := "scionry/scionrylaw17.VolBlocks", spec := "volBlocks", unfollowed := true, recurses := true, apart := false, narrowed := true }
def VolBlocksUptoSaid : Prop := volBlocksUptoRow.holds Tryz.pinned (OpenSpec.upto volBlocksSpec)

end Rows
end Go.Proofs.YtckhnchnbeoogaaGreat
