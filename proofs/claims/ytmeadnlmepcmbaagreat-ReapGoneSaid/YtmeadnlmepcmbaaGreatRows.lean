/-
  No cell of these rows narrows 'for every input' (looked for: loops, veiled, ifaces, maps, wideKeys, modest, calm, conditions, laid).
  DERIVED. THE GIVEN ROWS OF THIS SEAT. 12 by the template 'for every input the law returns true; each argument reads behind the call as it read before'; 0 by the template 'total and deterministic' (their statements: YtmeadnlmepcmbaaGreatTotals.lean).
  GIVEN WITH THE SEED: the statements are not yours to turn. If you find one false, say at which input.
  Laid BY PROGRAM, IN A SANDBOX (cutbox-rows.mjs): the forced cells as the released guide's own fill.sh prints them over the translation 1e98dd65fa16b350… (all of the seat's roots in one cut). By AI agents, Wed Nov 11 2026. No macro, syntax, notation, axiom, sorry.
-/
import Derived.Test.YtmeadnlmepcmbaaGreatChecked
import GoSem.Claim
import GoSem.ClaimJoined
import GoSem.ClaimMapViews
import Derived.JoinedTies
import Derived.KernelRfl
namespace Go.Proofs.YtmeadnlmepcmbaaGreat
/- THE CELL 'sum', in the pinned program and in every row, IS THE sha256 OF THE DUMP (.gsa) THAT YtmeadnlmepcmbaaGreatProg.lean LOADS. Nothing in Lean hashes anything: it is a label: what it is worth is what the hold of that sum in a sandbox is worth. -/
noncomputable def Tryz.pinned : Pinned := { name := "ytmeadnlmepcmbaagreat", sum := "1e98dd65fa16b350c47a478ac22a127f22c2dde4926c36a93482952f4e045964", checked := Tryz.checked }
namespace Rows
def none {H : Type} : Left H := { results := [], args := [] }

/-- 'scionrylaw14.ForestTwice': WHATEVER THE INPUT: true; the input reads as it did. -/
def forestTwiceSpec : ChangeSpec := { name := "forestTwice", fn := fun _ => fun
  | [d1, d2] => { results := [.lit (.bool true)], args := [d1, d2] }
  | _ => none }
def forestTwiceRow : OpenClaim := { program := "ytmeadnlmepcmbaagreat", sum := "1e98dd65fa16b350c47a478ac22a127f22c2dde4926c36a93482952f4e045964", func := "scionry/scionrylaw14.ForestTwice", spec := "forestTwice", inPlace := ["slices.overlaps[scionry/api.Item]"], unfollowed := true, recurses := true, apart := false }
def ForestTwiceSaid : Prop := forestTwiceRow.holds Tryz.pinned (OpenSpec.ofChange forestTwiceSpec)

/-- ITS FALSE NEIGHBOUR: 'it returns false'. Refute it at one input. -/
def forestTwiceWrong : ChangeSpec := { name := "forestTwice", fn := fun _ => fun
  | [d1, d2] => { results := [.lit (.bool false)], args := [d1, d2] }
  | _ => none }
def ForestTwiceWrongFalsely : Prop := forestTwiceRow.holds Tryz.pinned (OpenSpec.ofChange forestTwiceWrong)

/-- 'scionrylaw19.ReapEnds': WHATEVER THE INPUT: true; the input reads as it did. -/
def reapEndsSpec : ChangeSpec := { name := "reapEnds", fn := fun _ => fun
  | [d] => { results := [.lit (.bool true)], args := [d] }
  | _ => none }
def reapEndsRow : OpenClaim := { program := "ytmeadnlmepcmbaagreat", sum := "1e98dd65fa16b350c47a478ac22a127f22c2dde4926c36a93482952f4e045964", func := "scionry/scionrylaw19.ReapEnds", spec := "reapEnds", inPlace := ["slices.overlaps[scionry/api.Item]"], unfollowed := true, recurses := true, apart := false }
def ReapEndsSaid : Prop := reapEndsRow.holds Tryz.pinned (OpenSpec.ofChange reapEndsSpec)

/-- ITS FALSE NEIGHBOUR: 'it returns false'. Refute it at one input. -/
def reapEndsWrong : ChangeSpec := { name := "reapEnds", fn := fun _ => fun
  | [d] => { results := [.lit (.bool false)], args := [d] }
  | _ => none }
def ReapEndsWrongFalsely : Prop := reapEndsRow.holds Tryz.pinned (OpenSpec.ofChange reapEndsWrong)

/-- 'scionrylaw18.SnapFreezes': WHATEVER THE INPUT: true; the input reads as it did. -/
def snapFreezesSpec : ChangeSpec := { name := "snapFreezes", fn := fun _ => fun
  | [d1, d2, d3] => { results := [.lit (.bool true)], args := [d1, d2, d3] }
  | _ => none }
def snapFreezesRow : OpenClaim := { program := "ytmeadnlmepcmbaagreat", sum := "1e98dd65fa16b350c47a478ac22a127f22c2dde4926c36a93482952f4e045964", func := "scionry/scionrylaw18.SnapFreezes", spec := "snapFreezes", inPlace := ["slices.overlaps[scionry/api.Item]"], unfollowed := true, recurses := true, apart := false }
def SnapFreezesSaid : Prop := snapFreezesRow.holds Tryz.pinned (OpenSpec.ofChange snapFreezesSpec)

/-- ITS FALSE NEIGHBOUR: 'it returns false'. Refute it at one input. -/
def snapFreezesWrong : ChangeSpec := { name := "snapFreezes", fn := fun _ => fun
  | [d1, d2, d3] => { results := [.lit (.bool false)], args := [d1, d2, d3] }
  | _ => none }
def SnapFreezesWrongFalsely : Prop := snapFreezesRow.holds Tryz.pinned (OpenSpec.ofChange snapFreezesWrong)

/-- 'scionrylaw17.VolNames': WHATEVER THE INPUT: true; the input reads as it did. -/
def volNamesSpec : ChangeSpec := { name := "volNames", fn := fun _ => fun
  | [] => { results := [.lit (.bool true)], args := [] }
  | _ => none }
def volNamesRow : OpenClaim := { program := "ytmeadnlmepcmbaagreat", sum := "1e98dd65fa16b350c47a478ac22a127f22c2dde4926c36a93482952f4e045964", func := "scionry/scionrylaw17.VolNames", spec := "volNames", inPlace := ["slices.overlaps[scionry/api.Item]"], unfollowed := true, recurses := true, apart := false }
def VolNamesSaid : Prop := volNamesRow.holds Tryz.pinned (OpenSpec.ofChange volNamesSpec)

/-- ITS FALSE NEIGHBOUR: 'it returns false'. Refute it at one input. -/
def volNamesWrong : ChangeSpec := { name := "volNames", fn := fun _ => fun
  | [] => { results := [.lit (.bool false)], args := [] }
  | _ => none }
def VolNamesWrongFalsely : Prop := volNamesRow.holds Tryz.pinned (OpenSpec.ofChange volNamesWrong)

/-- 'scionrylaw19.ReapGone': WHATEVER THE INPUT: true; the input reads as it did. -/
def reapGoneSpec : ChangeSpec := { name := "reapGone", fn := fun _ => fun
  | [d1, d2] => { results := [.lit (.bool true)], args := [d1, d2] }
  | _ => none }
def reapGoneRow : OpenClaim := { program := "ytmeadnlmepcmbaagreat", sum := "1e98dd65fa16b350c47a478ac22a127f22c2dde4926c36a93482952f4e045964", func := "scionry/scionrylaw19.ReapGone", spec := "reapGone", inPlace := ["slices.overlaps[scionry/api.Item]"], unfollowed := true, recurses := true, apart := false }
def ReapGoneSaid : Prop := reapGoneRow.holds Tryz.pinned (OpenSpec.ofChange reapGoneSpec)

/-- ITS FALSE NEIGHBOUR: 'it returns false'. Refute it at one input. -/
def reapGoneWrong : ChangeSpec := { name := "reapGone", fn := fun _ => fun
  | [d1, d2] => { results := [.lit (.bool false)], args := [d1, d2] }
  | _ => none }
def ReapGoneWrongFalsely : Prop := reapGoneRow.holds Tryz.pinned (OpenSpec.ofChange reapGoneWrong)

/-- 'scionrylaw17.VolRefuses': WHATEVER THE INPUT: true; the input reads as it did. -/
def volRefusesSpec : ChangeSpec := { name := "volRefuses", fn := fun _ => fun
  | [d1, d2, d3, d4] => { results := [.lit (.bool true)], args := [d1, d2, d3, d4] }
  | _ => none }
def volRefusesRow : OpenClaim := { program := "ytmeadnlmepcmbaagreat", sum := "1e98dd65fa16b350c47a478ac22a127f22c2dde4926c36a93482952f4e045964", func := "scionry/scionrylaw17.VolRefuses", spec := "volRefuses", inPlace := ["slices.overlaps[scionry/api.Item]"], unfollowed := true, recurses := true, apart := false }
def VolRefusesSaid : Prop := volRefusesRow.holds Tryz.pinned (OpenSpec.ofChange volRefusesSpec)

/-- ITS FALSE NEIGHBOUR: 'it returns false'. Refute it at one input. -/
def volRefusesWrong : ChangeSpec := { name := "volRefuses", fn := fun _ => fun
  | [d1, d2, d3, d4] => { results := [.lit (.bool false)], args := [d1, d2, d3, d4] }
  | _ => none }
def VolRefusesWrongFalsely : Prop := volRefusesRow.holds Tryz.pinned (OpenSpec.ofChange volRefusesWrong)

/-- 'scionrylaw19.ReapFalls': WHATEVER THE INPUT: true; the input reads as it did. -/
def reapFallsSpec : ChangeSpec := { name := "reapFalls", fn := fun _ => fun
  | [d1, d2] => { results := [.lit (.bool true)], args := [d1, d2] }
  | _ => none }
def reapFallsRow : OpenClaim := { program := "ytmeadnlmepcmbaagreat", sum := "1e98dd65fa16b350c47a478ac22a127f22c2dde4926c36a93482952f4e045964", func := "scionry/scionrylaw19.ReapFalls", spec := "reapFalls", inPlace := ["slices.overlaps[scionry/api.Item]"], unfollowed := true, recurses := true, apart := false }
def ReapFallsSaid : Prop := reapFallsRow.holds Tryz.pinned (OpenSpec.ofChange reapFallsSpec)

/-- ITS FALSE NEIGHBOUR: 'it returns false'. Refute it at one input. -/
def reapFallsWrong : ChangeSpec := { name := "reapFalls", fn := fun _ => fun
  | [d1, d2] => { results := [.lit (.bool false)], args := [d1, d2] }
  | _ => none }
def ReapFallsWrongFalsely : Prop := reapFallsRow.holds Tryz.pinned (OpenSpec.ofChange reapFallsWrong)

/-- 'scionrylaw17.VolStays': WHATEVER THE INPUT: true; the input reads as it did. -/
def volStaysSpec : ChangeSpec := { name := "volStays", fn := fun _ => fun
  | [d1, d2, d3, d4] => { results := [.lit (.bool true)], args := [d1, d2, d3, d4] }
  | _ => none }
def volStaysRow : OpenClaim := { program := "ytmeadnlmepcmbaagreat", sum := "1e98dd65fa16b350c47a478ac22a127f22c2dde4926c36a93482952f4e045964", func := "scionry/scionrylaw17.VolStays", spec := "volStays", inPlace := ["slices.overlaps[scionry/api.Item]"], unfollowed := true, recurses := true, apart := false }
def VolStaysSaid : Prop := volStaysRow.holds Tryz.pinned (OpenSpec.ofChange volStaysSpec)

/-- ITS FALSE NEIGHBOUR: 'it returns false'. Refute it at one input. -/
def volStaysWrong : ChangeSpec := { name := "volStays", fn := fun _ => fun
  | [d1, d2, d3, d4] => { results := [.lit (.bool false)], args := [d1, d2, d3, d4] }
  | _ => none }
def VolStaysWrongFalsely : Prop := volStaysRow.holds Tryz.pinned (OpenSpec.ofChange volStaysWrong)

/-- 'scionrylaw17.VolHolds': WHATEVER THE INPUT: true; the input reads as it did. -/
def volHoldsSpec : ChangeSpec := { name := "volHolds", fn := fun _ => fun
  | [d1, d2, d3] => { results := [.lit (.bool true)], args := [d1, d2, d3] }
  | _ => none }
def volHoldsRow : OpenClaim := { program := "ytmeadnlmepcmbaagreat", sum := "1e98dd65fa16b350c47a478ac22a127f22c2dde4926c36a93482952f4e045964", func := "scionry/scionrylaw17.VolHolds", spec := "volHolds", inPlace := ["slices.overlaps[scionry/api.Item]"], unfollowed := true, recurses := true, apart := false }
def VolHoldsSaid : Prop := volHoldsRow.holds Tryz.pinned (OpenSpec.ofChange volHoldsSpec)

/-- ITS FALSE NEIGHBOUR: 'it returns false'. Refute it at one input. -/
def volHoldsWrong : ChangeSpec := { name := "volHolds", fn := fun _ => fun
  | [d1, d2, d3] => { results := [.lit (.bool false)], args := [d1, d2, d3] }
  | _ => none }
def VolHoldsWrongFalsely : Prop := volHoldsRow.holds Tryz.pinned (OpenSpec.ofChange volHoldsWrong)

/-- 'scionrylaw18.SnapStays': WHATEVER THE INPUT: true; the input reads as it did. -/
def snapStaysSpec : ChangeSpec := { name := "snapStays", fn := fun _ => fun
  | [d1, d2, d3, d4] => { results := [.lit (.bool true)], args := [d1, d2, d3, d4] }
  | _ => none }
def snapStaysRow : OpenClaim := { program := "ytmeadnlmepcmbaagreat", sum := "1e98dd65fa16b350c47a478ac22a127f22c2dde4926c36a93482952f4e045964", func := "scionry/scionrylaw18.SnapStays", spec := "snapStays", inPlace := ["slices.overlaps[scionry/api.Item]"], unfollowed := true, recurses := true, apart := false }
def SnapStaysSaid : Prop := snapStaysRow.holds Tryz.pinned (OpenSpec.ofChange snapStaysSpec)

/-- ITS FALSE NEIGHBOUR: 'it returns false'. Refute it at one input. -/
def snapStaysWrong : ChangeSpec := { name := "snapStays", fn := fun _ => fun
  | [d1, d2, d3, d4] => { results := [.lit (.bool false)], args := [d1, d2, d3, d4] }
  | _ => none }
def SnapStaysWrongFalsely : Prop := snapStaysRow.holds Tryz.pinned (OpenSpec.ofChange snapStaysWrong)

/-- 'scionrylaw31.CheckCalls': WHATEVER THE INPUT: true; the input reads as it did. -/
def checkCallsSpec : ChangeSpec := { name := "checkCalls", fn := fun _ => fun
  | [d1, d2, d3, d4, d5] => { results := [.lit (.bool true)], args := [d1, d2, d3, d4, d5] }
  | _ => none }
def checkCallsRow : OpenClaim := { program := "ytmeadnlmepcmbaagreat", sum := "1e98dd65fa16b350c47a478ac22a127f22c2dde4926c36a93482952f4e045964", func := "scionry/scionrylaw31.CheckCalls", spec := "checkCalls", inPlace := ["slices.overlaps[scionry/api.Item]"], unfollowed := true, recurses := true, apart := false }
def CheckCallsSaid : Prop := checkCallsRow.holds Tryz.pinned (OpenSpec.ofChange checkCallsSpec)

/-- ITS FALSE NEIGHBOUR: 'it returns false'. Refute it at one input. -/
def checkCallsWrong : ChangeSpec := { name := "checkCalls", fn := fun _ => fun
  | [d1, d2, d3, d4, d5] => { results := [.lit (.bool false)], args := [d1, d2, d3, d4, d5] }
  | _ => none }
def CheckCallsWrongFalsely : Prop := checkCallsRow.holds Tryz.pinned (OpenSpec.ofChange checkCallsWrong)

/-- 'scionrylaw17.VolUndoes': WHATEVER THE INPUT: true; the input reads as it did. -/
def volUndoesSpec : ChangeSpec := { name := "volUndoes", fn := fun _ => fun
  | [d1, d2, d3, d4] => { results := [.lit (.bool true)], args := [d1, d2, d3, d4] }
  | _ => none }
def volUndoesRow : OpenClaim := { program := "ytmeadnlmepcmbaagreat", sum := "1e98dd65fa16b350c47a478ac22a127f22c2dde4926c36a93482952f4e045964", func := "scionry/scionrylaw17.VolUndoes", spec := "volUndoes", inPlace := ["slices.overlaps[scionry/api.Item]"], unfollowed := true, recurses := true, apart := false }
def VolUndoesSaid : Prop := volUndoesRow.holds Tryz.pinned (OpenSpec.ofChange volUndoesSpec)

/-- ITS FALSE NEIGHBOUR: 'it returns false'. Refute it at one input. -/
def volUndoesWrong : ChangeSpec := { name := "volUndoes", fn := fun _ => fun
  | [d1, d2, d3, d4] => { results := [.lit (.bool false)], args := [d1, d2, d3, d4] }
  | _ => none }
def VolUndoesWrongFalsely : Prop := volUndoesRow.holds Tryz.pinned (OpenSpec.ofChange volUndoesWrong)

/- THE SECOND FORM. 'bulk': how many values and letters a reading holds, each counted each time it is reached (what is shared counts as often as it is met; a slice's spare places count too). A statement '..UptoSaid' is the law's where the arguments, and the package variables that the reading takes, are together of bulk at most 1048576: NARROWER than '..Said'. Prove '..Said' where nothing that the law and all that it calls make is longer than what came in: it says more and counts as full. Else prove '..UptoSaid'. A law counts once. -/
mutual
def uptoBulk {H : Type} : DataW H → Nat
  | .lit (.string bytes) => bytes.length + 1
  | .lit _ => 1
  | .nil => 1
  | .ptr d => uptoBulk d + 1
  | .slice elems spare => uptoBulkAll elems + uptoBulkAll spare + 1
  | .agg parts => uptoBulkAll parts + 1
  | .iface _ d => uptoBulk d + 1
  | .map entries => uptoBulkEntries entries + 1
  | .held _ => 1
def uptoBulkAll {H : Type} : List (DataW H) → Nat
  | [] => 0
  | d :: r => uptoBulk d + uptoBulkAll r
def uptoBulkEntries {H : Type} : List (Lit × DataW H) → Nat
  | [] => 0
  | x :: r => uptoBulkEntry x + uptoBulkEntries r
def uptoBulkEntry {H : Type} : Lit × DataW H → Nat
  | (.string bytes, d) => bytes.length + uptoBulk d + 1
  | (_, d) => uptoBulk d + 1
 end
def uptoSmall : (H : Type) → List (DataW H) → Bool := fun _ ds => decide (uptoBulkAll ds ≤ 1048576)
def OpenSpec.upto (s : _root_.Go.ChangeSpec) : _root_.Go.OpenSpec := { _root_.Go.OpenSpec.ofChange s with cond := some uptoSmall }

/-- 'scionrylaw14.ForestTwice', WHERE WHAT IT READS IS OF BULK AT MOST 1048576: true; the input reads as it did. -/
def forestTwiceUptoRow : OpenClaim := { program := "ytmeadnlmepcmbaagreat", sum := "1e98dd65fa16b350c47a478ac22a127f22c2dde4926c36a93482952f4e045964", func := "scionry/scionrylaw14.ForestTwice", spec := "forestTwice", inPlace := ["slices.overlaps[scionry/api.Item]"], unfollowed := true, recurses := true, apart := false, narrowed := true }
def ForestTwiceUptoSaid : Prop := forestTwiceUptoRow.holds Tryz.pinned (OpenSpec.upto forestTwiceSpec)

/-- 'scionrylaw19.ReapEnds', WHERE WHAT IT READS IS OF BULK AT MOST 1048576: true; the input reads as it did. -/
def reapEndsUptoRow : OpenClaim := { program := "ytmeadnlmepcmbaagreat", sum := "1e98dd65fa16b350c47a478ac22a127f22c2dde4926c36a93482952f4e045964", func := "scionry/scionrylaw19.ReapEnds", spec := "reapEnds", inPlace := ["slices.overlaps[scionry/api.Item]"], unfollowed := true, recurses := true, apart := false, narrowed := true }
def ReapEndsUptoSaid : Prop := reapEndsUptoRow.holds Tryz.pinned (OpenSpec.upto reapEndsSpec)

/-- 'scionrylaw18.SnapFreezes', WHERE WHAT IT READS IS OF BULK AT MOST 1048576: true; the input reads as it did. -/
def snapFreezesUptoRow : OpenClaim := { program := "ytmeadnlmepcmbaagreat", sum := "1e98dd65fa16b350c47a478ac22a127f22c2dde4926c36a93482952f4e045964", func := "scionry/scionrylaw18.SnapFreezes", spec := "snapFreezes", inPlace := ["slices.overlaps[scionry/api.Item]"], unfollowed := true, recurses := true, apart := false, narrowed := true }
def SnapFreezesUptoSaid : Prop := snapFreezesUptoRow.holds Tryz.pinned (OpenSpec.upto snapFreezesSpec)

/-- 'scionrylaw17.VolNames', WHERE WHAT IT READS IS OF BULK AT MOST 1048576: true; the input reads as it did. -/
def volNamesUptoRow : OpenClaim := { program := "ytmeadnlmepcmbaagreat", sum := "1e98dd65fa16b350c47a478ac22a127f22c2dde4926c36a93482952f4e045964", func := "scionry/scionrylaw17.VolNames", spec := "volNames", inPlace := ["slices.overlaps[scionry/api.Item]"], unfollowed := true, recurses := true, apart := false, narrowed := true }
def VolNamesUptoSaid : Prop := volNamesUptoRow.holds Tryz.pinned (OpenSpec.upto volNamesSpec)

/-- 'scionrylaw19.ReapGone', WHERE WHAT IT READS IS OF BULK AT MOST 1048576: true; the input reads as it did. -/
def reapGoneUptoRow : OpenClaim := { program := "ytmeadnlmepcmbaagreat", sum := "1e98dd65fa16b350c47a478ac22a127f22c2dde4926c36a93482952f4e045964", func := "scionry/scionrylaw19.ReapGone", spec := "reapGone", inPlace := ["slices.overlaps[scionry/api.Item]"], unfollowed := true, recurses := true, apart := false, narrowed := true }
def ReapGoneUptoSaid : Prop := reapGoneUptoRow.holds Tryz.pinned (OpenSpec.upto reapGoneSpec)

/-- 'scionrylaw17.VolRefuses', WHERE WHAT IT READS IS OF BULK AT MOST 1048576: true; the input reads as it did. -/
def volRefusesUptoRow : OpenClaim := { program := "ytmeadnlmepcmbaagreat", sum := "1e98dd65fa16b350c47a478ac22a127f22c2dde4926c36a93482952f4e045964", func := "scionry/scionrylaw17.VolRefuses", spec := "volRefuses", inPlace := ["slices.overlaps[scionry/api.Item]"], unfollowed := true, recurses := true, apart := false, narrowed := true }
def VolRefusesUptoSaid : Prop := volRefusesUptoRow.holds Tryz.pinned (OpenSpec.upto volRefusesSpec)

/-- 'scionrylaw19.ReapFalls', WHERE WHAT IT READS IS OF BULK AT MOST 1048576: true; the input reads as it did. -/
def reapFallsUptoRow : OpenClaim := { program := "ytmeadnlmepcmbaagreat", sum := "1e98dd65fa16b350c47a478ac22a127f22c2dde4926c36a93482952f4e045964", func := "scionry/scionrylaw19.ReapFalls", spec := "reapFalls", inPlace := ["slices.overlaps[scionry/api.Item]"], unfollowed := true, recurses := true, apart := false, narrowed := true }
def ReapFallsUptoSaid : Prop := reapFallsUptoRow.holds Tryz.pinned (OpenSpec.upto reapFallsSpec)

/-- 'scionrylaw17.VolStays', WHERE WHAT IT READS IS OF BULK AT MOST 1048576: true; the input reads as it did. -/
def volStaysUptoRow : OpenClaim := { program := "ytmeadnlmepcmbaagreat", sum := "1e98dd65fa16b350c47a478ac22a127f22c2dde4926c36a93482952f4e045964", func := "scionry/scionrylaw17.VolStays", spec := "volStays", inPlace := ["slices.overlaps[scionry/api.Item]"], unfollowed := true, recurses := true, apart := false, narrowed := true }
def VolStaysUptoSaid : Prop := volStaysUptoRow.holds Tryz.pinned (OpenSpec.upto volStaysSpec)

/-- 'scionrylaw17.VolHolds', WHERE WHAT IT READS IS OF BULK AT MOST 1048576: true; the input reads as it did. -/
def volHoldsUptoRow : OpenClaim := { program := "ytmeadnlmepcmbaagreat", sum := "1e98dd65fa16b350c47a478ac22a127f22c2dde4926c36a93482952f4e045964", func := "scionry/scionrylaw17.VolHolds", spec := "volHolds", inPlace := ["slices.overlaps[scionry/api.Item]"], unfollowed := true, recurses := true, apart := false, narrowed := true }
def VolHoldsUptoSaid : Prop := volHoldsUptoRow.holds Tryz.pinned (OpenSpec.upto volHoldsSpec)

/-- 'scionrylaw18.SnapStays', WHERE WHAT IT READS IS OF BULK AT MOST 1048576: true; the input reads as it did. -/
def snapStaysUptoRow : OpenClaim := { program := "ytmeadnlmepcmbaagreat", sum := "1e98dd65fa16b350c47a478ac22a127f22c2dde4926c36a93482952f4e045964", func := "scionry/scionrylaw18.SnapStays", spec := "snapStays", inPlace := ["slices.overlaps[scionry/api.Item]"], unfollowed := true, recurses := true, apart := false, narrowed := true }
def SnapStaysUptoSaid : Prop := snapStaysUptoRow.holds Tryz.pinned (OpenSpec.upto snapStaysSpec)

/-- 'scionrylaw31.CheckCalls', WHERE WHAT IT READS IS OF BULK AT MOST 1048576: true; the input reads as it did. -/
def checkCallsUptoRow : OpenClaim := { program := "ytmeadnlmepcmbaagreat", sum := "1e98dd65fa16b350c47a478ac22a127f22c2dde4926c36a93482952f4e045964", func := "scionry/scionrylaw31.CheckCalls", spec := "checkCalls", inPlace := ["slices.overlaps[scionry/api.Item]"], unfollowed := true, recurses := true, apart := false, narrowed := true }
def CheckCallsUptoSaid : Prop := checkCallsUptoRow.holds Tryz.pinned (OpenSpec.upto checkCallsSpec)

/-- 'scionrylaw17.VolUndoes', WHERE WHAT IT READS IS OF BULK AT MOST 1048576: true; the input reads as it did. -/
def volUndoesUptoRow : OpenClaim := { program := "ytmeadnlmepcmbaagreat", sum := "1e98dd65fa16b350c47a478ac22a127f22c2dde4926c36a93482952f4e045964", func := "scionry/scionrylaw17.VolUndoes", spec := "volUndoes", inPlace := ["slices.overlaps[scionry/api.Item]"], unfollowed := true, recurses := true, apart := false, narrowed := true }
def VolUndoesUptoSaid : Prop := volUndoesUptoRow.holds Tryz.pinned (OpenSpec.upto volUndoesSpec)

end Rows
end Go.Proofs.YtmeadnlmepcmbaaGreat
