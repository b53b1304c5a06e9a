/-
  No cell of these rows narrows 'for every input' (looked for: loops, veiled, ifaces, maps, wideKeys, modest, calm, conditions, laid).
  DERIVED. THE GIVEN ROWS OF THIS SEAT. 12 by the template 'for every input the law returns true; each argument reads behind the call as it read before'; 0 by the template 'total and deterministic' (their statements: YtpbniokljofedaaGreatTotals.lean).
  GIVEN WITH THE SEED: the statements are not yours to turn. If you find one false, say at which input.
  Laid BY PROGRAM, IN A SANDBOX (cutbox-rows.mjs): the forced cells as the released guide's own fill.sh prints them over the translation 779b9ff3c3602c9f… (all of the seat's roots in one cut). By AI agents, Wed Nov 11 2026. No macro, syntax, notation, axiom, sorry.
-/
import Derived.Test.YtpbniokljofedaaGreatChecked
import GoSem.Claim
import GoSem.ClaimJoined
import GoSem.ClaimMapViews
import Derived.JoinedTies
import Derived.KernelRfl
namespace Go.Proofs.YtpbniokljofedaaGreat
/- THE CELL 'sum', in the pinned program and in every row, IS THE sha256 OF THE DUMP (.gsa) THAT YtpbniokljofedaaGreatProg.lean LOADS. Nothing in Lean hashes anything: it is a label: what it is worth is what the hold of that sum in a sandbox is worth. -/
noncomputable def Tryz.pinned : Pinned := { name := "ytpbniokljofedaagreat", sum := "779b9ff3c3602c9f230899f8d22049fc82fbb2bde3a826e40b9fd79e8eca1008", checked := Tryz.checked }
namespace Rows
def none {H : Type} : Left H := { results := [], args := [] }

/-- 'scionrylaw14.ForestFinds': WHATEVER THE INPUT: true; the input reads as it did. -/
def forestFindsSpec : ChangeSpec := { name := "forestFinds", fn := fun _ => fun
  | [d1, d2] => { results := [.lit (.bool true)], args := [d1, d2] }
  | _ => none }
def forestFindsRow : OpenClaim := { program := "ytpbniokljofedaagreat", sum := "779b9ff3c3602c9f230899f8d22049fc82fbb2bde3a826e40b9fd79e8eca1008", func := "scionry/scionrylaw14.ForestFinds", spec := "forestFinds", inPlace := ["slices.overlaps[scionry/api.Item]"], unfollowed := true, recurses := true, apart := false }
def ForestFindsSaid : Prop := forestFindsRow.holds Tryz.pinned (OpenSpec.ofChange forestFindsSpec)

/-- ITS FALSE NEIGHBOUR: 'it returns false'. Refute it at one input. -/
def forestFindsWrong : ChangeSpec := { name := "forestFinds", fn := fun _ => fun
  | [d1, d2] => { results := [.lit (.bool false)], args := [d1, d2] }
  | _ => none }
def ForestFindsWrongFalsely : Prop := forestFindsRow.holds Tryz.pinned (OpenSpec.ofChange forestFindsWrong)

/-- 'scionrylaw14.ForestCounts': WHATEVER THE INPUT: true; the input reads as it did. -/
def forestCountsSpec : ChangeSpec := { name := "forestCounts", fn := fun _ => fun
  | [d] => { results := [.lit (.bool true)], args := [d] }
  | _ => none }
def forestCountsRow : OpenClaim := { program := "ytpbniokljofedaagreat", sum := "779b9ff3c3602c9f230899f8d22049fc82fbb2bde3a826e40b9fd79e8eca1008", func := "scionry/scionrylaw14.ForestCounts", spec := "forestCounts", inPlace := ["slices.overlaps[scionry/api.Item]"], unfollowed := true, recurses := true, apart := false }
def ForestCountsSaid : Prop := forestCountsRow.holds Tryz.pinned (OpenSpec.ofChange forestCountsSpec)

/-- ITS FALSE NEIGHBOUR: 'it returns false'. Refute it at one input. -/
def forestCountsWrong : ChangeSpec := { name := "forestCounts", fn := fun _ => fun
  | [d] => { results := [.lit (.bool false)], args := [d] }
  | _ => none }
def ForestCountsWrongFalsely : Prop := forestCountsRow.holds Tryz.pinned (OpenSpec.ofChange forestCountsWrong)

/-- 'scionrylaw14.ForestNames': WHATEVER THE INPUT: true; the input reads as it did. -/
def forestNamesSpec : ChangeSpec := { name := "forestNames", fn := fun _ => fun
  | [] => { results := [.lit (.bool true)], args := [] }
  | _ => none }
def forestNamesRow : OpenClaim := { program := "ytpbniokljofedaagreat", sum := "779b9ff3c3602c9f230899f8d22049fc82fbb2bde3a826e40b9fd79e8eca1008", func := "scionry/scionrylaw14.ForestNames", spec := "forestNames", inPlace := ["slices.overlaps[scionry/api.Item]"], unfollowed := true, recurses := true, apart := false }
def ForestNamesSaid : Prop := forestNamesRow.holds Tryz.pinned (OpenSpec.ofChange forestNamesSpec)

/-- ITS FALSE NEIGHBOUR: 'it returns false'. Refute it at one input. -/
def forestNamesWrong : ChangeSpec := { name := "forestNames", fn := fun _ => fun
  | [] => { results := [.lit (.bool false)], args := [] }
  | _ => none }
def ForestNamesWrongFalsely : Prop := forestNamesRow.holds Tryz.pinned (OpenSpec.ofChange forestNamesWrong)

/-- 'scionrylaw14.ForestTwice': WHATEVER THE INPUT: true; the input reads as it did. -/
def forestTwiceSpec : ChangeSpec := { name := "forestTwice", fn := fun _ => fun
  | [d1, d2] => { results := [.lit (.bool true)], args := [d1, d2] }
  | _ => none }
def forestTwiceRow : OpenClaim := { program := "ytpbniokljofedaagreat", sum := "779b9ff3c3602c9f230899f8d22049fc82fbb2bde3a826e40b9fd79e8eca1008", func := "scionry/scionrylaw14.ForestTwice", spec := "forestTwice", inPlace := ["slices.overlaps[scionry/api.Item]"], unfollowed := true, recurses := true, apart := false }
def ForestTwiceSaid : Prop := forestTwiceRow.holds Tryz.pinned (OpenSpec.ofChange forestTwiceSpec)

/-- ITS FALSE NEIGHBOUR: 'it returns false'. Refute it at one input. -/
def forestTwiceWrong : ChangeSpec := { name := "forestTwice", fn := fun _ => fun
  | [d1, d2] => { results := [.lit (.bool false)], args := [d1, d2] }
  | _ => none }
def ForestTwiceWrongFalsely : Prop := forestTwiceRow.holds Tryz.pinned (OpenSpec.ofChange forestTwiceWrong)

/-- 'scionrylaw18.SnapFew': WHATEVER THE INPUT: true; the input reads as it did. -/
def snapFewSpec : ChangeSpec := { name := "snapFew", fn := fun _ => fun
  | [d1, d2, d3] => { results := [.lit (.bool true)], args := [d1, d2, d3] }
  | _ => none }
def snapFewRow : OpenClaim := { program := "ytpbniokljofedaagreat", sum := "779b9ff3c3602c9f230899f8d22049fc82fbb2bde3a826e40b9fd79e8eca1008", func := "scionry/scionrylaw18.SnapFew", spec := "snapFew", inPlace := ["slices.overlaps[scionry/api.Item]"], unfollowed := true, recurses := true, apart := false }
def SnapFewSaid : Prop := snapFewRow.holds Tryz.pinned (OpenSpec.ofChange snapFewSpec)

/-- ITS FALSE NEIGHBOUR: 'it returns false'. Refute it at one input. -/
def snapFewWrong : ChangeSpec := { name := "snapFew", fn := fun _ => fun
  | [d1, d2, d3] => { results := [.lit (.bool false)], args := [d1, d2, d3] }
  | _ => none }
def SnapFewWrongFalsely : Prop := snapFewRow.holds Tryz.pinned (OpenSpec.ofChange snapFewWrong)

/-- 'scionrylaw18.SnapNames': WHATEVER THE INPUT: true; the input reads as it did. -/
def snapNamesSpec : ChangeSpec := { name := "snapNames", fn := fun _ => fun
  | [] => { results := [.lit (.bool true)], args := [] }
  | _ => none }
def snapNamesRow : OpenClaim := { program := "ytpbniokljofedaagreat", sum := "779b9ff3c3602c9f230899f8d22049fc82fbb2bde3a826e40b9fd79e8eca1008", func := "scionry/scionrylaw18.SnapNames", spec := "snapNames", inPlace := ["slices.overlaps[scionry/api.Item]"], unfollowed := true, recurses := true, apart := false }
def SnapNamesSaid : Prop := snapNamesRow.holds Tryz.pinned (OpenSpec.ofChange snapNamesSpec)

/-- ITS FALSE NEIGHBOUR: 'it returns false'. Refute it at one input. -/
def snapNamesWrong : ChangeSpec := { name := "snapNames", fn := fun _ => fun
  | [] => { results := [.lit (.bool false)], args := [] }
  | _ => none }
def SnapNamesWrongFalsely : Prop := snapNamesRow.holds Tryz.pinned (OpenSpec.ofChange snapNamesWrong)

/-- 'scionrylaw19.ReapNames': WHATEVER THE INPUT: true; the input reads as it did. -/
def reapNamesSpec : ChangeSpec := { name := "reapNames", fn := fun _ => fun
  | [] => { results := [.lit (.bool true)], args := [] }
  | _ => none }
def reapNamesRow : OpenClaim := { program := "ytpbniokljofedaagreat", sum := "779b9ff3c3602c9f230899f8d22049fc82fbb2bde3a826e40b9fd79e8eca1008", func := "scionry/scionrylaw19.ReapNames", spec := "reapNames", inPlace := ["slices.overlaps[scionry/api.Item]"], unfollowed := true, recurses := true, apart := false }
def ReapNamesSaid : Prop := reapNamesRow.holds Tryz.pinned (OpenSpec.ofChange reapNamesSpec)

/-- ITS FALSE NEIGHBOUR: 'it returns false'. Refute it at one input. -/
def reapNamesWrong : ChangeSpec := { name := "reapNames", fn := fun _ => fun
  | [] => { results := [.lit (.bool false)], args := [] }
  | _ => none }
def ReapNamesWrongFalsely : Prop := reapNamesRow.holds Tryz.pinned (OpenSpec.ofChange reapNamesWrong)

/-- 'scionrylaw18.SnapChain': WHATEVER THE INPUT: true; the input reads as it did. -/
def snapChainSpec : ChangeSpec := { name := "snapChain", fn := fun _ => fun
  | [d1, d2, d3] => { results := [.lit (.bool true)], args := [d1, d2, d3] }
  | _ => none }
def snapChainRow : OpenClaim := { program := "ytpbniokljofedaagreat", sum := "779b9ff3c3602c9f230899f8d22049fc82fbb2bde3a826e40b9fd79e8eca1008", func := "scionry/scionrylaw18.SnapChain", spec := "snapChain", inPlace := ["slices.overlaps[scionry/api.Item]"], unfollowed := true, recurses := true, apart := false }
def SnapChainSaid : Prop := snapChainRow.holds Tryz.pinned (OpenSpec.ofChange snapChainSpec)

/-- ITS FALSE NEIGHBOUR: 'it returns false'. Refute it at one input. -/
def snapChainWrong : ChangeSpec := { name := "snapChain", fn := fun _ => fun
  | [d1, d2, d3] => { results := [.lit (.bool false)], args := [d1, d2, d3] }
  | _ => none }
def SnapChainWrongFalsely : Prop := snapChainRow.holds Tryz.pinned (OpenSpec.ofChange snapChainWrong)

/-- 'scionrylaw19.ReapSteps': WHATEVER THE INPUT: true; the input reads as it did. -/
def reapStepsSpec : ChangeSpec := { name := "reapSteps", fn := fun _ => fun
  | [d] => { results := [.lit (.bool true)], args := [d] }
  | _ => none }
def reapStepsRow : OpenClaim := { program := "ytpbniokljofedaagreat", sum := "779b9ff3c3602c9f230899f8d22049fc82fbb2bde3a826e40b9fd79e8eca1008", func := "scionry/scionrylaw19.ReapSteps", spec := "reapSteps", inPlace := ["slices.overlaps[scionry/api.Item]"], unfollowed := true, recurses := true, apart := false }
def ReapStepsSaid : Prop := reapStepsRow.holds Tryz.pinned (OpenSpec.ofChange reapStepsSpec)

/-- ITS FALSE NEIGHBOUR: 'it returns false'. Refute it at one input. -/
def reapStepsWrong : ChangeSpec := { name := "reapSteps", fn := fun _ => fun
  | [d] => { results := [.lit (.bool false)], args := [d] }
  | _ => none }
def ReapStepsWrongFalsely : Prop := reapStepsRow.holds Tryz.pinned (OpenSpec.ofChange reapStepsWrong)

/-- 'scionrylaw19.ReapEnds': WHATEVER THE INPUT: true; the input reads as it did. -/
def reapEndsSpec : ChangeSpec := { name := "reapEnds", fn := fun _ => fun
  | [d] => { results := [.lit (.bool true)], args := [d] }
  | _ => none }
def reapEndsRow : OpenClaim := { program := "ytpbniokljofedaagreat", sum := "779b9ff3c3602c9f230899f8d22049fc82fbb2bde3a826e40b9fd79e8eca1008", func := "scionry/scionrylaw19.ReapEnds", spec := "reapEnds", inPlace := ["slices.overlaps[scionry/api.Item]"], unfollowed := true, recurses := true, apart := false }
def ReapEndsSaid : Prop := reapEndsRow.holds Tryz.pinned (OpenSpec.ofChange reapEndsSpec)

/-- ITS FALSE NEIGHBOUR: 'it returns false'. Refute it at one input. -/
def reapEndsWrong : ChangeSpec := { name := "reapEnds", fn := fun _ => fun
  | [d] => { results := [.lit (.bool false)], args := [d] }
  | _ => none }
def ReapEndsWrongFalsely : Prop := reapEndsRow.holds Tryz.pinned (OpenSpec.ofChange reapEndsWrong)

/-- 'scionrylaw18.SnapFreezes': WHATEVER THE INPUT: true; the input reads as it did. -/
def snapFreezesSpec : ChangeSpec := { name := "snapFreezes", fn := fun _ => fun
  | [d1, d2, d3] => { results := [.lit (.bool true)], args := [d1, d2, d3] }
  | _ => none }
def snapFreezesRow : OpenClaim := { program := "ytpbniokljofedaagreat", sum := "779b9ff3c3602c9f230899f8d22049fc82fbb2bde3a826e40b9fd79e8eca1008", func := "scionry/scionrylaw18.SnapFreezes", spec := "snapFreezes", inPlace := ["slices.overlaps[scionry/api.Item]"], unfollowed := true, recurses := true, apart := false }
def SnapFreezesSaid : Prop := snapFreezesRow.holds Tryz.pinned (OpenSpec.ofChange snapFreezesSpec)

/-- ITS FALSE NEIGHBOUR: 'it returns false'. Refute it at one input. -/
def snapFreezesWrong : ChangeSpec := { name := "snapFreezes", fn := fun _ => fun
  | [d1, d2, d3] => { results := [.lit (.bool false)], args := [d1, d2, d3] }
  | _ => none }
def SnapFreezesWrongFalsely : Prop := snapFreezesRow.holds Tryz.pinned (OpenSpec.ofChange snapFreezesWrong)

/-- 'scionrylaw19.ReapGone': WHATEVER THE INPUT: true; the input reads as it did. -/
def reapGoneSpec : ChangeSpec := { name := "reapGone", fn := fun _ => fun
  | [d1, d2] => { results := [.lit (.bool true)], args := [d1, d2] }
  | _ => none }
def reapGoneRow : OpenClaim := { program := "ytpbniokljofedaagreat", sum := "779b9ff3c3602c9f230899f8d22049fc82fbb2bde3a826e40b9fd79e8eca1008", func := "scionry/scionrylaw19.ReapGone", spec := "reapGone", inPlace := ["slices.overlaps[scionry/api.Item]"], unfollowed := true, recurses := true, apart := false }
def ReapGoneSaid : Prop := reapGoneRow.holds Tryz.pinned (OpenSpec.ofChange reapGoneSpec)

/-- ITS FALSE NEIGHBOUR: 'it returns false'. Refute it at one input. -/
def reapGoneWrong : ChangeSpec := { name := "reapGone", fn := fun _ => fun
  | [d1, d2] => { results := [.lit (.bool false)], args := [d1, d2] }
  | _ => none }
def ReapGoneWrongFalsely : Prop := reapGoneRow.holds Tryz.pinned (OpenSpec.ofChange reapGoneWrong)

/- THE SECOND FORM. 'bulk': how many values and letters a reading holds, each counted each time it is reached (what is shared counts as often as it is met; a slice's spare places count too). A statement '..UptoSaid' is the law's where the arguments, and the package variables that the reading takes, are together of bulk at most 1048576: NARROWER than '..Said'. Prove '..Said' where nothing that the law and all that it calls make is longer than what came in: it says more and counts as full. Else prove '..UptoSaid'. A law counts once. -/
mutual
def uptoBulk {H : Type} : DataW H → Nat
  | .lit (.string bytes) => bytes.length + 1
  | .lit _ => 1
  | .nil => 1
  | .ptr d => uptoBulk d + 1
  | .slice elems spare => uptoBulkAll elems + uptoBulkAll spare + 1
  | .agg parts => uptoBulkAll parts + 1
  | .iface _ d => uptoBulk d + 1
  | .map entries => uptoBulkEntries entries + 1
  | .held _ => 1
def uptoBulkAll {H : Type} : List (DataW H) → Nat
  | [] => 0
  | d :: r => uptoBulk d + uptoBulkAll r
def uptoBulkEntries {H : Type} : List (Lit × DataW H) → Nat
  | [] => 0
  | x :: r => uptoBulkEntry x + uptoBulkEntries r
def uptoBulkEntry {H : Type} : Lit × DataW H → Nat
  | (.string bytes, d) => bytes.length + uptoBulk d + 1
  | (_, d) => uptoBulk d + 1
 end
def uptoSmall : (H : Type) → List (DataW H) → Bool := fun _ ds => decide (uptoBulkAll ds ≤ 1048576)
def OpenSpec.upto (s : _root_.Go.ChangeSpec) : _root_.Go.OpenSpec := { _root_.Go.OpenSpec.ofChange s with cond := some uptoSmall }

/-- 'scionrylaw14.ForestFinds', WHERE WHAT IT READS IS OF BULK AT MOST 1048576: true; the input reads as it did. -/
def forestFindsUptoRow : OpenClaim := { program := "ytpbniokljofedaagreat", sum := "779b9ff3c3602c9f230899f8d22049fc82fbb2bde3a826e40b9fd79e8eca1008", func := "scionry/scionrylaw14.ForestFinds", spec := "forestFinds", inPlace := ["slices.overlaps[scionry/api.Item]"], unfollowed := true, recurses := true, apart := false, narrowed := true }
def ForestFindsUptoSaid : Prop := forestFindsUptoRow.holds Tryz.pinned (OpenSpec.upto forestFindsSpec)

/-- 'scionrylaw14.ForestCounts', WHERE WHAT IT READS IS OF BULK AT MOST 1048576: true; the input reads as it did. -/
def forestCountsUptoRow : OpenClaim := { program := "ytpbniokljofedaagreat", sum := "779b9ff3c3602c9f230899f8d22049fc82fbb2bde3a826e40b9fd79e8eca1008", func := "scionry/scionrylaw14.ForestCounts", spec := "forestCounts", inPlace := ["slices.overlaps[scionry/api.Item]"], unfollowed := true, recurses := true, apart := false, narrowed := true }
def ForestCountsUptoSaid : Prop := forestCountsUptoRow.holds Tryz.pinned (OpenSpec.upto forestCountsSpec)

/-- 'scionrylaw14.ForestNames', WHERE WHAT IT READS IS OF BULK AT MOST 1048576: true; the input reads as it did. -/
def forestNamesUptoRow : OpenClaim := { program := "ytpbniokljofedaagreat", sum := "779b9ff3c3602c9f230899f8d22049fc82fbb2bde3a826e40b9fd79e8eca1008", func := "scionry/scionrylaw14.ForestNames", spec := "forestNames", inPlace := ["slices.overlaps[scionry/api.Item]"], unfollowed := true, recurses := true, apart := false, narrowed := true }
def ForestNamesUptoSaid : Prop := forestNamesUptoRow.holds Tryz.pinned (OpenSpec.upto forestNamesSpec)

/-- 'scionrylaw14.ForestTwice', WHERE WHAT IT READS IS OF BULK AT MOST 1048576: true; the input reads as it did. -/
def forestTwiceUptoRow : OpenClaim := { program := "ytpbniokljofedaagreat", sum := "779b9ff3c3602c9f230899f8d22049fc82fbb2bde3a826e40b9fd79e8eca1008", func := "scionry/scionrylaw14.ForestTwice", spec := "forestTwice", inPlace := ["slices.overlaps[scionry/api.Item]"], unfollowed := true, recurses := true, apart := false, narrowed := true }
def ForestTwiceUptoSaid : Prop := forestTwiceUptoRow.holds Tryz.pinned (OpenSpec.upto forestTwiceSpec)

/-- 'scionrylaw18.SnapFew', WHERE WHAT IT READS IS OF BULK AT MOST 1048576: true; the input reads as it did. -/
def snapFewUptoRow : OpenClaim := { program := "ytpbniokljofedaagreat", sum := "779b9ff3c3602c9f230899f8d22049fc82fbb2bde3a826e40b9fd79e8eca1008", func := "scionry/scionrylaw18.SnapFew", spec := "snapFew", inPlace := ["slices.overlaps[scionry/api.Item]"], unfollowed := true, recurses := true, apart := false, narrowed := true }
def SnapFewUptoSaid : Prop := snapFewUptoRow.holds Tryz.pinned (OpenSpec.upto snapFewSpec)

/-- 'scionrylaw18.SnapNames', WHERE WHAT IT READS IS OF BULK AT MOST 1048576: true; the input reads as it did. -/
def snapNamesUptoRow : OpenClaim := { program := "ytpbniokljofedaagreat", sum := "779b9ff3c3602c9f230899f8d22049fc82fbb2bde3a826e40b9fd79e8eca1008", func := "scionry/scionrylaw18.SnapNames", spec := "snapNames", inPlace := ["slices.overlaps[scionry/api.Item]"], unfollowed := true, recurses := true, apart := false, narrowed := true }
def SnapNamesUptoSaid : Prop := snapNamesUptoRow.holds Tryz.pinned (OpenSpec.upto snapNamesSpec)

/-- 'scionrylaw19.ReapNames', WHERE WHAT IT READS IS OF BULK AT MOST 1048576: true; the input reads as it did. -/
def reapNamesUptoRow : OpenClaim := { program := "ytpbniokljofedaagreat", sum := "779b9ff3c3602c9f230899f8d22049fc82fbb2bde3a826e40b9fd79e8eca1008", func := "scionry/scionrylaw19.ReapNames", spec := "reapNames", inPlace := ["slices.overlaps[scionry/api.Item]"], unfollowed := true, recurses := true, apart := false, narrowed := true }
def ReapNamesUptoSaid : Prop := reapNamesUptoRow.holds Tryz.pinned (OpenSpec.upto reapNamesSpec)

/-- 'scionrylaw18.SnapChain', WHERE WHAT IT READS IS OF BULK AT MOST 1048576: true; the input reads as it did. -/
def snapChainUptoRow : OpenClaim := { program := "ytpbniokljofedaagreat", sum := "779b9ff3c3602c9f230899f8d22049fc82fbb2bde3a826e40b9fd79e8eca1008", func := "scionry/scionrylaw18.SnapChain", spec := "snapChain", inPlace := ["slices.overlaps[scionry/api.Item]"], unfollowed := true, recurses := true, apart := false, narrowed := true }
def SnapChainUptoSaid : Prop := snapChainUptoRow.holds Tryz.pinned (OpenSpec.upto snapChainSpec)

/-- 'scionrylaw19.ReapSteps', WHERE WHAT IT READS IS OF BULK AT MOST 1048576: true; the input reads as it did. -/
def reapStepsUptoRow : OpenClaim := { program := "ytpbniokljofedaagreat", sum := "779b9ff3c3602c9f230899f8d22049fc82fbb2bde3a826e40b9fd79e8eca1008", func := "scionry/scionrylaw19.ReapSteps", spec := "reapSteps", inPlace := ["slices.overlaps[scionry/api.Item]"], unfollowed := true, recurses := true, apart := false, narrowed := true }
def ReapStepsUptoSaid : Prop := reapStepsUptoRow.holds Tryz.pinned (OpenSpec.upto reapStepsSpec)

/-- 'scionrylaw19.ReapEnds', WHERE WHAT IT READS IS OF BULK AT MOST 1048576: true; the input reads as it did. -/
def reapEndsUptoRow : OpenClaim := { program := "ytpbniokljofedaagreat", sum := "779b9ff3c3602c9f230899f8d22049fc82fbb2bde3a826e40b9fd79e8eca1008", func := "scionry/scionrylaw19.ReapEnds", spec := "reapEnds", inPlace := ["slices.overlaps[scionry/api.Item]"], unfollowed := true, recurses := true, apart := false, narrowed := true }
def ReapEndsUptoSaid : Prop := reapEndsUptoRow.holds Tryz.pinned (OpenSpec.upto reapEndsSpec)

/-- 'scionrylaw18.SnapFreezes', WHERE WHAT IT READS IS OF BULK AT MOST 1048576: true; the input reads as it did. -/
def snapFreezesUptoRow : OpenClaim := { program := "ytpbniokljofedaagreat", sum := "779b9ff3c3602c9f230899f8d22049fc82fbb2bde3a826e40b9fd79e8eca1008", func := "scionry/scionrylaw18.SnapFreezes", spec := "snapFreezes", inPlace := ["slices.overlaps[scionry/api.Item]"], unfollowed := true, recurses := true, apart := false, narrowed := true }
def SnapFreezesUptoSaid : Prop := snapFreezesUptoRow.holds Tryz.pinned (OpenSpec.upto snapFreezesSpec)

/-- 'scionrylaw19.ReapGone', WHERE WHAT IT READS IS OF BULK AT MOST 1048576: true; the input reads as it did. -/
def reapGoneUptoRow : OpenClaim := { program := "ytpbniokljofedaagreat", sum := "779b9ff3c3602c9f230899f8d22049fc82fbb2bde3a826e40b9fd79e8eca1008", func := "scionry/scionrylaw19.ReapGone", spec := "reapGone", inPlace := ["slices.overlaps[scionry/api.Item]"], unfollowed := true, recurses := true, apart := false, narrowed := true }
def ReapGoneUptoSaid : Prop := reapGoneUptoRow.holds Tryz.pinned (OpenSpec.upto reapGoneSpec)

end Rows
end Go.Proofs.YtpbniokljofedaaGreat
