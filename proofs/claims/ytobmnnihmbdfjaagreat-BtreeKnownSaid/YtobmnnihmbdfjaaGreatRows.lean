/-
  No cell of these rows narrows 'for every input' (looked for: loops, veiled, ifaces, maps, wideKeys, modest, calm, conditions, laid).
  DERIVED. THE GIVEN ROWS OF THIS SEAT. 9 by the template 'for every input the law returns true; each argument reads behind the call as it read before'; 0 by the template 'total and deterministic' (their statements: YtobmnnihmbdfjaaGreatTotals.lean).
  GIVEN WITH THE SEED: the statements are not yours to turn. If you find one false, say at which input.
  Laid BY PROGRAM, IN A SANDBOX (cutbox-rows.mjs): the forced cells as the released guide's own fill.sh prints them over the translation d2b5f4506d733d72… (all of the seat's roots in one cut). By AI agents, Wed Nov 11 2026. No macro, syntax, notation, axiom, sorry.
-/
import Derived.Test.YtobmnnihmbdfjaaGreatChecked
import GoSem.Claim
import GoSem.ClaimJoined
import GoSem.ClaimMapViews
import Derived.JoinedTies
import Derived.KernelRfl
namespace Go.Proofs.YtobmnnihmbdfjaaGreat
/- THE CELL 'sum', in the pinned program and in every row, IS THE sha256 OF THE DUMP (.gsa) THAT YtobmnnihmbdfjaaGreatProg.lean LOADS. Nothing in Lean hashes anything: it is a label: what it is worth is what the hold of that sum in a sandbox is worth. -/
noncomputable def Tryz.pinned : Pinned := { name := "ytobmnnihmbdfjaagreat", sum := "d2b5f4506d733d72de7691bf99ff215eb0cbce303f845e6f686b0f17f1df800a", checked := Tryz.checked }
namespace Rows
def none {H : Type} : Left H := { results := [], args := [] }

/-- 'counterfoillaw12.BtreeOrders': WHATEVER THE INPUT: true; the input reads as it did. -/
def btreeOrdersSpec : ChangeSpec := { name := "btreeOrders", fn := fun _ => fun
  | [d1, d2] => { results := [.lit (.bool true)], args := [d1, d2] }
  | _ => none }
def btreeOrdersRow : OpenClaim := { program := "ytobmnnihmbdfjaagreat", sum := "d2b5f4506d733d72de7691bf99ff215eb0cbce303f845e6f686b0f17f1df800a", func := "counterfoil/counterfoillaw12.BtreeOrders", spec := "btreeOrders", inPlace := ["internal/abi.NoEscape", "internal/bytealg.MakeNoZero", "slices.overlaps[counterfoil/api.Cell]"], unfollowed := true, recurses := true, apart := false }
def BtreeOrdersSaid : Prop := btreeOrdersRow.holds Tryz.pinned (OpenSpec.ofChange btreeOrdersSpec)

/-- ITS FALSE NEIGHBOUR: 'it returns false'. Refute it at one input. -/
def btreeOrdersWrong : ChangeSpec := { name := "btreeOrders", fn := fun _ => fun
  | [d1, d2] => { results := [.lit (.bool false)], args := [d1, d2] }
  | _ => none }
def BtreeOrdersWrongFalsely : Prop := btreeOrdersRow.holds Tryz.pinned (OpenSpec.ofChange btreeOrdersWrong)

/-- 'counterfoillaw06.PagerPlays': WHATEVER THE INPUT: true; the input reads as it did. -/
def pagerPlaysSpec : ChangeSpec := { name := "pagerPlays", fn := fun _ => fun
  | [d] => { results := [.lit (.bool true)], args := [d] }
  | _ => none }
def pagerPlaysRow : OpenClaim := { program := "ytobmnnihmbdfjaagreat", sum := "d2b5f4506d733d72de7691bf99ff215eb0cbce303f845e6f686b0f17f1df800a", func := "counterfoil/counterfoillaw06.PagerPlays", spec := "pagerPlays", inPlace := ["internal/abi.NoEscape", "internal/bytealg.MakeNoZero", "maps.clone"], unfollowed := true, recurses := true, apart := false }
def PagerPlaysSaid : Prop := pagerPlaysRow.holds Tryz.pinned (OpenSpec.ofChange pagerPlaysSpec)

/-- ITS FALSE NEIGHBOUR: 'it returns false'. Refute it at one input. -/
def pagerPlaysWrong : ChangeSpec := { name := "pagerPlays", fn := fun _ => fun
  | [d] => { results := [.lit (.bool false)], args := [d] }
  | _ => none }
def PagerPlaysWrongFalsely : Prop := pagerPlaysRow.holds Tryz.pinned (OpenSpec.ofChange pagerPlaysWrong)

/-- 'counterfoillaw12.BtreeFrom': WHATEVER THE INPUT: true; the input reads as it did. -/
def btreeFromSpec : ChangeSpec := { name := "btreeFrom", fn := fun _ => fun
  | [d1, d2, d3] => { results := [.lit (.bool true)], args := [d1, d2, d3] }
  | _ => none }
def btreeFromRow : OpenClaim := { program := "ytobmnnihmbdfjaagreat", sum := "d2b5f4506d733d72de7691bf99ff215eb0cbce303f845e6f686b0f17f1df800a", func := "counterfoil/counterfoillaw12.BtreeFrom", spec := "btreeFrom", inPlace := ["internal/abi.NoEscape", "internal/bytealg.MakeNoZero", "slices.overlaps[counterfoil/api.Cell]"], unfollowed := true, recurses := true, apart := false }
def BtreeFromSaid : Prop := btreeFromRow.holds Tryz.pinned (OpenSpec.ofChange btreeFromSpec)

/-- ITS FALSE NEIGHBOUR: 'it returns false'. Refute it at one input. -/
def btreeFromWrong : ChangeSpec := { name := "btreeFrom", fn := fun _ => fun
  | [d1, d2, d3] => { results := [.lit (.bool false)], args := [d1, d2, d3] }
  | _ => none }
def BtreeFromWrongFalsely : Prop := btreeFromRow.holds Tryz.pinned (OpenSpec.ofChange btreeFromWrong)

/-- 'counterfoillaw12.BtreeKnown': WHATEVER THE INPUT: true; the input reads as it did. -/
def btreeKnownSpec : ChangeSpec := { name := "btreeKnown", fn := fun _ => fun
  | [] => { results := [.lit (.bool true)], args := [] }
  | _ => none }
def btreeKnownRow : OpenClaim := { program := "ytobmnnihmbdfjaagreat", sum := "d2b5f4506d733d72de7691bf99ff215eb0cbce303f845e6f686b0f17f1df800a", func := "counterfoil/counterfoillaw12.BtreeKnown", spec := "btreeKnown", inPlace := ["internal/abi.NoEscape", "internal/bytealg.MakeNoZero", "slices.overlaps[counterfoil/api.Cell]"], unfollowed := true, recurses := true, apart := false }
def BtreeKnownSaid : Prop := btreeKnownRow.holds Tryz.pinned (OpenSpec.ofChange btreeKnownSpec)

/-- ITS FALSE NEIGHBOUR: 'it returns false'. Refute it at one input. -/
def btreeKnownWrong : ChangeSpec := { name := "btreeKnown", fn := fun _ => fun
  | [] => { results := [.lit (.bool false)], args := [] }
  | _ => none }
def BtreeKnownWrongFalsely : Prop := btreeKnownRow.holds Tryz.pinned (OpenSpec.ofChange btreeKnownWrong)

/-- 'counterfoillaw11.SpaceEnds': WHATEVER THE INPUT: true; the input reads as it did. -/
def spaceEndsSpec : ChangeSpec := { name := "spaceEnds", fn := fun _ => fun
  | [d1, d2] => { results := [.lit (.bool true)], args := [d1, d2] }
  | _ => none }
def spaceEndsRow : OpenClaim := { program := "ytobmnnihmbdfjaagreat", sum := "d2b5f4506d733d72de7691bf99ff215eb0cbce303f845e6f686b0f17f1df800a", func := "counterfoil/counterfoillaw11.SpaceEnds", spec := "spaceEnds", inPlace := ["internal/abi.NoEscape", "internal/bytealg.MakeNoZero", "maps.clone"], unfollowed := true, recurses := true, apart := false }
def SpaceEndsSaid : Prop := spaceEndsRow.holds Tryz.pinned (OpenSpec.ofChange spaceEndsSpec)

/-- ITS FALSE NEIGHBOUR: 'it returns false'. Refute it at one input. -/
def spaceEndsWrong : ChangeSpec := { name := "spaceEnds", fn := fun _ => fun
  | [d1, d2] => { results := [.lit (.bool false)], args := [d1, d2] }
  | _ => none }
def SpaceEndsWrongFalsely : Prop := spaceEndsRow.holds Tryz.pinned (OpenSpec.ofChange spaceEndsWrong)

/-- 'counterfoillaw11.SpaceOwns': WHATEVER THE INPUT: true; the input reads as it did. -/
def spaceOwnsSpec : ChangeSpec := { name := "spaceOwns", fn := fun _ => fun
  | [d] => { results := [.lit (.bool true)], args := [d] }
  | _ => none }
def spaceOwnsRow : OpenClaim := { program := "ytobmnnihmbdfjaagreat", sum := "d2b5f4506d733d72de7691bf99ff215eb0cbce303f845e6f686b0f17f1df800a", func := "counterfoil/counterfoillaw11.SpaceOwns", spec := "spaceOwns", inPlace := ["internal/abi.NoEscape", "internal/bytealg.MakeNoZero", "maps.clone"], unfollowed := true, recurses := true, apart := false }
def SpaceOwnsSaid : Prop := spaceOwnsRow.holds Tryz.pinned (OpenSpec.ofChange spaceOwnsSpec)

/-- ITS FALSE NEIGHBOUR: 'it returns false'. Refute it at one input. -/
def spaceOwnsWrong : ChangeSpec := { name := "spaceOwns", fn := fun _ => fun
  | [d] => { results := [.lit (.bool false)], args := [d] }
  | _ => none }
def SpaceOwnsWrongFalsely : Prop := spaceOwnsRow.holds Tryz.pinned (OpenSpec.ofChange spaceOwnsWrong)

/-- 'counterfoillaw12.BtreeEnds': WHATEVER THE INPUT: true; the input reads as it did. -/
def btreeEndsSpec : ChangeSpec := { name := "btreeEnds", fn := fun _ => fun
  | [d1, d2, d3, d4] => { results := [.lit (.bool true)], args := [d1, d2, d3, d4] }
  | _ => none }
def btreeEndsRow : OpenClaim := { program := "ytobmnnihmbdfjaagreat", sum := "d2b5f4506d733d72de7691bf99ff215eb0cbce303f845e6f686b0f17f1df800a", func := "counterfoil/counterfoillaw12.BtreeEnds", spec := "btreeEnds", inPlace := ["internal/abi.NoEscape", "internal/bytealg.MakeNoZero", "slices.overlaps[counterfoil/api.Cell]", "maps.clone"], unfollowed := true, recurses := true, apart := false }
def BtreeEndsSaid : Prop := btreeEndsRow.holds Tryz.pinned (OpenSpec.ofChange btreeEndsSpec)

/-- ITS FALSE NEIGHBOUR: 'it returns false'. Refute it at one input. -/
def btreeEndsWrong : ChangeSpec := { name := "btreeEnds", fn := fun _ => fun
  | [d1, d2, d3, d4] => { results := [.lit (.bool false)], args := [d1, d2, d3, d4] }
  | _ => none }
def BtreeEndsWrongFalsely : Prop := btreeEndsRow.holds Tryz.pinned (OpenSpec.ofChange btreeEndsWrong)

/-- 'counterfoillaw11.SpacePlays': WHATEVER THE INPUT: true; the input reads as it did. -/
def spacePlaysSpec : ChangeSpec := { name := "spacePlays", fn := fun _ => fun
  | [d] => { results := [.lit (.bool true)], args := [d] }
  | _ => none }
def spacePlaysRow : OpenClaim := { program := "ytobmnnihmbdfjaagreat", sum := "d2b5f4506d733d72de7691bf99ff215eb0cbce303f845e6f686b0f17f1df800a", func := "counterfoil/counterfoillaw11.SpacePlays", spec := "spacePlays", inPlace := ["internal/abi.NoEscape", "internal/bytealg.MakeNoZero", "maps.clone"], unfollowed := true, recurses := true, apart := false }
def SpacePlaysSaid : Prop := spacePlaysRow.holds Tryz.pinned (OpenSpec.ofChange spacePlaysSpec)

/-- ITS FALSE NEIGHBOUR: 'it returns false'. Refute it at one input. -/
def spacePlaysWrong : ChangeSpec := { name := "spacePlays", fn := fun _ => fun
  | [d] => { results := [.lit (.bool false)], args := [d] }
  | _ => none }
def SpacePlaysWrongFalsely : Prop := spacePlaysRow.holds Tryz.pinned (OpenSpec.ofChange spacePlaysWrong)

/-- 'counterfoillaw12.BtreePlays': WHATEVER THE INPUT: true; the input reads as it did. -/
def btreePlaysSpec : ChangeSpec := { name := "btreePlays", fn := fun _ => fun
  | [d] => { results := [.lit (.bool true)], args := [d] }
  | _ => none }
def btreePlaysRow : OpenClaim := { program := "ytobmnnihmbdfjaagreat", sum := "d2b5f4506d733d72de7691bf99ff215eb0cbce303f845e6f686b0f17f1df800a", func := "counterfoil/counterfoillaw12.BtreePlays", spec := "btreePlays", inPlace := ["internal/abi.NoEscape", "internal/bytealg.MakeNoZero", "slices.overlaps[counterfoil/api.Cell]", "maps.clone"], unfollowed := true, recurses := true, apart := false }
def BtreePlaysSaid : Prop := btreePlaysRow.holds Tryz.pinned (OpenSpec.ofChange btreePlaysSpec)

/-- ITS FALSE NEIGHBOUR: 'it returns false'. Refute it at one input. -/
def btreePlaysWrong : ChangeSpec := { name := "btreePlays", fn := fun _ => fun
  | [d] => { results := [.lit (.bool false)], args := [d] }
  | _ => none }
def BtreePlaysWrongFalsely : Prop := btreePlaysRow.holds Tryz.pinned (OpenSpec.ofChange btreePlaysWrong)

/- THE SECOND FORM. 'bulk': how many values and letters a reading holds, each counted each time it is reached (what is shared counts as often as it is met; a slice's spare places count too). A statement '..UptoSaid' is the law's where the arguments, and the package variables that the reading takes, are together of bulk at most 1048576: NARROWER than '..Said'. Prove '..Said' where nothing that the law and all that it calls make is longer than what came in: it says more and counts as full. Else prove '..UptoSaid'. A law counts once. -/
mutual
def uptoBulk {H : Type} : DataW H → Nat
  | .lit (.string bytes) => bytes.length + 1
  | .lit _ => 1
  | .nil => 1
  | .ptr d => uptoBulk d + 1
  | .slice elems spare => uptoBulkAll elems + uptoBulkAll spare + 1
  | .agg parts => uptoBulkAll parts + 1
  | .iface _ d => uptoBulk d + 1
  | .map entries => uptoBulkEntries entries + 1
  | .held _ => 1
def uptoBulkAll {H : Type} : List (DataW H) → Nat
  | [] => 0
  | d :: r => uptoBulk d + uptoBulkAll r
def uptoBulkEntries {H : Type} : List (Lit × DataW H) → Nat
  | [] => 0
  | x :: r => uptoBulkEntry x + uptoBulkEntries r
def uptoBulkEntry {H : Type} : Lit × DataW H → Nat
  | (.string bytes, d) => bytes.length + uptoBulk d + 1
  | (_, d) => uptoBulk d + 1
 end
def uptoSmall : (H : Type) → List (DataW H) → Bool := fun _ ds => decide (uptoBulkAll ds ≤ 1048576)
def OpenSpec.upto (s : _root_.Go.ChangeSpec) : _root_.Go.OpenSpec := { _root_.Go.OpenSpec.ofChange s with cond := some uptoSmall }

/-- 'counterfoillaw12.BtreeOrders', WHERE WHAT IT READS IS OF BULK AT MOST 1048576: true; the input reads as it did. -/
def btreeOrdersUptoRow : OpenClaim := { program := "ytobmnnihmbdfjaagreat", sum := "d2b5f4506d733d72de7691bf99ff215eb0cbce303f845e6f686b0f17f1df800a", func := "counterfoil/counterfoillaw12.BtreeOrders", spec := "btreeOrders", inPlace := ["internal/abi.NoEscape", "internal/bytealg.MakeNoZero", "slices.overlaps[counterfoil/api.Cell]"], unfollowed := true, recurses := true, apart := false, narrowed := true }
def BtreeOrdersUptoSaid : Prop := btreeOrdersUptoRow.holds Tryz.pinned (OpenSpec.upto btreeOrdersSpec)

/-- 'counterfoillaw06.PagerPlays', WHERE WHAT IT READS IS OF BULK AT MOST 1048576: true; the input reads as it did. -/
def pagerPlaysUptoRow : OpenClaim := { program := "ytobmnnihmbdfjaagreat", sum := "d2b5f4506d733d72de7691bf99ff215eb0cbce303f845e6f686b0f17f1df800a", func := "counterfoil/counterfoillaw06.PagerPlays", spec := "pagerPlays", inPlace := ["internal/abi.NoEscape", "internal/bytealg.MakeNoZero", "maps.clone"], unfollowed := true, recurses := true, apart := false, narrowed := true }
def PagerPlaysUptoSaid : Prop := pagerPlaysUptoRow.holds Tryz.pinned (OpenSpec.upto pagerPlaysSpec)

/-- 'counterfoillaw12.BtreeFrom', WHERE WHAT IT READS IS OF BULK AT MOST 1048576: true; the input reads as it did. -/
def btreeFromUptoRow : OpenClaim := { program := "ytobmnnihmbdfjaagreat", sum := "d2b5f4506d733d72de7691bf99ff215eb0cbce303f845e6f686b0f17f1df800a", func := "counterfoil/counterfoillaw12.BtreeFrom", spec := "btreeFrom", inPlace := ["internal/abi.NoEscape", "internal/bytealg.MakeNoZero", "slices.overlaps[counterfoil/api.Cell]"], unfollowed := true, recurses := true, apart := false, narrowed := true }
def BtreeFromUptoSaid : Prop := btreeFromUptoRow.holds Tryz.pinned (OpenSpec.upto btreeFromSpec)

/-- 'counterfoillaw12.BtreeKnown', WHERE WHAT IT READS IS OF BULK AT MOST 1048576: true; the input reads as it did. -/
def btreeKnownUptoRow : OpenClaim := { program := "ytobmnnihmbdfjaagreat", sum := "d2b5f4506d733d72de7691bf99ff215eb0cbce303f845e6f686b0f17f1df800a", func := "counterfoil/counterfoillaw12.BtreeKnown", spec := "btreeKnown", inPlace := ["internal/abi.NoEscape", "internal/bytealg.MakeNoZero", "slices.overlaps[counterfoil/api.Cell]"], unfollowed := true, recurses := true, apart := false, narrowed := true }
def BtreeKnownUptoSaid : Prop := btreeKnownUptoRow.holds Tryz.pinned (OpenSpec.upto btreeKnownSpec)

/-- 'counterfoillaw11.SpaceEnds', WHERE WHAT IT READS IS OF BULK AT MOST 1048576: true; the input reads as it did. -/
def spaceEndsUptoRow : OpenClaim := { program := "ytobmnnihmbdfjaagreat", sum := "d2b5f4506d733d72de7691bf99ff215eb0cbce303f845e6f686b0f17f1df800a", func := "counterfoil/counterfoillaw11.SpaceEnds", spec := "spaceEnds", inPlace := ["internal/abi.NoEscape", "internal/bytealg.MakeNoZero", "maps.clone"], unfollowed := true, recurses := true, apart := false, narrowed := true }
def SpaceEndsUptoSaid : Prop := spaceEndsUptoRow.holds Tryz.pinned (OpenSpec.upto spaceEndsSpec)

/-- 'counterfoillaw11.SpaceOwns', WHERE WHAT IT READS IS OF BULK AT MOST 1048576: true; the input reads as it did. -/
def spaceOwnsUptoRow : OpenClaim := { program := "ytobmnnihmbdfjaagreat", sum := "d2b5f4506d733d72de7691bf99ff215eb0cbce303f845e6f686b0f17f1df800a", func := "counterfoil/counterfoillaw11.SpaceOwns", spec := "spaceOwns", inPlace := ["internal/abi.NoEscape", "internal/bytealg.MakeNoZero", "maps.clone"], unfollowed := true, recurses := true, apart := false, narrowed := true }
def SpaceOwnsUptoSaid : Prop := spaceOwnsUptoRow.holds Tryz.pinned (OpenSpec.upto spaceOwnsSpec)

/-- 'counterfoillaw12.BtreeEnds', WHERE WHAT IT READS IS OF BULK AT MOST 1048576: true; the input reads as it did. -/
def btreeEndsUptoRow : OpenClaim := { program := "ytobmnnihmbdfjaagreat", sum := "d2b5f4506d733d72de7691bf99ff215eb0cbce303f845e6f686b0f17f1df800a", func := "counterfoil/counterfoillaw12.BtreeEnds", spec := "btreeEnds", inPlace := ["internal/abi.NoEscape", "internal/bytealg.MakeNoZero", "slices.overlaps[counterfoil/api.Cell]", "maps.clone"], unfollowed := true, recurses := true, apart := false, narrowed := true }
def BtreeEndsUptoSaid : Prop := btreeEndsUptoRow.holds Tryz.pinned (OpenSpec.upto btreeEndsSpec)

/-- 'counterfoillaw11.SpacePlays', WHERE WHAT IT READS IS OF BULK AT MOST 1048576: true; the input reads as it did. -/
def spacePlaysUptoRow : OpenClaim := { program := "ytobmnnihmbdfjaagreat", sum := "d2b5f4506d733d72de7691bf99ff215eb0cbce303f845e6f686b0f17f1df800a", func := "counterfoil/counterfoillaw11.SpacePlays", spec := "spacePlays", inPlace := ["internal/abi.NoEscape", "internal/bytealg.MakeNoZero", "maps.clone"], unfollowed := true, recurses := true, apart := false, narrowed := true }
def SpacePlaysUptoSaid : Prop := spacePlaysUptoRow.holds Tryz.pinned (OpenSpec.upto spacePlaysSpec)

/-- 'counterfoillaw12.BtreePlays', WHERE WHAT IT READS IS OF BULK AT MOST 1048576: true; the input reads as it did. -/
def btreePlaysUptoRow : OpenClaim := { program := "ytobmnnihmbdfjaagreat", sum := "d2b5f4506d733d72de7691bf99ff215eb0cbce303f845e6f686b0f17f1df800a", func := "counterfoil/counterfoillaw12.BtreePlays", spec := "btreePlays", inPlace := ["internal/abi.NoEscape", "internal/bytealg.MakeNoZero", "slices.overlaps[counterfoil/api.Cell]", "maps.clone"], unfollowed := true, recurses := true, apart := false, narrowed := true }
def BtreePlaysUptoSaid : Prop := btreePlaysUptoRow.holds Tryz.pinned (OpenSpec.upto btreePlaysSpec)

end Rows
end Go.Proofs.YtobmnnihmbdfjaaGreat
