/-
  No cell of these rows narrows 'for every input' (looked for: loops, veiled, ifaces, maps, wideKeys, modest, calm, conditions, laid).
  DERIVED. THE GIVEN ROWS OF THIS SEAT. 6 by the template 'for every input the law returns true; each argument reads behind the call as it read before'; 0 by the template 'total and deterministic' (their statements: YtpkigkmkolbiiaaTotals.lean).
  GIVEN WITH THE SEED: the statements are not yours to turn. If you find one false, say at which input.
  Laid BY PROGRAM, IN A SANDBOX (cutbox-rows.mjs): the forced cells as the released guide's own fill.sh prints them over the translation 1952af617a921c05… (all of the seat's roots in one cut). By AI agents, Wed Nov 11 2026. No macro, syntax, notation, axiom, sorry.
-/
import Derived.Test.YtpkigkmkolbiiaaChecked
import GoSem.Claim
import GoSem.ClaimJoined
import GoSem.ClaimMapViews
import Derived.JoinedTies
import Derived.KernelRfl
namespace Go.Proofs.Ytpkigkmkolbiiaa
/- THE CELL 'sum', in the pinned program and in every row, IS THE sha256 OF THE DUMP (.gsa) THAT YtpkigkmkolbiiaaProg.lean LOADS. Nothing in Lean hashes anything: it is a label: what it is worth is what the hold of that sum in a sandbox is worth. -/
noncomputable def Try.pinned : Pinned := { name := "ytpkigkmkolbiiaa", sum := "1952af617a921c05c98a1865c909a14404a6360c3f48db6efa14f370fadbdb04", checked := Try.checked }
namespace Rows
def none {H : Type} : Left H := { results := [], args := [] }

/-- 'foretellkeep.ReachedAll': WHATEVER THE INPUT: true; the input reads as it did. -/
def reachedAllSpec : ChangeSpec := { name := "reachedAll", fn := fun _ => fun
  | [d] => { results := [.lit (.bool true)], args := [d] }
  | _ => none }
def reachedAllRow : OpenClaim := { program := "ytpkigkmkolbiiaa", sum := "1952af617a921c05c98a1865c909a14404a6360c3f48db6efa14f370fadbdb04", func := "foretell/foretellkeep.ReachedAll", spec := "reachedAll", unfollowed := true, recurses := true, apart := false }
def ReachedAllSaid : Prop := reachedAllRow.holds Try.pinned (OpenSpec.ofChange reachedAllSpec)

/-- ITS FALSE NEIGHBOUR: 'it returns false'. Refute it at one input. -/
def reachedAllWrong : ChangeSpec := { name := "reachedAll", fn := fun _ => fun
  | [d] => { results := [.lit (.bool false)], args := [d] }
  | _ => none }
def ReachedAllWrongFalsely : Prop := reachedAllRow.holds Try.pinned (OpenSpec.ofChange reachedAllWrong)

/-- 'foretellkeep.PartsMeet': WHATEVER THE INPUT: true; the input reads as it did. -/
def partsMeetSpec : ChangeSpec := { name := "partsMeet", fn := fun _ => fun
  | [d1, d2, d3] => { results := [.lit (.bool true)], args := [d1, d2, d3] }
  | _ => none }
def partsMeetRow : OpenClaim := { program := "ytpkigkmkolbiiaa", sum := "1952af617a921c05c98a1865c909a14404a6360c3f48db6efa14f370fadbdb04", func := "foretell/foretellkeep.PartsMeet", spec := "partsMeet", apart := false }
def PartsMeetSaid : Prop := partsMeetRow.holds Try.pinned (OpenSpec.ofChange partsMeetSpec)

/-- ITS FALSE NEIGHBOUR: 'it returns false'. Refute it at one input. -/
def partsMeetWrong : ChangeSpec := { name := "partsMeet", fn := fun _ => fun
  | [d1, d2, d3] => { results := [.lit (.bool false)], args := [d1, d2, d3] }
  | _ => none }
def PartsMeetWrongFalsely : Prop := partsMeetRow.holds Try.pinned (OpenSpec.ofChange partsMeetWrong)

/-- 'foretellkeep.FairMore': WHATEVER THE INPUT: true; the input reads as it did. -/
def fairMoreSpec : ChangeSpec := { name := "fairMore", fn := fun _ => fun
  | [d1, d2, d3, d4] => { results := [.lit (.bool true)], args := [d1, d2, d3, d4] }
  | _ => none }
def fairMoreRow : OpenClaim := { program := "ytpkigkmkolbiiaa", sum := "1952af617a921c05c98a1865c909a14404a6360c3f48db6efa14f370fadbdb04", func := "foretell/foretellkeep.FairMore", spec := "fairMore", unfollowed := true, recurses := true, apart := false }
def FairMoreSaid : Prop := fairMoreRow.holds Try.pinned (OpenSpec.ofChange fairMoreSpec)

/-- ITS FALSE NEIGHBOUR: 'it returns false'. Refute it at one input. -/
def fairMoreWrong : ChangeSpec := { name := "fairMore", fn := fun _ => fun
  | [d1, d2, d3, d4] => { results := [.lit (.bool false)], args := [d1, d2, d3, d4] }
  | _ => none }
def FairMoreWrongFalsely : Prop := fairMoreRow.holds Try.pinned (OpenSpec.ofChange fairMoreWrong)

/-- 'foretellkeep.FairRound': WHATEVER THE INPUT: true; the input reads as it did. -/
def fairRoundSpec : ChangeSpec := { name := "fairRound", fn := fun _ => fun
  | [d1, d2] => { results := [.lit (.bool true)], args := [d1, d2] }
  | _ => none }
def fairRoundRow : OpenClaim := { program := "ytpkigkmkolbiiaa", sum := "1952af617a921c05c98a1865c909a14404a6360c3f48db6efa14f370fadbdb04", func := "foretell/foretellkeep.FairRound", spec := "fairRound", unfollowed := true, recurses := true, apart := false }
def FairRoundSaid : Prop := fairRoundRow.holds Try.pinned (OpenSpec.ofChange fairRoundSpec)

/-- ITS FALSE NEIGHBOUR: 'it returns false'. Refute it at one input. -/
def fairRoundWrong : ChangeSpec := { name := "fairRound", fn := fun _ => fun
  | [d1, d2] => { results := [.lit (.bool false)], args := [d1, d2] }
  | _ => none }
def FairRoundWrongFalsely : Prop := fairRoundRow.holds Try.pinned (OpenSpec.ofChange fairRoundWrong)

/-- 'foretellkeep.PartsLine': WHATEVER THE INPUT: true; the input reads as it did. -/
def partsLineSpec : ChangeSpec := { name := "partsLine", fn := fun _ => fun
  | [d] => { results := [.lit (.bool true)], args := [d] }
  | _ => none }
def partsLineRow : OpenClaim := { program := "ytpkigkmkolbiiaa", sum := "1952af617a921c05c98a1865c909a14404a6360c3f48db6efa14f370fadbdb04", func := "foretell/foretellkeep.PartsLine", spec := "partsLine", unfollowed := true, recurses := true, apart := false }
def PartsLineSaid : Prop := partsLineRow.holds Try.pinned (OpenSpec.ofChange partsLineSpec)

/-- ITS FALSE NEIGHBOUR: 'it returns false'. Refute it at one input. -/
def partsLineWrong : ChangeSpec := { name := "partsLine", fn := fun _ => fun
  | [d] => { results := [.lit (.bool false)], args := [d] }
  | _ => none }
def PartsLineWrongFalsely : Prop := partsLineRow.holds Try.pinned (OpenSpec.ofChange partsLineWrong)

/-- 'foretellkeep.LassoGoes': WHATEVER THE INPUT: true; the input reads as it did. -/
def lassoGoesSpec : ChangeSpec := { name := "lassoGoes", fn := fun _ => fun
  | [d] => { results := [.lit (.bool true)], args := [d] }
  | _ => none }
def lassoGoesRow : OpenClaim := { program := "ytpkigkmkolbiiaa", sum := "1952af617a921c05c98a1865c909a14404a6360c3f48db6efa14f370fadbdb04", func := "foretell/foretellkeep.LassoGoes", spec := "lassoGoes", unfollowed := true, recurses := true, apart := false }
def LassoGoesSaid : Prop := lassoGoesRow.holds Try.pinned (OpenSpec.ofChange lassoGoesSpec)

/-- ITS FALSE NEIGHBOUR: 'it returns false'. Refute it at one input. -/
def lassoGoesWrong : ChangeSpec := { name := "lassoGoes", fn := fun _ => fun
  | [d] => { results := [.lit (.bool false)], args := [d] }
  | _ => none }
def LassoGoesWrongFalsely : Prop := lassoGoesRow.holds Try.pinned (OpenSpec.ofChange lassoGoesWrong)

/- THE SECOND FORM. 'bulk': how many values and letters a reading holds, each counted each time it is reached (what is shared counts as often as it is met; a slice's spare places count too). A statement '..UptoSaid' is the law's where the arguments, and the package variables that the reading takes, are together of bulk at most 1048576: NARROWER than '..Said'. Prove '..Said' where nothing that the law and all that it calls make is longer than what came in: it says more and counts as full. Else prove '..UptoSaid'. A law counts once. -/
mutual
def uptoBulk {H : Type} : DataW H → Nat
  | .lit (.string bytes) => bytes.length + 1
  | .lit _ => 1
  | .nil => 1
  | .ptr d => uptoBulk d + 1
  | .slice elems spare => uptoBulkAll elems + uptoBulkAll spare + 1
  | .agg parts => uptoBulkAll parts + 1
  | .iface _ d => uptoBulk d + 1
  | .map entries => uptoBulkEntries entries + 1
  | .held _ => 1
def uptoBulkAll {H : Type} : List (DataW H) → Nat
  | [] => 0
  | d :: r => uptoBulk d + uptoBulkAll r
def uptoBulkEntries {H : Type} : List (Lit × DataW H) → Nat
  | [] => 0
  | x :: r => uptoBulkEntry x + uptoBulkEntries r
def uptoBulkEntry {H : Type} : Lit × DataW H → Nat
  | (.string bytes, d) => bytes.length + uptoBulk d + 1
  | (_, d) => uptoBulk d + 1
 end
def uptoSmall : (H : Type) → List (DataW H) → Bool := fun _ ds => decide (uptoBulkAll ds ≤ 1048576)
def OpenSpec.upto (s : _root_.Go.ChangeSpec) : _root_.Go.OpenSpec := { _root_.Go.OpenSpec.ofChange s with cond := some uptoSmall }

/-- 'foretellkeep.ReachedAll', WHERE WHAT IT READS IS OF BULK AT MOST 1048576: true; the input reads as it did. -/
def reachedAllUptoRow : OpenClaim := { program := "ytpkigkmkolbiiaa", sum := "1952af617a921c05c98a1865c909a14404a6360c3f48db6efa14f370fadbdb04", func := "foretell/foretellkeep.ReachedAll", spec := "reachedAll", unfollowed := true, recurses := true, apart := false, narrowed := true }
def ReachedAllUptoSaid : Prop := reachedAllUptoRow.holds Try.pinned (OpenSpec.upto reachedAllSpec)

/-- 'foretellkeep.PartsMeet', WHERE WHAT IT READS IS OF BULK AT MOST 1048576: true; the input reads as it did. -/
def partsMeetUptoRow : OpenClaim := { program := "ytpkigkmkolbiiaa", sum := "1952af617a921c05c98a1865c909a14404a6360c3f48db6efa14f370fadbdb04", func := "foretell/foretellkeep.PartsMeet", spec := "partsMeet", apart := false, narrowed := true }
def PartsMeetUptoSaid : Prop := partsMeetUptoRow.holds Try.pinned (OpenSpec.upto partsMeetSpec)

/-- 'foretellkeep.FairMore', WHERE WHAT IT READS IS OF BULK AT MOST 1048576: true; the input reads as it did. -/
def fairMoreUptoRow : OpenClaim := { program := "ytpkigkmkolbiiaa", sum := "1952af617a921c05c98a1865c909a14404a6360c3f48db6efa14f370fadbdb04", func := "foretell/foretellkeep.FairMore", spec := "fairMore", unfollowed := true, recurses := true, apart := false, narrowed := true }
def FairMoreUptoSaid : Prop := fairMoreUptoRow.holds Try.pinned (OpenSpec.upto fairMoreSpec)

/-- 'foretellkeep.FairRound', WHERE WHAT IT READS IS OF BULK AT MOST 1048576: true; the input reads as it did. -/
def fairRoundUptoRow : OpenClaim := { program := "ytpkigkmkolbiiaa", sum := "1952af617a921c05c98a1865c909a14404a6360c3f48db6efa14f370fadbdb04", func := "foretell/foretellkeep.FairRound", spec := "fairRound", unfollowed := true, recurses := true, apart := false, narrowed := true }
def FairRoundUptoSaid : Prop := fairRoundUptoRow.holds Try.pinned (OpenSpec.upto fairRoundSpec)

/-- 'foretellkeep.PartsLine', WHERE WHAT IT READS IS OF BULK AT MOST 1048576: true; the input reads as it did. -/
def partsLineUptoRow : OpenClaim := { program := "ytpkigkmkolbiiaa", sum := "1952af617a921c05c98a1865c909a14404a6360c3f48db6efa14f370fadbdb04", func := "foretell/foretellkeep.PartsLine", spec := "partsLine", unfollowed := true, recurses := true, apart := false, narrowed := true }
def PartsLineUptoSaid : Prop := partsLineUptoRow.holds Try.pinned (OpenSpec.upto partsLineSpec)

/-- 'foretellkeep.LassoGoes', WHERE WHAT IT READS IS OF BULK AT MOST 1048576: true; the input reads as it did. -/
def lassoGoesUptoRow : OpenClaim := { program := "ytpkigkmkolbiiaa", sum := "1952af617a921c05c98a1865c909a14404a6360c3f48db6efa14f370fadbdb04", func := "foretell/foretellkeep.LassoGoes", spec := "lassoGoes", unfollowed := true, recurses := true, apart := false, narrowed := true }
def LassoGoesUptoSaid : Prop := lassoGoesUptoRow.holds Try.pinned (OpenSpec.upto lassoGoesSpec)

end Rows
end Go.Proofs.Ytpkigkmkolbiiaa
