/-
  No cell of these rows narrows 'for every input' (looked for: loops, veiled, ifaces, maps, wideKeys, modest, calm, conditions, laid).
  DERIVED. THE GIVEN ROWS OF THIS SEAT. 6 by the template 'for every input the law returns true; each argument reads behind the call as it read before'; 0 by the template 'total and deterministic' (their statements: YtaologjglealoaaTotals.lean).
  GIVEN WITH THE SEED: the statements are not yours to turn. If you find one false, say at which input.
  Laid BY PROGRAM, IN A SANDBOX (cutbox-rows.mjs): the forced cells as the released guide's own fill.sh prints them over the translation 255ae711ccfe772b… (all of the seat's roots in one cut). By AI agents, Wed Nov 11 2026. No macro, syntax, notation, axiom, sorry.
-/
import Derived.Test.YtaologjglealoaaChecked
import GoSem.Claim
import GoSem.ClaimJoined
import GoSem.ClaimMapViews
import Derived.JoinedTies
import Derived.KernelRfl
namespace Go.Proofs.Ytaologjglealoaa
/- THE CELL 'sum', in the pinned program and in every row, IS THE sha256 OF THE DUMP (.gsa) THAT YtaologjglealoaaProg.lean LOADS. Nothing in Lean hashes anything: it is a label: what it is worth is what the hold of that sum in a sandbox is worth. -/
noncomputable def Try.pinned : Pinned := { name := "ytaologjglealoaa", sum := "255ae711ccfe772b3e1885202ac9ed481171b5cb082794124cc561fc8d64dfab", checked := Try.checked }
namespace Rows
def none {H : Type} : Left H := { results := [], args := [] }

/-- 'foretellkeep.SumOne': WHATEVER THE INPUT: true; the input reads as it did. -/
def sumOneSpec : ChangeSpec := { name := "sumOne", fn := fun _ => fun
  | [d1, d2, d3] => { results := [.lit (.bool true)], args := [d1, d2, d3] }
  | _ => none }
def sumOneRow : OpenClaim := { program := "ytaologjglealoaa", sum := "255ae711ccfe772b3e1885202ac9ed481171b5cb082794124cc561fc8d64dfab", func := "foretell/foretellkeep.SumOne", spec := "sumOne", apart := false }
def SumOneSaid : Prop := sumOneRow.holds Try.pinned (OpenSpec.ofChange sumOneSpec)

/-- ITS FALSE NEIGHBOUR: 'it returns false'. Refute it at one input. -/
def sumOneWrong : ChangeSpec := { name := "sumOne", fn := fun _ => fun
  | [d1, d2, d3] => { results := [.lit (.bool false)], args := [d1, d2, d3] }
  | _ => none }
def SumOneWrongFalsely : Prop := sumOneRow.holds Try.pinned (OpenSpec.ofChange sumOneWrong)

/-- 'foretellkeep.TapeSize': WHATEVER THE INPUT: true; the input reads as it did. -/
def tapeSizeSpec : ChangeSpec := { name := "tapeSize", fn := fun _ => fun
  | [d1, d2] => { results := [.lit (.bool true)], args := [d1, d2] }
  | _ => none }
def tapeSizeRow : OpenClaim := { program := "ytaologjglealoaa", sum := "255ae711ccfe772b3e1885202ac9ed481171b5cb082794124cc561fc8d64dfab", func := "foretell/foretellkeep.TapeSize", spec := "tapeSize", apart := false }
def TapeSizeSaid : Prop := tapeSizeRow.holds Try.pinned (OpenSpec.ofChange tapeSizeSpec)

/-- ITS FALSE NEIGHBOUR: 'it returns false'. Refute it at one input. -/
def tapeSizeWrong : ChangeSpec := { name := "tapeSize", fn := fun _ => fun
  | [d1, d2] => { results := [.lit (.bool false)], args := [d1, d2] }
  | _ => none }
def TapeSizeWrongFalsely : Prop := tapeSizeRow.holds Try.pinned (OpenSpec.ofChange tapeSizeWrong)

/-- 'foretellkeep.TapeBack': WHATEVER THE INPUT: true; the input reads as it did. -/
def tapeBackSpec : ChangeSpec := { name := "tapeBack", fn := fun _ => fun
  | [d] => { results := [.lit (.bool true)], args := [d] }
  | _ => none }
def tapeBackRow : OpenClaim := { program := "ytaologjglealoaa", sum := "255ae711ccfe772b3e1885202ac9ed481171b5cb082794124cc561fc8d64dfab", func := "foretell/foretellkeep.TapeBack", spec := "tapeBack", apart := false }
def TapeBackSaid : Prop := tapeBackRow.holds Try.pinned (OpenSpec.ofChange tapeBackSpec)

/-- ITS FALSE NEIGHBOUR: 'it returns false'. Refute it at one input. -/
def tapeBackWrong : ChangeSpec := { name := "tapeBack", fn := fun _ => fun
  | [d] => { results := [.lit (.bool false)], args := [d] }
  | _ => none }
def TapeBackWrongFalsely : Prop := tapeBackRow.holds Try.pinned (OpenSpec.ofChange tapeBackWrong)

/-- 'foretellkeep.TapeTorn': WHATEVER THE INPUT: true; the input reads as it did. -/
def tapeTornSpec : ChangeSpec := { name := "tapeTorn", fn := fun _ => fun
  | [d1, d2] => { results := [.lit (.bool true)], args := [d1, d2] }
  | _ => none }
def tapeTornRow : OpenClaim := { program := "ytaologjglealoaa", sum := "255ae711ccfe772b3e1885202ac9ed481171b5cb082794124cc561fc8d64dfab", func := "foretell/foretellkeep.TapeTorn", spec := "tapeTorn", apart := false }
def TapeTornSaid : Prop := tapeTornRow.holds Try.pinned (OpenSpec.ofChange tapeTornSpec)

/-- ITS FALSE NEIGHBOUR: 'it returns false'. Refute it at one input. -/
def tapeTornWrong : ChangeSpec := { name := "tapeTorn", fn := fun _ => fun
  | [d1, d2] => { results := [.lit (.bool false)], args := [d1, d2] }
  | _ => none }
def TapeTornWrongFalsely : Prop := tapeTornRow.holds Try.pinned (OpenSpec.ofChange tapeTornWrong)

/-- 'foretellkeep.TapeKeeps': WHATEVER THE INPUT: true; the input reads as it did. -/
def tapeKeepsSpec : ChangeSpec := { name := "tapeKeeps", fn := fun _ => fun
  | [d1, d2, d3, d4] => { results := [.lit (.bool true)], args := [d1, d2, d3, d4] }
  | _ => none }
def tapeKeepsRow : OpenClaim := { program := "ytaologjglealoaa", sum := "255ae711ccfe772b3e1885202ac9ed481171b5cb082794124cc561fc8d64dfab", func := "foretell/foretellkeep.TapeKeeps", spec := "tapeKeeps", apart := false }
def TapeKeepsSaid : Prop := tapeKeepsRow.holds Try.pinned (OpenSpec.ofChange tapeKeepsSpec)

/-- ITS FALSE NEIGHBOUR: 'it returns false'. Refute it at one input. -/
def tapeKeepsWrong : ChangeSpec := { name := "tapeKeeps", fn := fun _ => fun
  | [d1, d2, d3, d4] => { results := [.lit (.bool false)], args := [d1, d2, d3, d4] }
  | _ => none }
def TapeKeepsWrongFalsely : Prop := tapeKeepsRow.holds Try.pinned (OpenSpec.ofChange tapeKeepsWrong)

/-- 'foretellkeep.TapeAgain': WHATEVER THE INPUT: true; the input reads as it did. -/
def tapeAgainSpec : ChangeSpec := { name := "tapeAgain", fn := fun _ => fun
  | [d1, d2, d3] => { results := [.lit (.bool true)], args := [d1, d2, d3] }
  | _ => none }
def tapeAgainRow : OpenClaim := { program := "ytaologjglealoaa", sum := "255ae711ccfe772b3e1885202ac9ed481171b5cb082794124cc561fc8d64dfab", func := "foretell/foretellkeep.TapeAgain", spec := "tapeAgain", apart := false }
def TapeAgainSaid : Prop := tapeAgainRow.holds Try.pinned (OpenSpec.ofChange tapeAgainSpec)

/-- ITS FALSE NEIGHBOUR: 'it returns false'. Refute it at one input. -/
def tapeAgainWrong : ChangeSpec := { name := "tapeAgain", fn := fun _ => fun
  | [d1, d2, d3] => { results := [.lit (.bool false)], args := [d1, d2, d3] }
  | _ => none }
def TapeAgainWrongFalsely : Prop := tapeAgainRow.holds Try.pinned (OpenSpec.ofChange tapeAgainWrong)

/- THE SECOND FORM. 'bulk': how many values and letters a reading holds, each counted each time it is reached (what is shared counts as often as it is met; a slice's spare places count too). A statement '..UptoSaid' is the law's where the arguments, and the package variables that the reading takes, are together of bulk at most 1048576: NARROWER than '..Said'. Prove '..Said' where nothing that the law and all that it calls make is longer than what came in: it says more and counts as full. Else prove '..UptoSaid'. A law counts once. -/
mutual
def uptoBulk {H : Type} : DataW H → Nat
  | .lit (.string bytes) => bytes.length + 1
  | .lit _ => 1
  | .nil => 1
  | .ptr d => uptoBulk d + 1
  | .slice elems spare => uptoBulkAll elems + uptoBulkAll spare + 1
  | .agg parts => uptoBulkAll parts + 1
  | .iface _ d => uptoBulk d + 1
  | .map entries => uptoBulkEntries entries + 1
  | .held _ => 1
def uptoBulkAll {H : Type} : List (DataW H) → Nat
  | [] => 0
  | d :: r => uptoBulk d + uptoBulkAll r
def uptoBulkEntries {H : Type} : List (Lit × DataW H) → Nat
  | [] => 0
  | x :: r => uptoBulkEntry x + uptoBulkEntries r
def uptoBulkEntry {H : Type} : Lit × DataW H → Nat
  | (.string bytes, d) => bytes.length + uptoBulk d + 1
  | (_, d) => uptoBulk d + 1
 end
def uptoSmall : (H : Type) → List (DataW H) → Bool := fun _ ds => decide (uptoBulkAll ds ≤ 1048576)
def OpenSpec.upto (s : _root_.Go.ChangeSpec) : _root_.Go.OpenSpec := { _root_.Go.OpenSpec.ofChange s with cond := some uptoSmall }

/-- 'foretellkeep.SumOne', WHERE WHAT IT READS IS OF BULK AT MOST 1048576: true; the input reads as it did. -/
def sumOneUptoRow : OpenClaim := { program := "ytaologjglealoaa", sum := "255ae711ccfe772b3e1885202ac9ed481171b5cb082794124cc561fc8d64dfab", func := "foretell/foretellkeep.SumOne", spec := "sumOne", apart := false, narrowed := true }
def SumOneUptoSaid : Prop := sumOneUptoRow.holds Try.pinned (OpenSpec.upto sumOneSpec)

/-- 'foretellkeep.TapeSize', WHERE WHAT IT READS IS OF BULK AT MOST 1048576: true; the input reads as it did. -/
def tapeSizeUptoRow : OpenClaim := { program := "ytaologjglealoaa", sum := "255ae711ccfe772b3e1885202ac9ed481171b5cb082794124cc561fc8d64dfab", func := "foretell/foretellkeep.TapeSize", spec := "tapeSize", apart := false, narrowed := true }
def TapeSizeUptoSaid : Prop := tapeSizeUptoRow.holds Try.pinned (OpenSpec.upto tapeSizeSpec)

/-- 'foretellkeep.TapeBack', WHERE WHAT IT READS IS OF BULK AT MOST 1048576: true; the input reads as it did. -/
def tapeBackUptoRow : OpenClaim := { program := "ytaologjglealoaa", sum := "255ae711ccfe772b3e1885202ac9ed481171b5cb082794124cc561fc8d64dfab", func := "foretell/foretellkeep.TapeBack", spec := "tapeBack", apart := false, narrowed := true }
def TapeBackUptoSaid : Prop := tapeBackUptoRow.holds Try.pinned (OpenSpec.upto tapeBackSpec)

/-- 'foretellkeep.TapeTorn', WHERE WHAT IT READS IS OF BULK AT MOST 1048576: true; the input reads as it did. -/
def tapeTornUptoRow : OpenClaim := { program := "ytaologjglealoaa", sum := "255ae711ccfe772b3e1885202ac9ed481171b5cb082794124cc561fc8d64dfab", func := "foretell/foretellkeep.TapeTorn", spec := "tapeTorn", apart := false, narrowed := true }
def TapeTornUptoSaid : Prop := tapeTornUptoRow.holds Try.pinned (OpenSpec.upto tapeTornSpec)

/-- 'foretellkeep.TapeKeeps', WHERE WHAT IT READS IS OF BULK AT MOST 1048576: true; the input reads as it did. -/
def tapeKeepsUptoRow : OpenClaim := { program := "ytaologjglealoaa", sum := "255ae711ccfe772b3e1885202ac9ed481171b5cb082794124cc561fc8d64dfab", func := "foretell/foretellkeep.TapeKeeps", spec := "tapeKeeps", apart := false, narrowed := true }
def TapeKeepsUptoSaid : Prop := tapeKeepsUptoRow.holds Try.pinned (OpenSpec.upto tapeKeepsSpec)

/-- 'foretellkeep.TapeAgain', WHERE WHAT IT READS IS OF BULK AT MOST 1048576: true; the input reads as it did. -/
def tapeAgainUptoRow : OpenClaim := { program := "ytaologjglealoaa", sum := "255ae711ccfe772b3e1885202ac9ed481171b5cb082794124cc561fc8d64dfab", func := "foretell/foretellkeep.TapeAgain", spec := "tapeAgain", apart := false, narrowed := true }
def TapeAgainUptoSaid : Prop := tapeAgainUptoRow.holds Try.pinned (OpenSpec.upto tapeAgainSpec)

end Rows
end Go.Proofs.Ytaologjglealoaa
