/-
  No cell of these rows narrows 'for every input' (looked for: loops, veiled, ifaces, maps, wideKeys, modest, calm, conditions, laid).
  DERIVED. THE GIVEN ROWS OF THIS SEAT. 3 by the template 'for every input the law returns true; each argument reads behind the call as it read before'; 0 by the template 'total and deterministic' (their statements: YtannicghedpdpaaGreatTotals.lean).
  GIVEN WITH THE SEED: the statements are not yours to turn. If you find one false, say at which input.
  Laid BY PROGRAM, IN A SANDBOX (cutbox-rows.mjs): the forced cells as the released guide's own fill.sh prints them over the translation ec260a41e5d79b1e… (all of the seat's roots in one cut). By AI agents, Wed Nov 11 2026. No macro, syntax, notation, axiom, sorry.
-/
import Derived.Test.YtannicghedpdpaaGreatChecked
import GoSem.Claim
import GoSem.ClaimJoined
import GoSem.ClaimMapViews
import Derived.JoinedTies
import Derived.KernelRfl
namespace Go.Proofs.YtannicghedpdpaaGreat
/- THE CELL 'sum', in the pinned program and in every row, IS THE sha256 OF THE DUMP (.gsa) THAT YtannicghedpdpaaGreatProg.lean LOADS. Nothing in Lean hashes anything: it is a label: what it is worth is what the hold of that sum in a sandbox is worth. -/
noncomputable def Tryz.pinned : Pinned := { name := "ytannicghedpdpaagreat", sum := "ec260a41e5d79b1efeecd6e007f433d718f11aa1775179c933286f5aa68e8a52", checked := Tryz.checked }
namespace Rows
def none {H : Type} : Left H := { results := [], args := [] }

/-- 'quantumlaw30.ModelTells': WHATEVER THE INPUT: true; the input reads as it did. -/
def modelTellsSpec : ChangeSpec := { name := "modelTells", fn := fun _ => fun
  | [d1, d2, d3, d4] => { results := [.lit (.bool true)], args := [d1, d2, d3, d4] }
  | _ => none }
def modelTellsRow : OpenClaim := { program := "ytannicghedpdpaagreat", sum := "ec260a41e5d79b1efeecd6e007f433d718f11aa1775179c933286f5aa68e8a52", func := "quantum/quantumlaw30.ModelTells", spec := "modelTells", inPlace := ["slices.overlaps[quantum/api.Task]"], unfollowed := true, recurses := true, apart := false }
def ModelTellsSaid : Prop := modelTellsRow.holds Tryz.pinned (OpenSpec.ofChange modelTellsSpec)

/-- ITS FALSE NEIGHBOUR: 'it returns false'. Refute it at one input. -/
def modelTellsWrong : ChangeSpec := { name := "modelTells", fn := fun _ => fun
  | [d1, d2, d3, d4] => { results := [.lit (.bool false)], args := [d1, d2, d3, d4] }
  | _ => none }
def ModelTellsWrongFalsely : Prop := modelTellsRow.holds Tryz.pinned (OpenSpec.ofChange modelTellsWrong)

/-- 'quantumlaw30.ModelSmall': WHATEVER THE INPUT: true; the input reads as it did. -/
def modelSmallSpec : ChangeSpec := { name := "modelSmall", fn := fun _ => fun
  | [] => { results := [.lit (.bool true)], args := [] }
  | _ => none }
def modelSmallRow : OpenClaim := { program := "ytannicghedpdpaagreat", sum := "ec260a41e5d79b1efeecd6e007f433d718f11aa1775179c933286f5aa68e8a52", func := "quantum/quantumlaw30.ModelSmall", spec := "modelSmall", inPlace := ["slices.overlaps[quantum/api.Task]"], unfollowed := true, recurses := true, apart := false }
def ModelSmallSaid : Prop := modelSmallRow.holds Tryz.pinned (OpenSpec.ofChange modelSmallSpec)

/-- ITS FALSE NEIGHBOUR: 'it returns false'. Refute it at one input. -/
def modelSmallWrong : ChangeSpec := { name := "modelSmall", fn := fun _ => fun
  | [] => { results := [.lit (.bool false)], args := [] }
  | _ => none }
def ModelSmallWrongFalsely : Prop := modelSmallRow.holds Tryz.pinned (OpenSpec.ofChange modelSmallWrong)

/-- 'quantumlaw30.ModelLoads': WHATEVER THE INPUT: true; the input reads as it did. -/
def modelLoadsSpec : ChangeSpec := { name := "modelLoads", fn := fun _ => fun
  | [d1, d2] => { results := [.lit (.bool true)], args := [d1, d2] }
  | _ => none }
def modelLoadsRow : OpenClaim := { program := "ytannicghedpdpaagreat", sum := "ec260a41e5d79b1efeecd6e007f433d718f11aa1775179c933286f5aa68e8a52", func := "quantum/quantumlaw30.ModelLoads", spec := "modelLoads", inPlace := ["slices.overlaps[quantum/api.Task]"], unfollowed := true, recurses := true, apart := false }
def ModelLoadsSaid : Prop := modelLoadsRow.holds Tryz.pinned (OpenSpec.ofChange modelLoadsSpec)

/-- ITS FALSE NEIGHBOUR: 'it returns false'. Refute it at one input. -/
def modelLoadsWrong : ChangeSpec := { name := "modelLoads", fn := fun _ => fun
  | [d1, d2] => { results := [.lit (.bool false)], args := [d1, d2] }
  | _ => none }
def ModelLoadsWrongFalsely : Prop := modelLoadsRow.holds Tryz.pinned (OpenSpec.ofChange modelLoadsWrong)

/- THE SECOND FORM. 'bulk': how many values and letters a reading holds, each counted each time it is reached (what is shared counts as often as it is met; a slice's spare places count too). A statement '..UptoSaid' is the law's where the arguments, and the package variables that the reading takes, are together of bulk at most 1048576: NARROWER than '..Said'. Prove '..Said' where nothing that the law and all that it calls make is longer than what came in: it says more and counts as full. Else prove '..UptoSaid'. A law counts once. -/
mutual
def uptoBulk {H : Type} : DataW H → Nat
  | .lit (.string bytes) => bytes.length + 1
  | .lit _ => 1
  | .nil => 1
  | .ptr d => uptoBulk d + 1
  | .slice elems spare => uptoBulkAll elems + uptoBulkAll spare + 1
  | .agg parts => uptoBulkAll parts + 1
  | .iface _ d => uptoBulk d + 1
  | .map entries => uptoBulkEntries entries + 1
  | .held _ => 1
def uptoBulkAll {H : Type} : List (DataW H) → Nat
  | [] => 0
  | d :: r => uptoBulk d + uptoBulkAll r
def uptoBulkEntries {H : Type} : List (Lit × DataW H) → Nat
  | [] => 0
  | x :: r => uptoBulkEntry x + uptoBulkEntries r
def uptoBulkEntry {H : Type} : Lit × DataW H → Nat
  | (.string bytes, d) => bytes.length + uptoBulk d + 1
  | (_, d) => uptoBulk d + 1
 end
def uptoSmall : (H : Type) → List (DataW H) → Bool := fun _ ds => decide (uptoBulkAll ds ≤ 1048576)
def OpenSpec.upto (s : _root_.Go.ChangeSpec) : _root_.Go.OpenSpec := { _root_.Go.OpenSpec.ofChange s with cond := some uptoSmall }

/-- 'quantumlaw30.ModelTells', WHERE WHAT IT READS IS OF BULK AT MOST 1048576: true; the input reads as it did. -/
def modelTellsUptoRow : OpenClaim := { program := "ytannicghedpdpaagreat", sum := "ec260a41e5d79b1efeecd6e007f433d718f11aa1775179c933286f5aa68e8a52", func := "quantum/quantumlaw30.ModelTells", spec := "modelTells", inPlace := ["slices.overlaps[quantum/api.Task]"], unfollowed := true, recurses := true, apart := false, narrowed := true }
def ModelTellsUptoSaid : Prop := modelTellsUptoRow.holds Tryz.pinned (OpenSpec.upto modelTellsSpec)

/-- 'quantumlaw30.ModelSmall', WHERE WHAT IT READS IS OF BULK AT MOST 1048576: true; the input reads as it did. -/
def modelSmallUptoRow : OpenClaim := { program := "ytannicghedpdpaagreat", sum := "ec260a41e5d79b1efeecd6e007f433d718f11aa1775179c933286f5aa68e8a52", func := "quantum/quantumlaw30.ModelSmall", spec := "modelSmall", inPlace := ["slices.overlaps[quantum/api.Task]"], unfollowed := true, recurses := true, apart := false, narrowed := true }
def ModelSmallUptoSaid : Prop := modelSmallUptoRow.holds Tryz.pinned (OpenSpec.upto modelSmallSpec)

/-- 'quantumlaw30.ModelLoads', WHERE WHAT IT READS IS OF BULK AT MOST 1048576: true; the input reads as it did. -/
def modelLoadsUptoRow : OpenClaim := { program := "ytannicghedpdpaagreat", sum := "ec260a41e5d79b1efeecd6e007f433d718f11aa1775179c933286f5aa68e8a52", func := "quantum/quantumlaw30.ModelLoads", spec := "modelLoads", inPlace := ["slices.overlaps[quantum/api.Task]"], unfollowed := true, recurses := true, apart := false, narrowed := true }
def ModelLoadsUptoSaid : Prop := modelLoadsUptoRow.holds Tryz.pinned (OpenSpec.upto modelLoadsSpec)

end Rows
end Go.Proofs.YtannicghedpdpaaGreat
