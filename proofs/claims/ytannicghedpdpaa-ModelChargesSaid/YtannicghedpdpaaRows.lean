/-
  No cell of these rows narrows 'for every input' (looked for: loops, veiled, ifaces, maps, wideKeys, modest, calm, conditions, laid).
  DERIVED. THE GIVEN ROWS OF THIS SEAT. 6 by the template 'for every input the law returns true; each argument reads behind the call as it read before'; 0 by the template 'total and deterministic' (their statements: YtannicghedpdpaaTotals.lean).
  GIVEN WITH THE SEED: the statements are not yours to turn. If you find one false, say at which input.
  Laid BY PROGRAM, IN A SANDBOX (cutbox-rows.mjs): the forced cells as the released guide's own fill.sh prints them over the translation 7c1a79fe249d2b9f… (all of the seat's roots in one cut). By AI agents, Wed Nov 11 2026. No macro, syntax, notation, axiom, sorry.
-/
import Derived.Test.YtannicghedpdpaaChecked
import GoSem.Claim
import GoSem.ClaimJoined
import GoSem.ClaimMapViews
import Derived.JoinedTies
import Derived.KernelRfl
namespace Go.Proofs.Ytannicghedpdpaa
/- THE CELL 'sum', in the pinned program and in every row, IS THE sha256 OF THE DUMP (.gsa) THAT YtannicghedpdpaaProg.lean LOADS. Nothing in Lean hashes anything: it is a label: what it is worth is what the hold of that sum in a sandbox is worth. -/
noncomputable def Try.pinned : Pinned := { name := "ytannicghedpdpaa", sum := "7c1a79fe249d2b9f037d23018e54d16c0571dc00ae86e2c74ab16426a4d76c72", checked := Try.checked }
namespace Rows
def none {H : Type} : Left H := { results := [], args := [] }

/-- 'quantumlaw30.ModelOne': WHATEVER THE INPUT: true; the input reads as it did. -/
def modelOneSpec : ChangeSpec := { name := "modelOne", fn := fun _ => fun
  | [d1, d2] => { results := [.lit (.bool true)], args := [d1, d2] }
  | _ => none }
def modelOneRow : OpenClaim := { program := "ytannicghedpdpaa", sum := "7c1a79fe249d2b9f037d23018e54d16c0571dc00ae86e2c74ab16426a4d76c72", func := "quantum/quantumlaw30.ModelOne", spec := "modelOne", inPlace := ["slices.overlaps[quantum/api.Task]"], unfollowed := true, recurses := true, apart := false }
def ModelOneSaid : Prop := modelOneRow.holds Try.pinned (OpenSpec.ofChange modelOneSpec)

/-- ITS FALSE NEIGHBOUR: 'it returns false'. Refute it at one input. -/
def modelOneWrong : ChangeSpec := { name := "modelOne", fn := fun _ => fun
  | [d1, d2] => { results := [.lit (.bool false)], args := [d1, d2] }
  | _ => none }
def ModelOneWrongFalsely : Prop := modelOneRow.holds Try.pinned (OpenSpec.ofChange modelOneWrong)

/-- 'quantumlaw30.ModelCharges': WHATEVER THE INPUT: true; the input reads as it did. -/
def modelChargesSpec : ChangeSpec := { name := "modelCharges", fn := fun _ => fun
  | [d1, d2, d3, d4] => { results := [.lit (.bool true)], args := [d1, d2, d3, d4] }
  | _ => none }
def modelChargesRow : OpenClaim := { program := "ytannicghedpdpaa", sum := "7c1a79fe249d2b9f037d23018e54d16c0571dc00ae86e2c74ab16426a4d76c72", func := "quantum/quantumlaw30.ModelCharges", spec := "modelCharges", inPlace := ["slices.overlaps[quantum/api.Task]"], unfollowed := true, recurses := true, apart := false }
def ModelChargesSaid : Prop := modelChargesRow.holds Try.pinned (OpenSpec.ofChange modelChargesSpec)

/-- ITS FALSE NEIGHBOUR: 'it returns false'. Refute it at one input. -/
def modelChargesWrong : ChangeSpec := { name := "modelCharges", fn := fun _ => fun
  | [d1, d2, d3, d4] => { results := [.lit (.bool false)], args := [d1, d2, d3, d4] }
  | _ => none }
def ModelChargesWrongFalsely : Prop := modelChargesRow.holds Try.pinned (OpenSpec.ofChange modelChargesWrong)

/-- 'quantumlaw30.ModelFirst': WHATEVER THE INPUT: true; the input reads as it did. -/
def modelFirstSpec : ChangeSpec := { name := "modelFirst", fn := fun _ => fun
  | [d1, d2, d3] => { results := [.lit (.bool true)], args := [d1, d2, d3] }
  | _ => none }
def modelFirstRow : OpenClaim := { program := "ytannicghedpdpaa", sum := "7c1a79fe249d2b9f037d23018e54d16c0571dc00ae86e2c74ab16426a4d76c72", func := "quantum/quantumlaw30.ModelFirst", spec := "modelFirst", inPlace := ["slices.overlaps[quantum/api.Task]"], unfollowed := true, recurses := true, apart := false }
def ModelFirstSaid : Prop := modelFirstRow.holds Try.pinned (OpenSpec.ofChange modelFirstSpec)

/-- ITS FALSE NEIGHBOUR: 'it returns false'. Refute it at one input. -/
def modelFirstWrong : ChangeSpec := { name := "modelFirst", fn := fun _ => fun
  | [d1, d2, d3] => { results := [.lit (.bool false)], args := [d1, d2, d3] }
  | _ => none }
def ModelFirstWrongFalsely : Prop := modelFirstRow.holds Try.pinned (OpenSpec.ofChange modelFirstWrong)

/-- 'quantumlaw30.ModelWrong': WHATEVER THE INPUT: true; the input reads as it did. -/
def modelWrongSpec : ChangeSpec := { name := "modelWrong", fn := fun _ => fun
  | [d1, d2, d3, d4] => { results := [.lit (.bool true)], args := [d1, d2, d3, d4] }
  | _ => none }
def modelWrongRow : OpenClaim := { program := "ytannicghedpdpaa", sum := "7c1a79fe249d2b9f037d23018e54d16c0571dc00ae86e2c74ab16426a4d76c72", func := "quantum/quantumlaw30.ModelWrong", spec := "modelWrong", inPlace := ["slices.overlaps[quantum/api.Task]"], unfollowed := true, recurses := true, apart := false }
def ModelWrongSaid : Prop := modelWrongRow.holds Try.pinned (OpenSpec.ofChange modelWrongSpec)

/-- ITS FALSE NEIGHBOUR: 'it returns false'. Refute it at one input. -/
def modelWrongWrong : ChangeSpec := { name := "modelWrong", fn := fun _ => fun
  | [d1, d2, d3, d4] => { results := [.lit (.bool false)], args := [d1, d2, d3, d4] }
  | _ => none }
def ModelWrongWrongFalsely : Prop := modelWrongRow.holds Try.pinned (OpenSpec.ofChange modelWrongWrong)

/-- 'quantumlaw30.ModelRight': WHATEVER THE INPUT: true; the input reads as it did. -/
def modelRightSpec : ChangeSpec := { name := "modelRight", fn := fun _ => fun
  | [d1, d2] => { results := [.lit (.bool true)], args := [d1, d2] }
  | _ => none }
def modelRightRow : OpenClaim := { program := "ytannicghedpdpaa", sum := "7c1a79fe249d2b9f037d23018e54d16c0571dc00ae86e2c74ab16426a4d76c72", func := "quantum/quantumlaw30.ModelRight", spec := "modelRight", inPlace := ["slices.overlaps[quantum/api.Task]"], unfollowed := true, recurses := true, apart := false }
def ModelRightSaid : Prop := modelRightRow.holds Try.pinned (OpenSpec.ofChange modelRightSpec)

/-- ITS FALSE NEIGHBOUR: 'it returns false'. Refute it at one input. -/
def modelRightWrong : ChangeSpec := { name := "modelRight", fn := fun _ => fun
  | [d1, d2] => { results := [.lit (.bool false)], args := [d1, d2] }
  | _ => none }
def ModelRightWrongFalsely : Prop := modelRightRow.holds Try.pinned (OpenSpec.ofChange modelRightWrong)

/-- 'quantumlaw30.ModelAgain': WHATEVER THE INPUT: true; the input reads as it did. -/
def modelAgainSpec : ChangeSpec := { name := "modelAgain", fn := fun _ => fun
  | [d1, d2, d3] => { results := [.lit (.bool true)], args := [d1, d2, d3] }
  | _ => none }
def modelAgainRow : OpenClaim := { program := "ytannicghedpdpaa", sum := "7c1a79fe249d2b9f037d23018e54d16c0571dc00ae86e2c74ab16426a4d76c72", func := "quantum/quantumlaw30.ModelAgain", spec := "modelAgain", inPlace := ["slices.overlaps[quantum/api.Task]"], unfollowed := true, recurses := true, apart := false }
def ModelAgainSaid : Prop := modelAgainRow.holds Try.pinned (OpenSpec.ofChange modelAgainSpec)

/-- ITS FALSE NEIGHBOUR: 'it returns false'. Refute it at one input. -/
def modelAgainWrong : ChangeSpec := { name := "modelAgain", fn := fun _ => fun
  | [d1, d2, d3] => { results := [.lit (.bool false)], args := [d1, d2, d3] }
  | _ => none }
def ModelAgainWrongFalsely : Prop := modelAgainRow.holds Try.pinned (OpenSpec.ofChange modelAgainWrong)

/- THE SECOND FORM. 'bulk': how many values and letters a reading holds, each counted each time it is reached (what is shared counts as often as it is met; a slice's spare places count too). A statement '..UptoSaid' is the law's where the arguments, and the package variables that the reading takes, are together of bulk at most 1048576: NARROWER than '..Said'. Prove '..Said' where nothing that the law and all that it calls make is longer than what came in: it says more and counts as full. Else prove '..UptoSaid'. A law counts once. -/
mutual
def uptoBulk {H : Type} : DataW H → Nat
  | .lit (.string bytes) => bytes.length + 1
  | .lit _ => 1
  | .nil => 1
  | .ptr d => uptoBulk d + 1
  | .slice elems spare => uptoBulkAll elems + uptoBulkAll spare + 1
  | .agg parts => uptoBulkAll parts + 1
  | .iface _ d => uptoBulk d + 1
  | .map entries => uptoBulkEntries entries + 1
  | .held _ => 1
def uptoBulkAll {H : Type} : List (DataW H) → Nat
  | [] => 0
  | d :: r => uptoBulk d + uptoBulkAll r
def uptoBulkEntries {H : Type} : List (Lit × DataW H) → Nat
  | [] => 0
  | x :: r => uptoBulkEntry x + uptoBulkEntries r
def uptoBulkEntry {H : Type} : Lit × DataW H → Nat
  | (.string bytes, d) => bytes.length + uptoBulk d + 1
  | (_, d) => uptoBulk d + 1
 end
def uptoSmall : (H : Type) → List (DataW H) → Bool := fun _ ds => decide (uptoBulkAll ds ≤ 1048576)
def OpenSpec.upto (s : _root_.Go.ChangeSpec) : _root_.Go.OpenSpec := { _root_.Go.OpenSpec.ofChange s with cond := some uptoSmall }

/-- 'quantumlaw30.ModelOne', WHERE WHAT IT READS IS OF BULK AT MOST 1048576: true; the input reads as it did. -/
def modelOneUptoRow : OpenClaim := { program := "ytannicghedpdpaa", sum := "7c1a79fe249d2b9f037d23018e54d16c0571dc00ae86e2c74ab16426a4d76c72", func := "quantum/quantumlaw30.ModelOne", spec := "modelOne", inPlace := ["slices.overlaps[quantum/api.Task]"], unfollowed := true, recurses := true, apart := false, narrowed := true }
def ModelOneUptoSaid : Prop := modelOneUptoRow.holds Try.pinned (OpenSpec.upto modelOneSpec)

/-- 'quantumlaw30.ModelCharges', WHERE WHAT IT READS IS OF BULK AT MOST 1048576: true; the input reads as it did. -/
def modelChargesUptoRow : OpenClaim := { program := "ytannicghedpdpaa", sum := "7c1a79fe249d2b9f037d23018e54d16c0571dc00ae86e2c74ab16426a4d76c72", func := "quantum/quantumlaw30.ModelCharges", spec := "modelCharges", inPlace := ["slices.overlaps[quantum/api.Task]"], unfollowed := true, recurses := true, apart := false, narrowed := true }
def ModelChargesUptoSaid : Prop := modelChargesUptoRow.holds Try.pinned (OpenSpec.upto modelChargesSpec)

/-- 'quantumlaw30.ModelFirst', WHERE WHAT IT READS IS OF BULK AT MOST 1048576: true; the input reads as it did. -/
def modelFirstUptoRow : OpenClaim := { program := "ytannicghedpdpaa", sum := "7c1a79fe249d2b9f037d23018e54d16c0571dc00ae86e2c74ab16426a4d76c72", func := "quantum/quantumlaw30.ModelFirst", spec := "modelFirst", inPlace := ["slices.overlaps[quantum/api.Task]"], unfollowed := true, recurses := true, apart := false, narrowed := true }
def ModelFirstUptoSaid : Prop := modelFirstUptoRow.holds Try.pinned (OpenSpec.upto modelFirstSpec)

/-- 'quantumlaw30.ModelWrong', WHERE WHAT IT READS IS OF BULK AT MOST 1048576: true; the input reads as it did. -/
def modelWrongUptoRow : OpenClaim := { program := "ytannicghedpdpaa", sum := "7c1a79fe249d2b9f037d23018e54d16c0571dc00ae86e2c74ab16426a4d76c72", func := "quantum/quantumlaw30.ModelWrong", spec := "modelWrong", inPlace := ["slices.overlaps[quantum/api.Task]"], unfollowed := true, recurses := true, apart := false, narrowed := true }
def ModelWrongUptoSaid : Prop := modelWrongUptoRow.holds Try.pinned (OpenSpec.upto modelWrongSpec)

/-- 'quantumlaw30.ModelRight', WHERE WHAT IT READS IS OF BULK AT MOST 1048576: true; the input reads as it did. -/
def modelRightUptoRow : OpenClaim := { program := "ytannicghedpdpaa", sum := "7c1a79fe249d2b9f037d23018e54d16c0571dc00ae86e2c74ab16426a4d76c72", func := "quantum/quantumlaw30.ModelRight", spec := "modelRight", inPlace := ["slices.overlaps[quantum/api.Task]"], unfollowed := true, recurses := true, apart := false, narrowed := true }
def ModelRightUptoSaid : Prop := modelRightUptoRow.holds Try.pinned (OpenSpec.upto modelRightSpec)

/-- 'quantumlaw30.ModelAgain', WHERE WHAT IT READS IS OF BULK AT MOST 1048576: true; the input reads as it did. -/
def modelAgainUptoRow : OpenClaim := { program := "ytannicghedpdpaa", sum := "7c1a79fe249d2b9f037d23018e54d16c0571dc00ae86e2c74ab16426a4d76c72", func := "quantum/quantumlaw30.ModelAgain", spec := "modelAgain", inPlace := ["slices.overlaps[quantum/api.Task]"], unfollowed := true, recurses := true, apart := false, narrowed := true }
def ModelAgainUptoSaid : Prop := modelAgainUptoRow.holds Try.pinned (OpenSpec.upto modelAgainSpec)

end Rows
end Go.Proofs.Ytannicghedpdpaa
