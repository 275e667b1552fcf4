/- A part of the proof. -/
import Derived.Test.YtcajpeiobkcliaaGreatDoorQiRound
namespace Go.Proofs.YtcajpeiobkcliaaGreatDoor
open Go.RowKit
section
variable {P:Program} {W w:World} {l n:Nat} {σ:List (Nat×Value)}
theorem Fr.zip1 {tmps:Array Value} {p1:Nat} {v1:Value} (h:Fr {tmps:=tmps,defers:=[]} n [] σ) (h1:p1<n):Fr {tmps:=(#[p1].zip #[v1]).foldl (fun t (p,v)=>t.setIfInBounds p v) tmps,defers:=[]} n [] ((p1,v1)::σ):=by
 have h3:=h.put h1 v1
 simpa [Act.put] using h3
theorem qky {rec:LoopState→Option Code→Loop} {assign body:Code} {B p1:Nat} {v1:Value} {F:List Fact} {R:Ending→World→Prop} (hrec:∃fn tmps,rec=qa6 fn tmps #[p1] assign body B∧Fr {tmps:=tmps,defers:=[]} n [] σ) (I:Mem W w (.obj l (.loop (rec .ready none))::F)) (h1:p1<n)
  (h:∀a,Fr a n [] ((p1,v1)::σ)→assign.wpIn (Fence.wide.inRound l) 0 P (Exit.then (fun a1 w1=>∃F1,Mem W w1 (.obj l (.loop (rec .ready none))::F1)∧∀w2,Mem W w2 (.obj l (.loop (rec .busy none))::F1)→body.wpIn (Fence.wide.inRound l) 0 P (roundEnd W l rec R) a1 w2) (fun _ _ _=>False)) a w):YieldAt Fence.wide 0 P l #[v1] w R:=by
 obtain ⟨fn,tmps,rfl,Z⟩:=hrec
 exact qgp I rfl (h _ (Z.zip1 h1))
def qsw (W:World) (fr:List Fact) (J:List Fact→Prop) (e:Ending) (w':World):Prop:=∃F',Mem W w' (F'++fr)∧e= .returned (.bool true)∧J F'
theorem q3 {W:World} {fr:List Fact} {J:List Fact→Prop}:∀(e:Ending) (w':World),qsw W fr J e w'→∃v,e= .returned v
 |_,_,⟨_,_,h,_⟩=>⟨_,h⟩
def qsx (W:World) (J:List Fact→Prop) (r:Ending) (w':World):Prop:=∃v,r= .returned v∧∃F',Mem W w' F'∧J F'
def qog (P:Program) (W:World) (lp n:Nat) (Inv:Nat→List Fact→Prop):Prop:=
 ∀(i:Nat) (F fr:List Fact) (w:World) (x:Int),Inv i F→i<n→Mem W w (F++fr)→YieldAt Fence.wide 0 P lp #[.int .i64 x] w (qsw W fr (Inv (i+1)))
end
end Go.Proofs.YtcajpeiobkcliaaGreatDoor
