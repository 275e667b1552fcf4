/- A part of the proof. -/
import Derived.Test.YtekiimhdnigmcaaGreatDoorQwFields
namespace Go.Proofs.YtekiimhdnigmcaaGreatDoor
open Go.RowKit
def Ev.zero:Ev:=⟨0,0,0,0,0,0,0,0,0,0,0⟩
def Ev.base (e:Ev):Ev:={Ev.zero with seq:=e.seq,time:=e.time,cpu:=e.cpu,kind:=e.kind}
def Ev.Nh (e:Ev) (i:Nat) (v:Int) (m:Nat):Ev:=
 match i with
 |0=>{e with task:=v}
 |1=>{e with group:=v}
 |2=>{e with to:=v}
 |3=>{e with weight:=v}
 |4=>{e with ticks:=v}
 |5=>{e with mask:=m}
 |_=>{e with got:=v}
def Ev.put (e:Ev) (i x:Nat):Ev:=e.Nh i (wrap64 (x:Int)) x
def Ev.fill (e:Ev) (l:List (Nat×Nat)):Ev:=l.foldl (λe p=>e.put p.1 p.2) e
def Ev.made (e:Ev) (vs:List Nat):Ev:=e.base.fill ((aR e.kind).zip vs)
def Ev.zh6 (e:Ev) (vs:List Nat):Nat:=
 if e.kind=0∨10<e.kind then 60 else if vs.length≠(aR e.kind).length then 2 else if (e.made vs).check≠0 then 61 else 0
structure Et (w:World) (e:Ev) (err:Nat) (r:Ending) (w':World):Prop where
 ret:r= .returned (.tuple #[.agg e.cells,.int .i64 (err:Int)])
 below:Below w.heap.size w w'
end Go.Proofs.YtekiimhdnigmcaaGreatDoor
