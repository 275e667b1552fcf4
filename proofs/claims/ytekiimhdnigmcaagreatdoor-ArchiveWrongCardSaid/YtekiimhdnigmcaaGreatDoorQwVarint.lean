/- A part of the proof. -/
import Derived.Test.YtekiimhdnigmcaaGreatDoorRows
import Derived.Test.YtekiimhdnigmcaaGreatDoorQwBase
import Derived.WalkSpells
import Derived.WalkLawsBesides
import Derived.RangeFuncBound
import Derived.Shelf.Abstract
import Derived.Shelf.RegionOpen
import Derived.OwnWalkIn
import Derived.TacticsInMore
import Derived.LoopNIn
import Derived.LoopIn
namespace Go.Proofs.YtekiimhdnigmcaaGreatDoor
open Go.RowKit Go.Shelf
attribute [local go_sem] Oper.semAt_some
def iq:Nat→Nat→List (Nat×Bool)
 |0,_=>[]
 |f+1,x=>if x<128 then [(x,false)] else (x%128,true)::iq f (x/128)
theorem CY (f y:Nat) (h:y<128):iq (f+1) y=[(y,false)]:=by rw [iq,if_pos h]
theorem CZ (f y:Nat) (h:128≤y):iq (f+1) y=(y%128,true)::iq f (y/128):=by rw [iq,if_neg (by omega)]
theorem zib (y:Nat) (h:y<18446744073709551616):bits .and .u64 (y:Int) 127=((y%128:Nat):Int):=by
 have:bits .and .u64 (y:Int) 127=_:=u64_and_nat y 127 h (by omega)
 rw [this,nat_mask7]
theorem zic (y:Nat) (h:y<256):((y:Nat):Int)%256=(y:Int):=by omega
def bn (p:Nat×Bool):Nat:=if p.2 then p.1+128 else p.1
def au (x:Nat):List Nat:=(iq 10 x).map bn
theorem Ux:∀(f x:Nat),∀p∈iq f x,p.1<128
 |0,_,p,h=>by simp [iq] at h
 | f + 1, x, p, h => by
  by_cases a:x<128
  ·rw [CY f x a] at h;simp at h;subst h;exact a
  ·rw [CZ f x (by omega)] at h
   simp at h
   rcases h with rfl|h
   ·show x%128<128;omega
   ·exact Ux f _ p h
theorem Uy:∀(f x:Nat),(iq f x).length≤f
 |0,_=>by simp [iq]
 |f+1,x=>by
  by_cases a:x<128
  ·rw [CY f x a];simp
  ·rw [CZ f x (by omega)];simp;exact Uy f _
theorem Eo (y:Nat) (h:y<128):bits .or .u8 (y:Int) 128=((y+128:Nat):Int):=by
 have:bits .or .u8 (y:Int) 128=_:=u8_or_nat y 128 (by omega) (by omega)
 rw [this,Nat.or_comm,nat_join 7 128 y (by decide) (by omega)];omega
theorem AO (x:Nat):(au x).length≤10:=by unfold au;rw [List.length_map];exact Uy 10 x
theorem zm (a:List Nat):(a.flatMap au).length≤10*a.length:=by
 induction a with
 |nil=>simp
 |cons x r b=>have:=AO x;simp only [List.flatMap_cons,List.length_append,List.length_cons];omega
end Go.Proofs.YtekiimhdnigmcaaGreatDoor
