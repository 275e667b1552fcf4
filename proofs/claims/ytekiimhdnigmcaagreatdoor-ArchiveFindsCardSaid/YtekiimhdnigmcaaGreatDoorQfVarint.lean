/- A part of the proof. -/
import Derived.Test.YtekiimhdnigmcaaGreatDoorRows
import Derived.Test.YtekiimhdnigmcaaGreatDoorQfBase
import Derived.WalkSpells
import Derived.WalkLawsBesides
import Derived.RangeFuncBound
import Derived.Shelf.Abstract
import Derived.Shelf.RegionOpen
import Derived.OwnWalkIn
import Derived.TacticsInMore
import Derived.LoopNIn
import Derived.LoopIn
namespace Go.Proofs.YtekiimhdnigmcaaGreatDoor
open Go.RowKit Go.Shelf
attribute [local go_sem] Oper.semAt_some
def gX:Nat→Nat→List (Nat×Bool)
 |0,_=>[]
 |f+1,x=>if x<128 then [(x,false)] else (x%128,true)::gX f (x/128)
theorem Cy (f y:Nat) (h:y<128):gX (f+1) y=[(y,false)]:=by rw [gX,if_pos h]
theorem Cz (f y:Nat) (h:128≤y):gX (f+1) y=(y%128,true)::gX f (y/128):=by rw [gX,if_neg (by omega)]
theorem zhq (y:Nat) (h:y<18446744073709551616):bits .and .u64 (y:Int) 127=((y%128:Nat):Int):=by
 have:bits .and .u64 (y:Int) 127=_:=u64_and_nat y 127 h (by omega)
 rw [this,nat_mask7]
theorem zhr (y:Nat) (h:y<256):((y:Nat):Int)%256=(y:Int):=by omega
def bn (p:Nat×Bool):Nat:=if p.2 then p.1+128 else p.1
def au (x:Nat):List Nat:=(gX 10 x).map bn
theorem TH:∀(f x:Nat),∀p∈gX f x,p.1<128
 |0,_,p,h=>by simp [gX] at h
 | f + 1, x, p, h => by
  by_cases a:x<128
  ·rw [Cy f x a] at h;simp at h;subst h;exact a
  ·rw [Cz f x (by omega)] at h
   simp at h
   rcases h with rfl|h
   ·show x%128<128;omega
   ·exact TH f _ p h
theorem TI:∀(f x:Nat),(gX f x).length≤f
 |0,_=>by simp [gX]
 |f+1,x=>by
  by_cases a:x<128
  ·rw [Cy f x a];simp
  ·rw [Cz f x (by omega)];simp;exact TI f _
theorem D6 (y:Nat) (h:y<128):bits .or .u8 (y:Int) 128=((y+128:Nat):Int):=by
 have:bits .or .u8 (y:Int) 128=_:=u8_or_nat y 128 (by omega) (by omega)
 rw [this,Nat.or_comm,nat_join 7 128 y (by decide) (by omega)];omega
theorem Al (x:Nat):(au x).length≤10:=by unfold au;rw [List.length_map];exact TI 10 x
theorem zk (a:List Nat):(a.flatMap au).length≤10*a.length:=by
 induction a with
 |nil=>simp
 |cons x r b=>have:=Al x;simp only [List.flatMap_cons,List.length_append,List.length_cons];omega
end Go.Proofs.YtekiimhdnigmcaaGreatDoor
