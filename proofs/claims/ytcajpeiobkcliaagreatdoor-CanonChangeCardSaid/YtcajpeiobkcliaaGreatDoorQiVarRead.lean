/- A part of the proof. -/
import Derived.Test.YtcajpeiobkcliaaGreatDoorQiVarint
namespace Go.Proofs.YtcajpeiobkcliaaGreatDoor
open Go.RowKit
def vgo:Nat→Nat→List Nat→Nat×Nat×Nat
 |_,_,[]=>(0,0,10)
 |i,acc,b::r=>
  if i=9∧1<b then (0,0,11) else if 0<i∧b=0 then (0,0,12) else
  if b<128 then (acc+b*128^i,i+1,0) else vgo (i+1) (acc+(b-128)*128^i) r
def vread (l:List Nat):Nat×Nat×Nat:=vgo 0 0 l
theorem qvf (k:Nat) (hk:k≤9):(128:Nat)^k≤9223372036854775808:=Nat.le_trans (Nat.pow_le_pow_right (by omega) hk) (by decide)
theorem qx4 (acc y k:Nat) (hacc:acc<128^k):acc+y%128*128^k<128^ (k+1):=by
 have h1:y%128*128^k≤127*128^k:=Nat.mul_le_mul_right _ (by omega)
 rw [Nat.pow_succ];omega
end Go.Proofs.YtcajpeiobkcliaaGreatDoor
