/- A part of the proof. -/
import Derived.Test.YtekiimhdnigmcaaGreatDoorQtWith
namespace Go.Proofs.YtekiimhdnigmcaaGreatDoor
open Go.RowKit
theorem qi4 (k:Nat):k=1∨k=2∨k=3∨k=4∨k=5∨k=6∨k=7∨k=8∨k=9∨k=10∨(aJ k=[]∧(k=0∨10<k)):=by
 by_cases h:k=0∨10<k
 ·have:aJ k=[]:=by unfold aJ;split<;>first|rfl|omega
  simp [this,h]
 ·omega
end Go.Proofs.YtekiimhdnigmcaaGreatDoor
