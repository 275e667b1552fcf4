/- A part of the proof. -/
import Derived.Test.YtekiimhdnigmcaaGreatDoorQtSep7
namespace Go.Proofs.YtekiimhdnigmcaaGreatDoor
open Go.RowKit
theorem Mem.sub {W w:World} {fs:List Fact} (h:Mem W w fs) {i g:Nat} {cs:Array Value} {t:TypeId} (hi:fs[i]?=some (.blk g cs t)) (off:Nat) {ds:Array Value} (he:(cs.toList.drop off).take ds.size=ds.toList):w.rangeAt g off ds.toList:=fun j u hu=>by
 have hr:w.rangeAt g 0 cs.toList:=qb (h.blk hi)
 have hc:cs.toList[off+j]?=some u:=by
  rw [←he,List.getElem?_take] at hu
  split at hu
  ·rwa [List.getElem?_drop] at hu
  ·cases hu
 have:=hr (off+j) u hc
 rwa [Nat.zero_add] at this
theorem qy3 {α:Type} (F:α→Value) (l:List α) (k:Nat) (x:α) (hk:k<l.length):putAt (l.map F) (k*1) [F x]=(l.set k x).map F:=by
 have h1:∀l:List α,l.map F=l.flatMap fun x=>[F x]:=fun l=>by induction l with
  |nil=>rfl
  |cons a r ih=>rw [List.map_cons,List.flatMap_cons,ih];rfl
 rw [h1,h1,←VN (fun x=>[F x]) 1 (fun _=>rfl) l k x hk]
end Go.Proofs.YtekiimhdnigmcaaGreatDoor
