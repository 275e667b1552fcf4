/- A part of the proof. -/
import Derived.Test.YtcajpeiobkcliaaGreatDoorQiSep8
import Derived.Test.YtcajpeiobkcliaaGreatDoorQiSep10
namespace Go.Proofs.YtcajpeiobkcliaaGreatDoor
open Go.RowKit
section
variable {W w w':World} {fs gs fs':List Fact}
theorem Mem.perm (h:Mem W w fs) (hp:fs.Perm fs'):Mem W w fs':=
 ⟨h.below,fun f hf=>h.holds f (hp.mem_iff.2 hf),(hp.pairwise_iff (fun {_ _} hab=>hab.symm)).1 h.apart⟩
theorem Mem.subl (h:Mem W w fs) (hs:fs'.Sublist fs):Mem W w fs':=
 ⟨h.below,fun f hf=>h.holds f (hs.subset hf),h.apart.sublist hs⟩
theorem Fact.holds.base {b b':Nat} {f:Fact} (h:f.holds b w) (hb:b'≤b):f.holds b' w:=by
 cases f with
 |blk g cs t=>exact ⟨Nat.le_trans hb h.1,h.2⟩
 |obj g o=>exact ⟨Nat.le_trans hb h.1,h.2⟩
 |row v n xs e size=>exact qn5 h hb
theorem Mem.join (h:Mem W w fs) (k:Mem w w' gs):Mem W w' (gs++fs):=by
 have hf:=h.call k.below
 refine ⟨hf.below,?_,?_⟩
 ·intro f hm
  rcases List.mem_append.1 hm with hm|hm
  ·exact (k.holds f hm).base h.size
  ·exact hf.holds f hm
 ·refine List.pairwise_append.2 ⟨k.apart,h.apart,?_⟩
  intro f hfm g hgm x hx hgx
  have h1:=((k.holds f hfm).lt hx).1
  have h2:=((h.holds g hgm).lt hgx).2
  omega
theorem Mem.rdMem {A:Option Addr} {n c:Nat} {xs:List Value} {e:TypeId} {size:Nat} (h:Mem W w fs) (hf:Fact.row (.slice A n c) n xs e size∈fs):Rd w w.heap.size size A n xs:=by
 obtain ⟨i,hi⟩:=List.mem_iff_getElem?.1 hf
 exact h.rd hi
structure Own where
 A:Option Addr
 n:Nat
 c:Nat
 xs:List Value
def Own.fact (e:TypeId) (size:Nat) (p:Own):Fact:= .row (.slice p.A p.n p.c) p.n p.xs e size
def ownsF (e:TypeId) (size:Nat) (ps:List Own):List Fact:=ps.map (Own.fact e size)
theorem Mem.q3r {e:TypeId} {size n c:Nat} {A:Option Addr} {xs:List Value} {ps:List Own} (h:Mem W w (.row (.slice A n c) n xs e size::(fs++ownsF e size ps))):Mem W w (fs++ownsF e size (ps++[⟨A,n,c,xs⟩])):=by
 refine h.perm ?_
 unfold ownsF
 rw [List.map_append,←List.append_assoc]
 exact (List.perm_append_singleton _ _).symm
theorem Mem.newTail (h:Mem W w fs) (e:TypeId) (size:Nat):Mem W w (fs++ownsF e size []):=by unfold ownsF;simpa using h
end
section
variable {P:Program} {ops:Array Oper} {Q:Exit→Act→World→Prop} {a:Act} {w:World}
end
end Go.Proofs.YtcajpeiobkcliaaGreatDoor
