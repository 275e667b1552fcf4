/- A part of the proof. -/
import Derived.Test.YtekiimhdnigmcaaGreatDoorQtSep9
namespace Go.Proofs.YtekiimhdnigmcaaGreatDoor
open Go.RowKit
theorem Mem.q9z {W w:World} {fs fs':List Fact} (h:Mem W w fs) (n:Nat) (is:List Nat) (hn:is.Nodup) (hlt:(is.all (· <n))=true) (he:Go.Proofs.YtekiimhdnigmcaaGreatDoor.picks fs is++fs.drop n=fs'):Mem W w fs':=by
 subst he
 refine ⟨h.below,fun f hf=>?_,List.pairwise_append.2 ⟨Sl h.apart hn,?_,?_⟩⟩
 ·rcases List.mem_append.1 hf with hf|hf
  ·obtain ⟨j,_,hj⟩:=List.mem_filterMap.1 hf
   exact h.holds f (List.mem_of_getElem? hj)
  ·exact h.holds f (List.mem_of_mem_drop hf)
 ·exact h.apart.sublist (List.drop_sublist _ _)
 ·intro f hf g hg
  obtain ⟨j,hj,KQ⟩:=List.mem_filterMap.1 hf
  have hjn:j<n:=by simpa using List.all_eq_true.1 hlt j hj
  obtain ⟨i,hi,hig⟩:=List.getElem_of_mem hg
  rw [List.getElem_drop] at hig
  rw [List.length_drop] at hi
  obtain ⟨hjl,hje⟩:=List.getElem?_eq_some_iff.1 KQ
  have:=List.pairwise_iff_getElem.1 h.apart j (n+i) hjl om om
  rwa [hje,hig] at this
end Go.Proofs.YtekiimhdnigmcaaGreatDoor
