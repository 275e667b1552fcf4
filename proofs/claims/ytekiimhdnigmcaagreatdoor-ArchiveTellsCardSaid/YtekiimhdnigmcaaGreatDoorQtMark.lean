/- A part of the proof. -/
import Derived.Test.YtekiimhdnigmcaaGreatDoorQtSep6
namespace Go.Proofs.YtekiimhdnigmcaaGreatDoor
open Go.RowKit
section
variable {P:Program} {Q:Exit→Act→World→Prop} {a:Act} {W w:World} {n d:Nat} {D:List Deferred} {σ:List (Nat×Value)} {o:Oper} {K:Act→World→Prop} {fs:List Fact}
theorem qjw (w:World) (a:Addr) (n k:Nat) (h:k≠a.block):(w.freeze a n).heap[k]?=w.heap[k]?:=by
 unfold World.freeze
 split
 ·rfl
 ·simp only [Array.getElem?_modify]
  rw [if_neg om]
theorem below_freeze {B:Nat} {W w:World} (h:Below B W w) {a:Addr} (ha:B≤a.block) (n:Nat):Below B W (w.freeze a n):=by
 refine h.trans ⟨?_,?_,?_,?_,fun k hk=>qjw _ _ _ _ om⟩<;>unfold World.freeze<;>split<;>simp
theorem qsa {w:World} {g m:Nat} {cs:Array Value} {e:TypeId} (hb:w.heap[g]?=some (.cells cs e (0,0))):(w.freeze ⟨g,m,none⟩ 1).heap[g]?=some (.cells cs e (m,m+1)):=by
 unfold World.freeze
 rw [if_neg de]
 simp [Array.getElem?_modify,hb]
theorem q8y (Z:Fr a n D σ) (E:Mem W w fs) (i:Nat) {t e:TypeId} {x:Operand} {g m c:Nat} {cs:Array Value} {te:TypeId} (hop:o.op= .convert t t x) (hx:look σ x=some (.slice (some ⟨g,0,none⟩) m c)) (hi:fs[i]?=some (.blk g cs te)) (ht:P.underlying t=some (.slice e)) (he:P.underlying e=some (.int .u8)) (hd:o.dst=some d) (hdn:d<n)
  (k:∀a' w',Fr a' n D ((d,.slice (some ⟨g,0,none⟩) m c)::σ)→Mem W w' (fs.set i (.obj g (.cells cs te (cs.size,cs.size+1))))→K a' w'):o.wp P a w K Q:=by
 have hb:=E.blk hi
 have hh:=E.holds _ (List.mem_of_getElem? hi)
 have hsh:w.shape? g=some (te,cs.size):=by unfold World.shape?;rw [hb]
 have hr:(execOp a.eval o).run P w= .ok (.value (.slice (some ⟨g,0,none⟩) m c)) (w.freeze ⟨g,cs.size,none⟩ 1):=by
  unfold execOp
  simp [hop,Z.eval hx,convert,run_underlying ht,run_underlying he,markStringish,hsh]
 unfold Oper.wp
 rw [hr,Oper.upon_value,hd]
 refine k _ _ (Z.put hdn _) (E.turn hi (below_freeze E.below hh.1 1) (fun k hk hne=>qjw _ _ _ _ (fun e=>hne (by rw [e];rfl))) ⟨hh.1,qsa hb⟩ (fun g' hg'=> .inl hg'))
theorem Mem.zW (h:Mem W w fs) {i g:Nat} {cs:Array Value} {t:TypeId} {q:Nat×Nat} {size n:Nat} (hi:fs[i]?=some (.obj g (.cells cs t q))) (hn:cs.size=n*size):Rd w w.heap.size size (some ⟨g,0,none⟩) n cs.toList:=
 have hb:w.heap[g]?=some (.cells cs t q):=(h.holds _ (List.mem_of_getElem? hi)).2
 ⟨by simpa using hn,fun _=>⟨_,rfl,qY hb,fun j u hu=>by
  rw [Addr.add_mid,Nat.zero_add]
  simp only [World.cell?,hb]
  simpa using hu⟩⟩
end
end Go.Proofs.YtekiimhdnigmcaaGreatDoor
