/- A part of the proof. -/
import Derived.Test.YtekiimhdnigmcaaGreatDoorQsRef06d
namespace Go.Proofs.YtekiimhdnigmcaaGreatDoor
open Go.RowKit
theorem Rd.q7h (w:World) (x:Value) (e:TypeId) (b:Nat) (hb:w.heap.size=b):Rd (w.alloc (.cells #[x] e)) (b+1) 1 (some ⟨b,0,none⟩) 1 [x]:=by subst hb;exact Rd.one w x e
theorem WS (k:Nat):(List.range 7).filter (fun i=>(aj k).contains i)=aj k:=by
 obtain rfl|rfl|rfl|rfl|rfl|rfl|rfl|rfl|rfl|rfl|⟨hu,_⟩:=Lr k
 all_goals first|decide|(rw [hu];decide)
def upTo (kd k:Nat):List Nat:=(List.range k).filter fun i=>(aj kd).contains i
theorem FB {kd k:Nat} (h:(aj kd).contains k=true):upTo kd (k+1)=upTo kd k++[k]:=by unfold upTo;rw [List.range_succ,List.filter_append];simp only [List.filter_cons,h];rfl
theorem Kr {kd k:Nat} (h:(aj kd).contains k=false):upTo kd (k+1)=upTo kd k:=by unfold upTo;rw [List.range_succ,List.filter_append];simp only [List.filter_cons,h];simp
theorem Kt (kd:Nat):upTo kd 7=aj kd:=WS kd
theorem Om (kd k:Nat) (hk:k≤7):(upTo kd k).length≤7:=by unfold upTo;exact Nat.le_trans (List.length_filter_le _ _) (by simp;exact hk)
def q6q (w:World) (kd:Nat) (v i:Value) (wr:World):Prop:=
 ∃(k n:Nat) (xs:List Value),k≤7∧i= .int .i64 (k:Int)∧n=(upTo kd k).length∧n≤7∧wr.ownsRow w.heap.size 9 1 v n xs∧Below w.heap.size w wr
structure nX (w:World) (n:Nat) (r:Ending) (w':World):Prop where
 ret:∃v xs,r= .returned v∧w'.ownsRow w.heap.size 9 1 v n xs
 below:Below w.heap.size w w'
set_option maxRecDepth 100000 in
set_option maxHeartbeats 2000000 in
theorem WT (kd:Nat) (hkd:kd<256) (w:World):
  Calls Tryz.prog 308 #[.int .u8 (kd:Int)] w (nX w (aj kd).length):=by
 have HH:=hide (fun i (hi:i<7) W=>Ko kd i hi hkd W)
 go_enter Tryz.func308,Tryz.ntmps308
 go_wp2
 go_loopw [3,4] (q6q w kd) (fun _ i _=>7- (intOf i).toNat)
 case atStart=>exact ⟨0,0,[],by omega,rfl,rfl,by omega,World.ownsRow_nil _ _ _ _,Below.refl _ _⟩
 case round=>
  obtain ⟨k,n,xs,hk,rfl,hn,Oo,hown,hb⟩:=hrel
  have HN:=hide hn
  clear hn
  by_cases hlt:k<7
  ·have gQ:=HH.out k hlt wr
   have uq:=Om kd (k+1) (by omega)
   by_cases hc:(aj kd).contains k=true
   ·rw [hc] at gQ
    have gQ:=hide gQ
    have HY:=hide (FB hc)
    clear hc
    rw [HY.out,List.length_append] at uq
    have hn6:n+1≤7:=by rw [HN.out];simpa using uq
    obtain ⟨kk,HK⟩:∃kk,Hid (kk=k):=⟨k,hide rfl⟩
    obtain rfl|rfl|rfl|rfl|rfl|rfl|rfl:k=0∨k=1∨k=2∨k=3∨k=4∨k=5∨k=6:=by omega
    all_goals
     go_wp2_with (first|(go_at_call 288;refine gQ.out.mono ?_;rintro r w2 ⟨rfl,rfl⟩)|(at_builtin;refine BR rfl rfl Rn ((hown.alloc _).alloc _) rfl (Rd.q7h (World.alloc w2 _) _ _ (w2.heap.size+1) (by simp)) rfl (by simp [Value.oneCell']) (by omega) (by omega) (by simp;have:=hb.size;omega) ?_;intro A2 c2 w2 hown1 iH l8))
     refine ⟨⟨kk+1,n+1,_,?_,?_,?_,hn6,hown1,((hb.alloc hb.size _).alloc (by simp;have:=hb.size;omega) _).grown iH (by simp;have:=hb.size;omega) (fun g hg=>(hown.lt g hg).1)⟩,by simp [intOf]⟩
     ·rw [HK.out];omega
     ·rw [HK.out];rfl
     ·rw [HK.out,HY.out,List.length_append,←HN.out];rfl
   ·have hcf:(aj kd).contains k=false:=by simpa using hc
    rw [hcf] at gQ
    have gQ:=hide gQ
    have HY:=hide (Kr hcf)
    clear hc hcf
    have hlt':(k:Int)<7:=by omega
    go_wp2_with (go_at_call 288;refine gQ.out.mono ?_;rintro r w2 ⟨rfl,rfl⟩)
    exact ⟨⟨k+1,n,xs,by omega,by go_num,by rw [HY.out];exact HN.out,Oo,hown,hb⟩,by simp [intOf];omega⟩
  ·obtain rfl:k=7:=by omega
   go_wp2
   go_ret
   refine ⟨⟨_,xs,rfl,?_⟩,hb⟩
   have:=HN.out
   rw [Kt] at this
   rw [←this];exact hown
end Go.Proofs.YtekiimhdnigmcaaGreatDoor
