/- A part of the proof. -/
import Derived.Test.YtieeckeaijdaeaaGreatDoorQaCod3
namespace Go.Proofs.YtieeckeaijdaeaaGreatDoor
open Go.RowKit
def cZ (e:Ev):List Value:=e.cells.toList
theorem nu (e:Ev):(cZ e).length=11:=rfl
def Gf (l:List Ev):Nat→Option Ev
 |0=>none
 |k+1=>l[k]?
def q6k (w:World) (l:List Ev) (n:Nat) (i:Value) (wr:World):Prop:=
 ∃k:Nat,k≤n∧i= .int .i64 (k:Int)∧bH l=di (Gf l k) k (l.drop k)∧Below w.heap.size w wr
structure yf (w:World) (q:Int×Nat) (r:Ending) (w':World):Prop where
 ret:r= .returned (.tuple #[.int .i64 q.1,.int .i64 (q.2:Int)])
 below:Below w.heap.size w w'
set_option maxRecDepth 100000 in
set_option maxHeartbeats 1000000 in
theorem Ex (A : Option Addr) (n c : Nat) (l : List Ev) (hok : ∀ e ∈ l, e.Ok) (B : Nat) (w : World) (hL : Laid B w) (hB : B ≤ w.heap.size) (hr : Rd w w.heap.size 11 A n (l.flatMap cZ)) (hn : n ≤ 140737488355328) :
  Calls Tryz.prog 123 #[.slice A n c] w (yf w (bH l)):=by
 have hlen:l.length=n:=by have:=hr.len;rw [qK cZ 11 nu] at this;omega
 have xg:=hide hlen
 have HRR:=hide hr
 have HL:=hide hL
 clear hlen hr hL
 go_enter Tryz.func123,Tryz.ntmps123
 go_wp2
 go_loopw [9] (q6k w l n) (fun i _=>n- (intOf i).toNat)
 case atStart=>exact ⟨0,by omega,rfl,rfl,Below.refl _ _⟩
 case round =>
  obtain ⟨k,hk,rfl,hsp,hb⟩:=hrel
  have hz:=hb.size
  have kL:=hide hsp
  clear hsp
  by_cases hlt:k<n
  ·obtain ⟨g,o,rfl,hgb,_,hcells⟩:=(HRR.out.below hb).struct nu (by omega) (by omega)
   have hkl:k<l.length:=by rw [xg.out];exact hlt
   have hE:=hide (hcells k hkl)
   have uj:=hok l[k] (List.getElem_mem _)
   have yg:=hide (show di (Gf l k) k (l.drop k)=if l[k].check≠0 then ((k:Int),l[k].check) else if (Gf l k).all (fun q=>l[k].after q)=false then ((k:Int),71) else di (some l[k]) (k+1) (l.drop (k+1)) by
    rw [List.drop_eq_getElem_cons hkl,di])
   have hpv:Hid (Gf l (k+1)=some l[k]):=hide (List.getElem?_eq_getElem hkl)
   obtain ⟨e,HE⟩:∃e,Hid (l[k]=e):=⟨_,hide rfl⟩
   rw [HE.out] at hE uj yg hpv
   have hE:=hide (show wr.rangeAt g (o+k*11) e.cells.toList from hE.out)
   have HC:=hide (fun W (h:Below wr.heap.size wr W)=>FP e uj B W ((HL.out.below hb hB).below h (by omega)) (by have:=h.size;omega))
   have hbn:Below wr.heap.size wr (wr.alloc (.cells e.cells 32)):=(Below.refl _ _).alloc (Nat.le_refl _) _
   have sN:=dN.new wr e 32
   have hgw:g<wr.heap.size:=by omega
   by_cases hck:e.check=0
   ·have hne : ((e.check : Int) != 0) = false := by rw [bne_eq_false_iff_eq]; omega
    have Gg:=hide hck
    clear hck
    rcases k with _|m
    ·have hg0:decide ((0:Int)<((0:Nat):Int))=false:=rfl
     go_wp2_with (first
      |(with_reducible refine zm hE.out rfl rfl rfl aU (qo e) ?_)
      |(refine BN rfl rfl rfl rfl aU rfl (qo e) (l9 e) ?_)
      |(with_reducible refine zm (qc (World.alloc_heap_new wr (.cells e.cells 32))) rfl rfl rfl aU (qo e) ?_)
      |(go_at_call 153;refine (HC.out _ hbn).mono ?_;rintro r w2 ⟨rfl,hb2⟩;have hb3:=hbn.trans (hb2.mono (by simp));have hz3:=hb3.size))
     go_quiet (fail)
     go_wp2
     refine ⟨⟨1,by omega,rfl,?_,below_drewN (hb.trans (hb3.mono (by omega))) nq⟩,by simp [intOf];omega⟩
     rw [kL.out,yg.out,if_neg (by simp [Gg.out]),if_neg (by show ¬(Option.all _ none=false);simp)]
     exact congrArg (fun p=>di p 1 (l.drop 1)) hpv.out.symm
    ·have BZ:m<l.length:=by omega
     have hF:=hcells m BZ
     have hpm:Gf l (m+1)=some l[m]:=List.getElem?_eq_getElem BZ
     rw [hpm] at yg kL
     obtain ⟨f,Z⟩:∃f,Hid (l[m]=f):=⟨_,hide rfl⟩
     rw [Z.out] at hF yg kL
     have hq0:wr.cell? ⟨g,o+m*11,none⟩=some (.int .i64 f.seq):=hF 0 _ rfl
     have hq1:wr.cell? ⟨g,o+m*11+1,none⟩=some (.int .i64 f.time):=hF 1 _ rfl
     have hq2:wr.cell? ⟨g,o+m*11+2,none⟩=some (.int .u8 (f.cpu:Int)):=hF 2 _ rfl
     have hmi:(m:Int)<(n:Int):=by omega
     have hg1:decide ((0:Int)<(m:Int)+1)=true:=by rw [decide_eq_true_eq];omega
     have hv1:IntKind.i64.wrap ((m:Int)+1-1)=(m:Int):=by rw [show (m:Int)+1-1=(m:Int) by omega];exact IntWalk.i64_in _ (by omega)
     clear hpm hF hcells
     have LJ:=hide (show (some f).all (fun q=>e.after q)=decide (e.cpu=f.cpu∧f.seq<e.seq∧f.time≤e.time) from rfl)
     by_cases c1:e.cpu=f.cpu
     ·have b1:((e.cpu:Int) !=(f.cpu:Int))=false:=by rw [bne_eq_false_iff_eq];omega
      have HC1:=hide c1
      clear c1
      by_cases c2:e.seq≤f.seq
      ·have b2:decide (e.seq≤f.seq)=true:=by simpa using c2
       have HR2:=hide (show bH l=(((m+1:Nat):Int),71) by rw [kL.out,yg.out,if_neg (by simp [Gg.out]),if_pos (by rw [LJ.out];simp;intro _ h;omega)])
       go_wp2_with (first
        |(with_reducible refine zm hE.out rfl rfl rfl aU (qo e) ?_)
        |(refine BN rfl rfl rfl rfl aU rfl (qo e) (l9 e) ?_)
        |(with_reducible refine zm (qc (World.alloc_heap_new wr (.cells e.cells 32))) rfl rfl rfl aU (qo e) ?_)
        |(go_at_call 153;refine (HC.out _ hbn).mono ?_;rintro r w2 ⟨rfl,hb2⟩;have hb3:=hbn.trans (hb2.mono (by simp));have hz3:=hb3.size;have k0:=(hb2.cell (p:=⟨wr.heap.size,0,none⟩) (by simp)).trans sN.seq;have k1:=(hb2.cell (p:=⟨wr.heap.size,1,none⟩) (by simp)).trans sN.time;have k2:=(hb2.cell (p:=⟨wr.heap.size,2,none⟩) (by simp)).trans sN.cpu;have p0:=(hb3.cell (p:=⟨g,o+m*11,none⟩) hgw).trans hq0;have p1:=(hb3.cell (p:=⟨g,o+m*11+1,none⟩) hgw).trans hq1;have p2:=(hb3.cell (p:=⟨g,o+m*11+2,none⟩) hgw).trans hq2))
       go_quiet (fail)
       go_wp2
       go_ret2
       exact ⟨by rw [HR2.out];rfl,below_drewN (hb.trans (hb3.mono (by omega))) nq⟩
      ·have b2:decide (e.seq≤f.seq)=false:=by simpa using c2
       by_cases c3:e.time<f.time
       ·have b3:decide (e.time<f.time)=true:=by simpa using c3
        have HR2:=hide (show bH l=(((m+1:Nat):Int),71) by rw [kL.out,yg.out,if_neg (by simp [Gg.out]),if_pos (by rw [LJ.out];simp;intro _ _;omega)])
        go_wp2_with (first
         |(with_reducible refine zm hE.out rfl rfl rfl aU (qo e) ?_)
         |(refine BN rfl rfl rfl rfl aU rfl (qo e) (l9 e) ?_)
         |(with_reducible refine zm (qc (World.alloc_heap_new wr (.cells e.cells 32))) rfl rfl rfl aU (qo e) ?_)
         |(go_at_call 153;refine (HC.out _ hbn).mono ?_;rintro r w2 ⟨rfl,hb2⟩;have hb3:=hbn.trans (hb2.mono (by simp));have hz3:=hb3.size;have k0:=(hb2.cell (p:=⟨wr.heap.size,0,none⟩) (by simp)).trans sN.seq;have k1:=(hb2.cell (p:=⟨wr.heap.size,1,none⟩) (by simp)).trans sN.time;have k2:=(hb2.cell (p:=⟨wr.heap.size,2,none⟩) (by simp)).trans sN.cpu;have p0:=(hb3.cell (p:=⟨g,o+m*11,none⟩) hgw).trans hq0;have p1:=(hb3.cell (p:=⟨g,o+m*11+1,none⟩) hgw).trans hq1;have p2:=(hb3.cell (p:=⟨g,o+m*11+2,none⟩) hgw).trans hq2))
        go_quiet (fail)
        go_wp2
        go_ret2
        exact ⟨by rw [HR2.out];rfl,below_drewN (hb.trans (hb3.mono (by omega))) nq⟩
       ·have b3:decide (e.time<f.time)=false:=by simpa using c3
        go_wp2_with (first
         |(with_reducible refine zm hE.out rfl rfl rfl aU (qo e) ?_)
         |(refine BN rfl rfl rfl rfl aU rfl (qo e) (l9 e) ?_)
         |(with_reducible refine zm (qc (World.alloc_heap_new wr (.cells e.cells 32))) rfl rfl rfl aU (qo e) ?_)
         |(go_at_call 153;refine (HC.out _ hbn).mono ?_;rintro r w2 ⟨rfl,hb2⟩;have hb3:=hbn.trans (hb2.mono (by simp));have hz3:=hb3.size;have k0:=(hb2.cell (p:=⟨wr.heap.size,0,none⟩) (by simp)).trans sN.seq;have k1:=(hb2.cell (p:=⟨wr.heap.size,1,none⟩) (by simp)).trans sN.time;have k2:=(hb2.cell (p:=⟨wr.heap.size,2,none⟩) (by simp)).trans sN.cpu;have p0:=(hb3.cell (p:=⟨g,o+m*11,none⟩) hgw).trans hq0;have p1:=(hb3.cell (p:=⟨g,o+m*11+1,none⟩) hgw).trans hq1;have p2:=(hb3.cell (p:=⟨g,o+m*11+2,none⟩) hgw).trans hq2))
        go_quiet (fail)
        go_wp2
        refine ⟨⟨m+2,by omega,by go_num,?_,below_drewN (hb.trans (hb3.mono (by omega))) nq⟩,by simp [intOf];omega⟩
        rw [kL.out,yg.out,if_neg (by simp [Gg.out]),if_neg (by rw [LJ.out];simp;exact ⟨HC1.out,by omega,by omega⟩)]
        exact congrArg (fun p=>di p (m+2) (l.drop (m+2))) hpv.out.symm
     ·have b1:((e.cpu:Int) !=(f.cpu:Int))=true:=by rw [bne_iff_ne];omega
      have HR2:=hide (show bH l=(((m+1:Nat):Int),71) by rw [kL.out,yg.out,if_neg (by simp [Gg.out]),if_pos (by rw [LJ.out];simp;intro h;exact absurd h c1)])
      clear c1
      go_wp2_with (first
       |(with_reducible refine zm hE.out rfl rfl rfl aU (qo e) ?_)
       |(refine BN rfl rfl rfl rfl aU rfl (qo e) (l9 e) ?_)
       |(with_reducible refine zm (qc (World.alloc_heap_new wr (.cells e.cells 32))) rfl rfl rfl aU (qo e) ?_)
       |(go_at_call 153;refine (HC.out _ hbn).mono ?_;rintro r w2 ⟨rfl,hb2⟩;have hb3:=hbn.trans (hb2.mono (by simp));have hz3:=hb3.size;have k0:=(hb2.cell (p:=⟨wr.heap.size,0,none⟩) (by simp)).trans sN.seq;have k1:=(hb2.cell (p:=⟨wr.heap.size,1,none⟩) (by simp)).trans sN.time;have k2:=(hb2.cell (p:=⟨wr.heap.size,2,none⟩) (by simp)).trans sN.cpu;have p0:=(hb3.cell (p:=⟨g,o+m*11,none⟩) hgw).trans hq0;have p1:=(hb3.cell (p:=⟨g,o+m*11+1,none⟩) hgw).trans hq1;have p2:=(hb3.cell (p:=⟨g,o+m*11+2,none⟩) hgw).trans hq2))
      go_quiet (fail)
      go_wp2
      go_ret2
      exact ⟨by rw [HR2.out];rfl,below_drewN (hb.trans (hb3.mono (by omega))) nq⟩
   ·have hne:((e.check:Int) !=0)=true:=by rw [bne_iff_ne];omega
    have HR2:=hide (show bH l=((k:Int),e.check) by rw [kL.out,yg.out,if_pos hck])
    clear hck
    go_wp2_with (first
     |(with_reducible refine zm hE.out rfl rfl rfl aU (qo e) ?_)
     |(refine BN rfl rfl rfl rfl aU rfl (qo e) (l9 e) ?_)
     |(with_reducible refine zm (qc (World.alloc_heap_new wr (.cells e.cells 32))) rfl rfl rfl aU (qo e) ?_)
     |(go_at_call 153;refine (HC.out _ hbn).mono ?_;rintro r w2 ⟨rfl,hb2⟩;have hb3:=hbn.trans (hb2.mono (by simp))))
    go_ret2
    exact ⟨by rw [HR2.out];rfl,hb.trans (hb3.mono (by omega))⟩
  ·have h1:=xg.out
   have HR2:=hide (show bH l=(-1,0) by rw [kL.out,List.drop_eq_nil_of_le (by omega),di])
   clear h1
   go_wp2
   go_ret2
   exact ⟨by rw [HR2.out];rfl,hb⟩
end Go.Proofs.YtieeckeaijdaeaaGreatDoor
