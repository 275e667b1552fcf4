/- A part of the proof. -/
import Derived.Test.YtieeckeaijdaeaaGreatDoorQaCod6
import Derived.Shelf.RegionOpen
import Derived.TacticsInMore
import Derived.LoopNIn
import Derived.LoopIn
namespace Go.Proofs.YtieeckeaijdaeaaGreatDoor
open Go.RowKit Go.Shelf
attribute [local go_sem] Oper.semAt_some
def yj (q:Ev×Nat×Nat):Array Value:= #[.agg #[.int .i64 q.1.seq,.int .i64 q.1.time,.int .u8 (q.1.cpu:Int),.int .u8 (q.1.kind:Int),.int .i64 q.1.bD,.int .i64 q.1.group,.int .i64 q.1.to,.int .i64 q.1.weight,.int .i64 q.1.aL,.int .u64 (q.1.mask:Int),.int .i64 q.1.got,.int .i64 (q.2.1:Int)],.int .i64 (q.2.2:Int)]
theorem VF:∀(j:Nat) (l:List Nat),(aj j l).2.1≤l.length
 |0,_=>by simp [aj]
 | j + 1, l => by
  have h1:=wY l
  have h2:=VF j (l.drop (ae l).2.1)
  rw [List.length_drop] at h2
  rw [aj]
  split
  ·simp
  ·split
   ·simp
   ·show _+_≤_;omega
theorem Pw (b:Bs) (cpu:Nat) (l:List Nat):(aC b cpu l).2.1≤l.length∧((aC b cpu l).2.2=0→0<(aC b cpu l).2.1):=by
 unfold aC
 split
 ·simp
 ·split
  ·simp
  ·split
   ·simp
   ·rename_i h0 _
    unfold oV
    have h1:=VF (2+(aa (l.getD 0 0)).length) (l.drop 1)
    rw [List.length_drop] at h1
    have h2:0<l.length:=List.length_pos_iff.2 h0
    split
    ·rename_i h;exact ⟨Nat.zero_le _,fun h'=>absurd h' h⟩
    ·split
     ·simp
     ·split
      ·simp
      ·exact ⟨by show 1+_≤_;omega,fun _=>by show 0<1+_;omega⟩
theorem LP (f:Nat) (b:Bs) (cpu:Nat) (l:List Nat):oW (f+1) b cpu l=aC b cpu l::if (aC b cpu l).2.2≠0 then [] else oW f (aC b cpu l).1.at cpu (l.drop (aC b cpu l).2.1):=rfl
theorem Rd.Gm {w w':World} {B size n:Nat} {A:Option Addr} {xs:List Value} (h:Rd w B size A n xs) (hk:∀(p:Addr) (v:Value),p.block<B→w.cell? p=some v→w'.cell? p=some v):Rd w' B size A n xs:=
 ⟨h.len,fun hn=>by
  obtain ⟨ad,e,hb,hc⟩:=h.row hn
  exact ⟨ad,e,hb,fun j u hu=>hk _ _ (by rw [add_block];exact hb) (hc j u hu)⟩⟩
theorem Laid.Gm {B:Nat} {w w':World} (h:Laid B w) (hk:∀(p:Addr) (v:Value),p.block<B→w.cell? p=some v→w'.cell? p=some v):Laid B w':=
 ⟨fun k hk'=>by obtain ⟨A,c,h1,h2⟩:=h.uses k hk';exact ⟨A,c,hk _ _ h.big h1,h2.Gm hk⟩,h.big,fun i hi=>by obtain ⟨s,h1⟩:=h.names i hi;exact ⟨s,hk _ _ h.xO h1⟩,h.xO⟩
def uo (B0 bb bc by' k:Nat):Prop:=k<B0∨k=bb∨k=bc∨k=by'
structure jm (B B0 bb bc by' cpu:Nat) (bk:Bs) (lk:List Nat) (A:Option Addr) (n c:Nat) (W:World):Prop where
 base:W.heap[bb]?=some (.cells bk.cells 229 (0,0))
 cpu:W.heap[bc]?=some (.cells #[.int .u8 (cpu:Int)] 5 (0,0))
 bytes:W.heap[by']?=some (.cells #[.slice A n c] 35 (0,0))
 rd:Rd W B0 1 A n (lk.map B8)
 cap:n≤c
 small:∀b∈lk,b<256
 len:n≤200000000000000
 laid:Laid B W
theorem jm.zT {B B0 bb bc by' cpu:Nat} {bk:Bs} {lk:List Nat} {A:Option Addr} {n c:Nat} {W W':World} (h:jm B B0 bb bc by' cpu bk lk A n c W) (hc:bY [] W W'):jm B B0 bb bc by' cpu bk lk A n c W':=
 ⟨hc.same h.base (by simp),hc.same h.cpu (by simp),hc.same h.bytes (by simp),h.rd.zT hc (by simp),h.cap,h.small,h.len,h.laid.Gm (fun _ _ _ h'=>(hc.keep (Nat.zero_le _)).cell h' (by simp))⟩
set_option maxRecDepth 100000 in
set_option maxHeartbeats 2000000 in
theorem qlj (B B0 bb bc by' cpu:Nat) (eO:cpu<256) (b:Bs) (l0:List Nat) (A0:Option Addr) (n0 c0:Nat) (w0:World) (hd1:bb≠bc) (hd2:bb≠by') (hd3:bc≠by') (hBB:B≤B0) (hb0:B0≤bb) (hy0:B0≤by') (hst:jm B B0 bb bc by' cpu b l0 A0 n0 c0 w0):
  Iter Tryz.prog 237 #[.pointer (some ⟨bb,0,none⟩),.pointer (some ⟨bc,0,none⟩),.pointer (some ⟨by',0,none⟩)] ((oW (l0.length+1) b cpu l0).map yj) [bb,by'] (uo B0 bb bc by') w0:=by
 intro l J Jx T w1 hb1 hJ hJx BL hN hY h0
 have ac5:=zl hst.base
 have ac6:=zl hst.cpu
 have ac7:=zl hst.bytes
 refine callsIn_of_wp Tryz.func237 rfl trivial ?_ rfl
 simp only [Tryz.ntmps237,List.size_toArray,List.length_cons,List.length_nil,Nat.reduceAdd,Nat.reduceSub,Array.replicate_succ,Array.replicate_zero,List.push_toArray,List.append_toArray,List.nil_append,List.cons_append]
 gi_wp2
 gi_loopw [5] (fun _ wr=>∃(k f:Nat) (bk:Bs) (lk:List Nat) (A:Option Addr) (n c:Nat),(oW (l0.length+1) b cpu l0).drop k=oW (f+1) bk cpu lk∧lk.length<f+1∧jm B B0 bb bc by' cpu bk lk A n c wr∧J k wr∧(∀x,uo B0 bb bc by' x→¬T wr x))
  (fun _ wr=>match wr.cell? ⟨by',0,none⟩ with|some (.slice _ n _)=>n|_=>0)
 case atStart=>exact ⟨0,l0.length,b,l0,A0,n0,c0,rfl,by omega,hst.zT hb1,h0,fun x hx=>hN x hx⟩
 case round =>
  obtain ⟨k,f,bk,lk,A,n,c,hd,hf,hrc,hj,hnt⟩:=hrel
  have hq:=LP f bk cpu lk
  rw [hq] at hd
  obtain ⟨hk,hg,hr⟩:=Oe hd
  have htl:=Pw bk cpu lk
  have hlen:lk.length=n:=by simpa using hrc.rd.len
  have ac8:=hb1.size
  have hzb:=zl hrc.base
  have hzc:=zl hrc.cpu
  have hzy:=zl hrc.bytes
  have HT:=hide (qy9 bk cpu eO A n c lk B wr hrc.laid (by omega) (hrc.rd.more (by omega)) hrc.cap hrc.small hrc.len)
  have HG:=hide hg
  have HRR:=hide hr
  have xg:=hide hlen
  obtain ⟨q,HQ⟩:∃q,Hid (aC bk cpu lk=q):=⟨_,hide rfl⟩
  rw [HQ.out] at HT HG HRR htl
  clear hq hd hg hr hlen
  have c0:wr.cell? ⟨bb,0,none⟩=some (.int .i64 bk.seq):=by simp [World.cell?,hrc.base,Bs.cells]
  have c1:wr.cell? ⟨bb,1,none⟩=some (.int .i64 bk.time):=by simp [World.cell?,hrc.base,Bs.cells]
  have c2:wr.cell? ⟨bc,0,none⟩=some (.int .u8 (cpu:Int)):=by simp [World.cell?,hrc.cpu]
  have c3:wr.cell? ⟨by',0,none⟩=some (.slice A n c):=by simp [World.cell?,hrc.bytes]
  have Ce:=hide hJ
  have hHT:=hide BL
  have hHN:=hide hnt
  have VG:=hide hY
  have hHX:=hide hJx
  have VJ:=hide hrc
  have hHj:=hide hj
  clear hJ BL hnt hY hJx hrc hN h0 hb1 hj
  obtain ⟨e9,m9,er⟩:=q
  simp only at htl
  by_cases hbad:er=0
  ·have hne:((er:Int) !=0)=false:=by rw [bne_eq_false_iff_eq];omega
   have Ac:=hide hbad
   clear hbad
   gi_wp2_with (first
    |(refine ⟨trivial,rfl,?_⟩;refine (callsIn_wide.2 HT.out).mono ?_;rintro r w2 ⟨rfl,hb2⟩;simp only [Ev.cells];have hch:=(bY.of_below hb2).alloc (.cells #[.int .i64 e9.seq,.int .i64 e9.time,.int .u8 (e9.cpu:Int),.int .u8 (e9.kind:Int),.int .i64 e9.bD,.int .i64 e9.group,.int .i64 e9.to,.int .i64 e9.weight,.int .i64 e9.aL,.int .u64 (e9.mask:Int),.int .i64 e9.got] 32);obtain ⟨fn,tmps,assign,body,hy1,hR⟩:=VG.out k (by simpa using hk) _ (Ce.out k _ _ hHj.out (hch.mono (by simp))).1;simp only [List.getElem_map,HG.out,yj] at hy1))
   have hz2:=hb2.size
   have LQ:=Ce.out k _ _ hHj.out (hch.mono (by simp))
   have VL:∀x,uo B0 bb bc by' x→¬T (w2.alloc (.cells #[.int .i64 e9.seq,.int .i64 e9.time,.int .u8 (e9.cpu:Int),.int .u8 (e9.kind:Int),.int .i64 e9.bD,.int .i64 e9.group,.int .i64 e9.to,.int .i64 e9.weight,.int .i64 e9.aL,.int .u64 (e9.mask:Int),.int .i64 e9.got] 32)) x:=fun x hx ht=>hHN.out x hx (LQ.2 x ht)
   have hnx:¬T (w2.alloc (.cells #[.int .i64 e9.seq,.int .i64 e9.time,.int .u8 (e9.cpu:Int),.int .u8 (e9.kind:Int),.int .i64 e9.bD,.int .i64 e9.group,.int .i64 e9.to,.int .i64 e9.weight,.int .i64 e9.aL,.int .u64 (e9.mask:Int),.int .i64 e9.got] 32)) w2.heap.size:=fun ht=>by have:=hHT.out k wr _ hHj.out (LQ.2 _ ht);omega
   have VM:=VJ.out.zT hch
   have VN:=World.alloc_heap_new w2 (.cells #[.int .i64 e9.seq,.int .i64 e9.time,.int .u8 (e9.cpu:Int),.int .u8 (e9.kind:Int),.int .i64 e9.bD,.int .i64 e9.group,.int .i64 e9.to,.int .i64 e9.weight,.int .i64 e9.aL,.int .u64 (e9.mask:Int),.int .i64 e9.got] 32)
   have HRW:=hide VM
   have HXW:=hide VN
   have Ey:=hide VL
   have HJW:=hide LQ
   clear VL LQ VM VN hch
   refine ⟨rfl,hR.mono ?_⟩
   rintro e W3 ⟨hkp,(⟨rfl,tX⟩|⟨rfl,hx3⟩)⟩
   ·have hr3:jm B B0 bb bc by' cpu bk lk A n c W3:=⟨hkp.obj _ _ HRW.out.base rfl (Ey.out bb (.inr (.inl rfl))),hkp.obj _ _ HRW.out.cpu rfl (Ey.out bc (.inr (.inr (.inl rfl)))),hkp.obj _ _ HRW.out.bytes rfl (Ey.out by' (.inr (.inr (.inr rfl)))),HRW.out.rd.Gm (fun p v hp hv=>hkp.cell hv (Ey.out _ (.inl hp))),HRW.out.cap,HRW.out.small,HRW.out.len,HRW.out.laid.Gm (fun p v hp hv=>hkp.cell hv (Ey.out _ (.inl (by omega))))⟩
    have xS:aO W3 w2.heap.size e9:=hkp.obj _ _ HXW.out rfl hnx
    have Gn:∀x,uo B0 bb bc by' x→x<wr.heap.size→¬T W3 x:=fun x hx hlt=>hkp.not (by simp;omega) (Ey.out x hx)
    have hz3:=hkp.size
    simp only [World.size_alloc] at hz3
    obtain ⟨q0,q1,q2,q3,q4,q5,q6,q7,q8,q9,LF⟩:=xS.at
    have hby:=hr3.bytes
    have hbb:=hr3.base
    have y0:W3.cell? ⟨by',0,none⟩=some (.slice A n c):=by simp [World.cell?,hby]
    have Ez:=hide hby
    have Cf:=hide hbb
    have hnl:=xg.out
    have LU:m9≤n:=by omega
    have Px:¬(w2.heap.size=bb):=by omega
    have ade:¬(w2.heap.size=by'):=by omega
    have adf:¬(by'=bb):=fun h=>hd2 h.symm
    have VO:¬(bb=by'):=hd2
    have LK:=hide (fun W=>(show Calls Tryz.prog 211 #[.agg #[.int .i64 e9.seq,.int .i64 e9.time,.int .u8 (e9.cpu:Int),.int .u8 (e9.kind:Int),.int .i64 e9.bD,.int .i64 e9.group,.int .i64 e9.to,.int .i64 e9.weight,.int .i64 e9.aL,.int .u64 (e9.mask:Int),.int .i64 e9.got]] W (fun r w'=>r= .returned (.agg #[.int .i64 e9.seq,.int .i64 e9.time])∧Below W.heap.size W w') from Vj e9 W))
    have hmi:(m9:Int)≤(n:Int):=by omega
    clear hnl hby hbb c0 c1 c2 c3
    obtain ⟨f',rfl⟩:∃f',f=f'+1:=⟨f-1,by have:=htl.2 Ac.out;omega⟩
    have hpos:=htl.2 Ac.out
    have VP:=hr3.cap
    have Gp:=hide (show ∀(w9:World) (A':Option Addr) (nn c':Nat),Below W3.heap.size W3.drew w9→Rd w9 B0 1 A' nn ((lk.drop m9).map B8)→nn≤c'→nn≤n→
      jm B B0 bb bc by' cpu e9.at (lk.drop m9) A' nn c' (((w9.setCell ⟨bb,0,none⟩ (.int .i64 e9.seq)).setCell ⟨bb,1,none⟩ (.int .i64 e9.time)).setCell ⟨by',0,none⟩ (.slice A' nn c')) from fun w9 A' nn c' dO hrd hcc hnn=>by
     have hB:=(dO.block bb (by omega)).trans Cf.out
     have hY:=(dO.block by' (by omega)).trans Ez.out
     have hC:=(dO.block bc (by omega)).trans hr3.cpu
     have Gd:W3.heap.size≤w9.heap.size:=dO.size
     refine ⟨?_,?_,?_,?_,hcc,fun x hx=>hr3.small x (List.mem_of_mem_drop hx),by have:=hr3.len;omega,?_⟩
     ·rw [Below.heap_setCell _ _ _ _ hd2]
      simp [World.setCell,Array.getElem?_modify,hB,Bs.cells,Ev.at]
     ·rw [Below.heap_setCell _ _ _ _ hd3,Below.heap_setCell _ _ _ _ (Ne.symm hd1),Below.heap_setCell _ _ _ _ (Ne.symm hd1)];exact hC
     ·have h1:((w9.setCell ⟨bb,0,none⟩ (.int .i64 e9.seq)).setCell ⟨bb,1,none⟩ (.int .i64 e9.time)).heap[by']?=some (.cells #[.slice A n c] 35 (0,0)):=by
       rw [Below.heap_setCell _ _ _ _ (Ne.symm hd2),Below.heap_setCell _ _ _ _ (Ne.symm hd2)];exact hY
      exact qg h1 _
     ·exact ((hrd.setCell (p:=⟨bb,0,none⟩) (by show B0≤bb;omega) _).setCell (p:=⟨bb,1,none⟩) (by show B0≤bb;omega) _).setCell (p:=⟨by',0,none⟩) (by show B0≤by';omega) _
     ·exact ((((show Laid B W3.drew from hr3.laid.mZ (fun _ _=>rfl)).below dO (by omega)).setCell (p:=⟨bb,0,none⟩) (by show B≤bb;omega) _).setCell (p:=⟨bb,1,none⟩) (by show B≤bb;omega) _).setCell (p:=⟨by',0,none⟩) (by show B≤by';omega) _)
    have ym:=hide (show ∀(w9:World) (v:Value),Below W3.heap.size W3.drew w9→bY [bb,by'] W3 (((w9.setCell ⟨bb,0,none⟩ (.int .i64 e9.seq)).setCell ⟨bb,1,none⟩ (.int .i64 e9.time)).setCell ⟨by',0,none⟩ v) from fun w9 v dO=>
     ((((bY.of_below ((Below.refl _ _).drew.trans dO)).mono (by simp)).setCell (p:=⟨bb,0,none⟩) (.inl (by simp)) _).setCell (p:=⟨bb,1,none⟩) (.inl (by simp)) _).setCell (p:=⟨by',0,none⟩) (.inl (by simp)) _)
    have VQ:=hide (show ∀x,uo B0 bb bc by' x→x<wr.heap.size from fun x hx=>by rcases hx with h|h|h|h<;>omega)
    have VR:=hide (show ∀(w9:World) (v:Value),w9.cell? ⟨by',0,none⟩=some (.slice A n c)→(((w9.setCell ⟨bb,0,none⟩ (.int .i64 e9.seq)).setCell ⟨bb,1,none⟩ (.int .i64 e9.time)).setCell ⟨by',0,none⟩ v).cell? ⟨by',0,none⟩=some v from fun w9 v h=>
     World.cell?_setCell_same _ _ _ (by rw [uf (p:=⟨by',0,none⟩) (show by'≠bb from Ne.symm hd2),uf (p:=⟨by',0,none⟩) (show by'≠bb from Ne.symm hd2)];exact h))
    have y0':wr.cell? ⟨by',0,none⟩=some (.slice A n c):=by have:=VJ.out.bytes;simp [World.cell?,this]
    have VS:=hide y0'
    clear y0'
    have Vm:=hide (show Rd W3.drew B0 1 A n (lk.map B8) from hr3.rd.drew)
    by_cases hcm:c=m9
    ·subst hcm
     gi_wp2
     refine wpIn_wide.2 ?_
     go_region_with (first
       |(go_at_call 211;refine (LK.out W3.drew).mono ?_;rintro r w9 ⟨rfl,dO⟩;have Gd:W3.heap.size≤w9.heap.size:=dO.size;have iK:=(dO.block bb (by show bb<W3.heap.size;omega)).trans Cf.out;have mf:=(dO.block by' (by show by'<W3.heap.size;omega)).trans Ez.out;have t0:w9.cell? ⟨bb,0,none⟩=some (.int .i64 bk.seq):=by {simp [World.cell?,iK,Bs.cells]};have t1:w9.cell? ⟨bb,1,none⟩=some (.int .i64 bk.time):=by {simp [World.cell?,iK,Bs.cells]};have t2:∀oo,w9.frozen? ⟨bb,oo,none⟩=false:=fun oo=>by {simp [World.frozen?,iK]};have t3:w9.cell? ⟨by',0,none⟩=some (.slice A n c):=by {simp [World.cell?,mf]};have t4:∀oo,w9.frozen? ⟨by',oo,none⟩=false:=fun oo=>by {simp [World.frozen?,mf]};have Cc:=hide iK;have Py:=hide mf;clear iK mf))
     all_goals
      gi_wp2
      exact ⟨⟨k+1,f',e9.at,lk.drop c,_,_,_,by rw [HRR.out,if_neg (by simp [Ac.out])],by rw [List.length_drop];omega,Gp.out w9 (A) (0) (0) dO (Rd.below (by rw [List.drop_eq_nil_of_le (by have:=xg.out;omega)];exact Rd.nil) ((show Below W3.heap.size W3.drew w9 from dO).mono (by omega))) (by omega) (by omega),(Ce.out _ _ _ tX (ym.out w9 _ dO)).1,fun x hx ht=>Gn x hx (VQ.out x hx) ((Ce.out _ _ _ tX (ym.out w9 _ dO)).2 x ht)⟩,by rw [VR.out w9 _ t3,VS.out];simp;omega⟩
    ·gi_wp2
     refine wpIn_wide.2 ?_
     go_region_with (first
       |(go_at_call 211;refine (LK.out W3.drew).mono ?_;rintro r w9 ⟨rfl,dO⟩;have Gd:W3.heap.size≤w9.heap.size:=dO.size;have iK:=(dO.block bb (by show bb<W3.heap.size;omega)).trans Cf.out;have mf:=(dO.block by' (by show by'<W3.heap.size;omega)).trans Ez.out;have t0:w9.cell? ⟨bb,0,none⟩=some (.int .i64 bk.seq):=by {simp [World.cell?,iK,Bs.cells]};have t1:w9.cell? ⟨bb,1,none⟩=some (.int .i64 bk.time):=by {simp [World.cell?,iK,Bs.cells]};have t2:∀oo,w9.frozen? ⟨bb,oo,none⟩=false:=fun oo=>by {simp [World.frozen?,iK]};have t3:w9.cell? ⟨by',0,none⟩=some (.slice A n c):=by {simp [World.cell?,mf]};have t4:∀oo,w9.frozen? ⟨by',oo,none⟩=false:=fun oo=>by {simp [World.frozen?,mf]};have Cc:=hide iK;have Py:=hide mf;clear iK mf))
     all_goals
      gi_wp2
      exact ⟨⟨k+1,f',e9.at,lk.drop m9,_,_,_,by rw [HRR.out,if_neg (by simp [Ac.out])],by rw [List.length_drop];omega,Gp.out w9 (_) (n-m9) (_) dO (Rd.below (by have h:=Vm.out.from (k:=m9) (cap:=c) (by omega) (by omega);rw [if_neg hcm,Nat.mul_one,←List.map_drop] at h;exact h) ((show Below W3.heap.size W3.drew w9 from dO).mono (by omega))) (by omega) (by omega),(Ce.out _ _ _ tX (ym.out w9 _ dO)).1,fun x hx ht=>Gn x hx (VQ.out x hx) ((Ce.out _ _ _ tX (ym.out w9 _ dO)).2 x ht)⟩,by rw [VR.out w9 _ t3,VS.out];simp;omega⟩
   ·gi_wp2
    refine bodyPost_ret (results_none rfl _ _ _) rfl ?_
    exact ⟨⟨_,rfl⟩,.inr ⟨k+1,by omega,by simp;omega,hx3⟩⟩
  ·have hne:((er:Int) !=0)=true:=by rw [bne_iff_ne];omega
   have Ac:=hide hbad
   clear hbad
   gi_wp2_with (first
    |(refine ⟨trivial,rfl,?_⟩;refine (callsIn_wide.2 HT.out).mono ?_;rintro r w2 ⟨rfl,hb2⟩;simp only [Ev.cells];have hch:=(bY.of_below hb2).alloc (.cells #[.int .i64 e9.seq,.int .i64 e9.time,.int .u8 (e9.cpu:Int),.int .u8 (e9.kind:Int),.int .i64 e9.bD,.int .i64 e9.group,.int .i64 e9.to,.int .i64 e9.weight,.int .i64 e9.aL,.int .u64 (e9.mask:Int),.int .i64 e9.got] 32);obtain ⟨fn,tmps,assign,body,hy1,hR⟩:=VG.out k (by simpa using hk) _ (Ce.out k _ _ hHj.out (hch.mono (by simp))).1;simp only [List.getElem_map,HG.out,yj] at hy1))
   refine ⟨rfl,hR.mono ?_⟩
   have hlast:(oW (l0.length+1) b cpu l0).length=k+1:=by
    have h1:=HRR.out
    rw [if_pos Ac.out] at h1
    have:=List.drop_eq_nil_iff.1 h1
    omega
   have HLA:=hide hlast
   clear hlast
   rintro e W3 ⟨hkp,(⟨rfl,tX⟩|⟨rfl,hx3⟩)⟩
   ·gi_wp2
    refine bodyPost_ret (results_none rfl _ _ _) rfl ?_
    refine ⟨⟨_,rfl⟩,.inl ?_⟩
    rw [List.length_map,HLA.out];exact tX
   ·gi_wp2
    refine bodyPost_ret (results_none rfl _ _ _) rfl ?_
    exact ⟨⟨_,rfl⟩,.inr ⟨k+1,by omega,by simp;omega,hx3⟩⟩
end Go.Proofs.YtieeckeaijdaeaaGreatDoor
