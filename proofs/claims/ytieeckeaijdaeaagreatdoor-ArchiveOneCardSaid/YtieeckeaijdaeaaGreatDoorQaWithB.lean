/- A part of the proof. -/
import Derived.Test.YtieeckeaijdaeaaGreatDoorQaWith
namespace Go.Proofs.YtieeckeaijdaeaaGreatDoor
open Go.RowKit
set_option maxRecDepth 100000 in
set_option maxHeartbeats 2000000 in
theorem q6d (e:Ev) (he:e.Ok) (A:Option Addr) (n c:Nat) (vs:List Nat) (B:Nat) (w:World) (hL:Laid B w) (hB:B≤w.heap.size) (hr:Rd w w.heap.size 1 A n (vs.map aK)) (hvs:∀x∈vs,x<18446744073709551616)
  (hk:¬(e.kind=0∨10<e.kind)) (hn:n=(aa e.kind).length) (hfit:(((aa e.kind).zip vs).all fun p=>Ev.fits p.1 p.2)=true) (hck:(e.made vs).check=0):
  Calls Tryz.prog 252 #[.agg e.cells,.slice A n c] w (fu w (e.zj vs) (e.qw vs)):=by
 have HW0:=hide (show (e.made vs).check=0→e.qw vs=0∧e.zj vs=e.made vs by intro h;have h1:e.qw vs=0:=by {unfold Ev.qw;rw [if_neg hk,if_neg (by have:=hr.len;simp at this;omega),if_neg (by omega)]};exact ⟨h1,by unfold Ev.zj;rw [if_pos h1]⟩)
 have HW1:=hide (show (e.made vs).check≠0→e.qw vs=61∧e.zj vs=Ev.zero by intro h;have h1:e.qw vs=61:=by {unfold Ev.qw;rw [if_neg hk,if_neg (by have:=hr.len;simp at this;omega),if_pos h]};exact ⟨h1,by unfold Ev.zj;rw [h1];rfl⟩)
 have hlen:vs.length=n:=by simpa using hr.len
 have c0:e.cells[0]?=some (.int .i64 e.seq):=rfl
 have c1:e.cells[1]?=some (.int .i64 e.time):=rfl
 have c2:e.cells[2]?=some (.int .u8 (e.cpu:Int)):=rfl
 have c3:e.cells[3]?=some (.int .u8 (e.kind:Int)):=rfl
 generalize e.cells=cs at c0 c1 c2 c3⊢
 have hkb:((e.kind:Int)==0)=false:=by rw [beq_eq_false_iff_ne];omega
 have hkl:(e.kind:Int)≤10:=by omega
 obtain ⟨A1,c1',hu,l7⟩:=hL.uses e.kind (by omega)
 have hg:1<w.heap.size:=Nat.lt_of_lt_of_le hL.big hB
 have hg2:¬1=w.heap.size:=by omega
 have hg3:¬1=w.heap.size+1:=by omega
 have hg4:¬1=w.heap.size+1+1:=by omega
 have tQ:∀o1 o2,((w.alloc o1).alloc o2).cell? ⟨1,e.kind,none⟩=some (.slice A1 (aa e.kind).length c1'):=fun o1 o2=>by
  rw [World.cell?_alloc_lt _ _ _ (by show 1<(w.alloc o1).heap.size;simp only [World.size_alloc];omega),World.cell?_alloc_lt _ _ _ hg];exact hu
 have FR:∀o1 o2 o3,(((w.alloc o1).alloc o2).alloc o3).cell? ⟨1,e.kind,none⟩=some (.slice A1 (aa e.kind).length c1'):=fun o1 o2 o3=>by
  rw [World.cell?_alloc_lt _ _ _ (by show 1<((w.alloc o1).alloc o2).heap.size;simp only [World.size_alloc];omega)];exact tQ o1 o2
 have hnb:((n:Int) !=((aa e.kind).length:Int))=false:=by rw [bne_eq_false_iff_eq];omega
 have HN:=hide hn
 clear hk hn
 go_enter Tryz.func252,Tryz.ntmps252
 go_wp2
 have hW:((w.alloc (.cells cs 32)).alloc (.cells #[.int .i64 0,.int .i64 0,.int .u8 0,.int .u8 0,.int .i64 0,.int .i64 0,.int .i64 0,.int .i64 0,.int .i64 0,.int .u64 0,.int .i64 0] 32)).alloc (.cells #[.int .i64 e.seq,.int .i64 e.time,.int .u8 (e.cpu:Int),.int .u8 (e.kind:Int),.int .i64 0,.int .i64 0,.int .i64 0,.int .i64 0,.int .i64 0,.int .u64 0,.int .i64 0] 32)
   =((w.alloc (.cells cs 32)).alloc (.cells Ev.zero.cells 32)).alloc (.cells e.base.cells 32):=rfl
 rw [hW]
 have hE2:=aO.new ((w.alloc (.cells cs 32)).alloc (.cells Ev.zero.cells 32)) e.base
 have hE1:aO (((w.alloc (.cells cs 32)).alloc (.cells Ev.zero.cells 32)).alloc (.cells e.base.cells 32)) (w.heap.size+1) Ev.zero:=by
  have:=aO.new (w.alloc (.cells cs 32)) Ev.zero
  rw [World.size_alloc] at this
  exact this.below ((Below.refl _ _).alloc (Nat.le_refl _) _) (by simp)
 have hbW:Below w.heap.size w (((w.alloc (.cells cs 32)).alloc (.cells Ev.zero.cells 32)).alloc (.cells e.base.cells 32)):=(((Below.refl _ _).alloc (Nat.le_refl _) _).alloc (by simp) _).alloc (by simp;omega) _
 have hsz:(((w.alloc (.cells cs 32)).alloc (.cells Ev.zero.cells 32)).alloc (.cells e.base.cells 32)).heap.size=w.heap.size+3:=by simp
 simp only [World.size_alloc] at hE2
 clear hW
 generalize ((w.alloc (.cells cs 32)).alloc (.cells Ev.zero.cells 32)).alloc (.cells e.base.cells 32)=W1 at hE2 hE1 hbW hsz⊢
 have hr1:=hr.below hbW
 have ng:=l7.below (hbW.mono hB)
 have hL1:=hL.below hbW hB
 have Ov:=xP e.kind
 go_loopw [7,42] (Oq e vs (w.heap.size+1+1) W1) (fun _ i _=>(aa e.kind).length- (intOf i).toNat)
 case atStart=>exact ⟨0,by omega,rfl,by simp,hE2,Below.refl _ _⟩
 case round=>
  obtain ⟨k,hk,rfl,rfl,hE,hb⟩:=hrel
  have hzl:((aa e.kind).zip vs).length=(aa e.kind).length:=by rw [List.length_zip,hlen,HN.out];omega
  by_cases hlt:k<(aa e.kind).length
  ·obtain ⟨ad,rfl,hbl,hl',hcell⟩:=(ng.below (hb.mono (by omega))).at hlt
   obtain ⟨UY,rfl,FT,FU,hcell2⟩:=(hr1.below (hb.mono (by omega))).at (by rw [HN.out];exact hlt:k<n)
   simp only [List.getElem_map] at hcell hcell2
   have hi:=wX e.kind _ (List.getElem_mem hlt)
   have hq:((aa e.kind).zip vs)[k]?=some ((aa e.kind)[k],vs[k]'(by have:=HN.out;omega)):=by
    rw [List.getElem?_eq_getElem (by omega),List.getElem_zip]
   have hts:((aa e.kind).zip vs).take (k+1)=((aa e.kind).zip vs).take k++[((aa e.kind)[k],vs[k]'(by have:=HN.out;omega))]:=by rw [List.take_add_one,hq];rfl
   have HT:=hide hts
   clear hq hts
   generalize (aa e.kind)[k]=i at hcell hi HT
   generalize vs[k]'(by have:=HN.out;omega)=x at hcell2 HT
   unfold cK at hcell
   unfold aK at hcell2
   obtain ⟨u,hfu⟩:=hE.dK i hi
   have HS:=hide (Om (w.heap.size+1+1) i x hi wr u hfu (hE.frozen _))
   have hkn:(k:Int)<(n:Int):=by have:=HN.out;omega
   clear hfu
   generalize hok:(((aa e.kind).zip vs).take k).all (fun p=>Ev.fits p.1 p.2)=jM
   have HO:=hide hok
   clear hok
   generalize hfi:Ev.fits i x=fb at HS
   have Z:=hide hfi
   clear hfi
   cases jM<;>cases fb
   all_goals
    go_wp2_with (go_at_call 255;refine HS.out.mono ?_;rintro r w' ⟨rfl,rfl⟩)
    refine ⟨⟨k+1,by omega,by go_num,?_,?_,hb.setCell (by simp) _⟩,by simp [intOf];omega⟩
    ·rw [HT.out,List.all_append,HO.out];simp [Z.out]
    ·rw [HT.out,Ot];exact hE.put i x hi
  ·obtain rfl:k=(aa e.kind).length:=by omega
   clear l7 ng
   rw [List.take_of_length_le (by omega)] at hE
   have BI:aO wr (w.heap.size+1+1) (e.made vs):=hE
   have tT:(e.made vs).Ok:=FQ (LA he) _ (fun p hp=>hvs _ (List.of_mem_zip hp).2)
   have zU:=fun Wc (FV:Laid B Wc) (FW:B≤Wc.heap.size)=>hide (FP (e.made vs) tT B Wc FV FW)
   generalize hok:(((aa e.kind).zip vs).take (aa e.kind).length).all (fun p=>Ev.fits p.1 p.2)=jM
   rw [List.take_of_length_le (by omega)] at hok
   have HO:=hide hok
   have jT:=hE1.below hb (by omega)
   have oU:=jT
   obtain ⟨m0,m1,m2,m3,m4,m5,m6,m7,m8,m9,m10⟩:=BI.at
   have FX:=hL1.below hb (by omega)
   have UZ:=hb.size
   have BJ:=zU wr FX (by omega)
   have hf1:=jT.frozen
   obtain ⟨z0,z1,z2,z3,z4,z5,z6,z7,z8,z9,Ow⟩:=jT.at
   clear hok hE zU
   unfold Ev.cells at BJ
   have hagg:∀W:World,(isAgg 32).run Tryz.prog W= .ok true W:=fun _=>by kernel_rfl
   have hsize:∀W:World,(sizeOf 32).run Tryz.prog W= .ok 11 W:=fun _=>by kernel_rfl
   have tV:=hide hagg
   have ni:=hide hsize
   clear hagg hsize
   have hok2:=hfit
   rw [HO.out] at hok2
   subst hok2
   have hnb:(((e.made vs).check:Int) !=0)=false:=by rw [bne_eq_false_iff_eq];omega
   have HK:=hide (HW0.out hck)
   clear hck
   go_wp2_with (go_at_call 153;refine BJ.out.mono ?_;rintro r w2 ⟨rfl,hb2⟩;have hE2:=BI.below hb2 BI.lt;have xS:=oU.below hb2 oU.lt;have hf2:=xS.frozen;obtain ⟨n0,n1,n2,n3,n4,n5,n6,n7,n8,n9,n10⟩:=hE2.at;obtain ⟨y0,y1,y2,y3,y4,y5,y6,y7,y8,y9,y10⟩:=xS.at)
   have FY:=(aO.storeAll xS (e.made vs)).at
   have hbz:Below w.heap.size w (fU w2 (w.heap.size+1) (e.made vs)):=BH ((hbW.trans (hb.mono (by omega))).trans (hb2.mono (by omega))) (by omega) _
   refine bodyPost_ret (v:= .tuple #[.agg (e.made vs).cells,.int .i64 0]) ?g1 rfl ?g2
   case g2=>exact ⟨by rw [HK.out.1,HK.out.2];rfl,hbz⟩
   case g1=>exact Ou (P:=Tryz.prog) (fn:=Tryz.f252) (t:=4) (u:=5) (ty:=32) (b:=w.heap.size+1) (e:=e.made vs) rfl rfl (tV.out _) (ni.out _) FY
end Go.Proofs.YtieeckeaijdaeaaGreatDoor
