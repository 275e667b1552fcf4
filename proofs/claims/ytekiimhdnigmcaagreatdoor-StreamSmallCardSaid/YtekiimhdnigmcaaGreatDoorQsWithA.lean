/- A part of the proof. -/
import Derived.Test.YtekiimhdnigmcaaGreatDoorQsWith
namespace Go.Proofs.YtekiimhdnigmcaaGreatDoor
open Go.RowKit
set_option maxRecDepth 100000 in
set_option maxHeartbeats 2000000 in
theorem q52 (e:Ev) (he:e.Ok) (A:Option Addr) (n c:Nat) (vs:List Nat) (B:Nat) (w:World) (hL:Laid B w) (hB:B≤w.heap.size) (hr:Rd w w.heap.size 1 A n (vs.map dB)) (hvs:∀x∈vs,x<18446744073709551616)
  (hk:¬(e.kind=0∨10<e.kind)) (hn:n=(aj e.kind).length) (hfit:(((aj e.kind).zip vs).all fun p=>Ev.fits p.1 p.2)=false) (hck:(e.made vs).check≠0):
  Calls Tryz.prog 319 #[.agg e.cells,.slice A n c] w (dI w (e.aP vs) (e.aD vs)):=by
 have HW0:=hide (show (e.made vs).check=0→e.aD vs=0∧e.aP vs=e.made vs by intro h;have h1:e.aD vs=0:=by {unfold Ev.aD;rw [if_neg hk,if_neg (by have:=hr.len;simp at this;omega),if_neg (by omega)]};exact ⟨h1,by unfold Ev.aP;rw [if_pos h1]⟩)
 have HW1:=hide (show (e.made vs).check≠0→e.aD vs=61∧e.aP vs=Ev.zero by intro h;have h1:e.aD vs=61:=by {unfold Ev.aD;rw [if_neg hk,if_neg (by have:=hr.len;simp at this;omega),if_pos h]};exact ⟨h1,by unfold Ev.aP;rw [h1];rfl⟩)
 have hlen:vs.length=n:=by simpa using hr.len
 have c0:e.cells[0]?=some (.int .i64 e.seq):=rfl
 have c1:e.cells[1]?=some (.int .i64 e.time):=rfl
 have c2:e.cells[2]?=some (.int .u8 (e.cpu:Int)):=rfl
 have c3:e.cells[3]?=some (.int .u8 (e.kind:Int)):=rfl
 generalize e.cells=cs at c0 c1 c2 c3⊢
 have hkb:((e.kind:Int)==0)=false:=by rw [beq_eq_false_iff_ne];omega
 have hkl:(e.kind:Int)≤10:=by omega
 obtain ⟨A1,c1',hu,kZ⟩:=hL.uses e.kind (by omega)
 have hg:2<w.heap.size:=Nat.lt_of_lt_of_le hL.big hB
 have hg2:¬2=w.heap.size:=by omega
 have hg3:¬2=w.heap.size+1:=by omega
 have hg4:¬2=w.heap.size+1+1:=by omega
 have qP:∀o1 o2,((w.alloc o1).alloc o2).cell? ⟨2,e.kind,none⟩=some (.slice A1 (aj e.kind).length c1'):=fun o1 o2=>by
  rw [World.cell?_alloc_lt _ _ _ (by show 2<(w.alloc o1).heap.size;simp only [World.size_alloc];omega),World.cell?_alloc_lt _ _ _ hg];exact hu
 have DF:∀o1 o2 o3,(((w.alloc o1).alloc o2).alloc o3).cell? ⟨2,e.kind,none⟩=some (.slice A1 (aj e.kind).length c1'):=fun o1 o2 o3=>by
  rw [World.cell?_alloc_lt _ _ _ (by show 2<((w.alloc o1).alloc o2).heap.size;simp only [World.size_alloc];omega)];exact qP o1 o2
 have hnb:((n:Int) !=((aj e.kind).length:Int))=false:=by rw [bne_eq_false_iff_eq];omega
 have HN:=hide hn
 clear hk hn
 go_enter Tryz.func319,Tryz.ntmps319
 go_wp2
 have hW:((w.alloc (.cells cs 73)).alloc (.cells #[.int .i64 0,.int .i64 0,.int .u8 0,.int .u8 0,.int .i64 0,.int .i64 0,.int .i64 0,.int .i64 0,.int .i64 0,.int .u64 0,.int .i64 0] 73)).alloc (.cells #[.int .i64 e.seq,.int .i64 e.time,.int .u8 (e.cpu:Int),.int .u8 (e.kind:Int),.int .i64 0,.int .i64 0,.int .i64 0,.int .i64 0,.int .i64 0,.int .u64 0,.int .i64 0] 73)
   =((w.alloc (.cells cs 73)).alloc (.cells Ev.zero.cells 73)).alloc (.cells e.base.cells 73):=rfl
 rw [hW]
 have hE2:=aX.new ((w.alloc (.cells cs 73)).alloc (.cells Ev.zero.cells 73)) e.base
 have hE1:aX (((w.alloc (.cells cs 73)).alloc (.cells Ev.zero.cells 73)).alloc (.cells e.base.cells 73)) (w.heap.size+1) Ev.zero:=by
  have:=aX.new (w.alloc (.cells cs 73)) Ev.zero
  rw [World.size_alloc] at this
  exact this.below ((Below.refl _ _).alloc (Nat.le_refl _) _) (by simp)
 have hbW:Below w.heap.size w (((w.alloc (.cells cs 73)).alloc (.cells Ev.zero.cells 73)).alloc (.cells e.base.cells 73)):=(((Below.refl _ _).alloc (Nat.le_refl _) _).alloc (by simp) _).alloc (by simp;omega) _
 have hsz:(((w.alloc (.cells cs 73)).alloc (.cells Ev.zero.cells 73)).alloc (.cells e.base.cells 73)).heap.size=w.heap.size+3:=by simp
 simp only [World.size_alloc] at hE2
 clear hW
 generalize ((w.alloc (.cells cs 73)).alloc (.cells Ev.zero.cells 73)).alloc (.cells e.base.cells 73)=W1 at hE2 hE1 hbW hsz⊢
 have hr1:=hr.below hbW
 have mg:=kZ.below (hbW.mono hB)
 have hL1:=hL.below hbW hB
 have uq:=qO e.kind
 go_loopw [7,42] (Lj e vs (w.heap.size+1+1) W1) (fun _ i _=>(aj e.kind).length- (intOf i).toNat)
 case atStart=>exact ⟨0,by omega,rfl,by simp,hE2,Below.refl _ _⟩
 case round=>
  obtain ⟨k,hk,rfl,rfl,hE,hb⟩:=hrel
  have hzl:((aj e.kind).zip vs).length=(aj e.kind).length:=by rw [List.length_zip,hlen,HN.out];omega
  by_cases hlt:k<(aj e.kind).length
  ·obtain ⟨ad,rfl,hbl,hl',hcell⟩:=(mg.below (hb.mono (by omega))).at hlt
   obtain ⟨RB,rfl,DI,DJ,hcell2⟩:=(hr1.below (hb.mono (by omega))).at (by rw [HN.out];exact hlt:k<n)
   simp only [List.getElem_map] at hcell hcell2
   have hi:=oG e.kind _ (List.getElem_mem hlt)
   have hq:((aj e.kind).zip vs)[k]?=some ((aj e.kind)[k],vs[k]'(by have:=HN.out;omega)):=by
    rw [List.getElem?_eq_getElem (by omega),List.getElem_zip]
   have hts:((aj e.kind).zip vs).take (k+1)=((aj e.kind).zip vs).take k++[((aj e.kind)[k],vs[k]'(by have:=HN.out;omega))]:=by rw [List.take_add_one,hq];rfl
   have HT:=hide hts
   clear hq hts
   generalize (aj e.kind)[k]=i at hcell hi HT
   generalize vs[k]'(by have:=HN.out;omega)=x at hcell2 HT
   unfold bn at hcell
   unfold dB at hcell2
   obtain ⟨u,hfu⟩:=hE.bJ i hi
   have HS:=hide (Lh (w.heap.size+1+1) i x hi wr u hfu (hE.frozen _))
   have hkn:(k:Int)<(n:Int):=by have:=HN.out;omega
   clear hfu
   generalize hok:(((aj e.kind).zip vs).take k).all (fun p=>Ev.fits p.1 p.2)=ny
   have HO:=hide hok
   clear hok
   generalize hfi:Ev.fits i x=fb at HS
   have Z:=hide hfi
   clear hfi
   cases ny<;>cases fb
   all_goals
    go_wp2_with (go_at_call 321;refine HS.out.mono ?_;rintro r w' ⟨rfl,rfl⟩)
    refine ⟨⟨k+1,by omega,by go_num,?_,?_,hb.setCell (by simp) _⟩,by simp [intOf];omega⟩
    ·rw [HT.out,List.all_append,HO.out];simp [Z.out]
    ·rw [HT.out,Ll];exact hE.put i x hi
  ·obtain rfl:k=(aj e.kind).length:=by omega
   clear kZ mg
   rw [List.take_of_length_le (by omega)] at hE
   have yA:aX wr (w.heap.size+1+1) (e.made vs):=hE
   have qQ:(e.made vs).Ok:=DC (H8 he) _ (fun p hp=>hvs _ (List.of_mem_zip hp).2)
   have wL:=fun Wc (DK:Laid B Wc) (DL:B≤Wc.heap.size)=>hide (Dz (e.made vs) qQ B Wc DK DL)
   generalize hok:(((aj e.kind).zip vs).take (aj e.kind).length).all (fun p=>Ev.fits p.1 p.2)=ny
   rw [List.take_of_length_le (by omega)] at hok
   have HO:=hide hok
   have jr:=hE1.below hb (by omega)
   have nG:=jr
   obtain ⟨m0,m1,m2,m3,m4,m5,m6,m7,m8,m9,m10⟩:=yA.at
   have DN:=hL1.below hb (by omega)
   have hsr:=hb.size
   have yB:=wL wr DN (by omega)
   have hf1:=jr.frozen
   obtain ⟨z0,z1,z2,z3,z4,z5,z6,z7,z8,z9,RD⟩:=jr.at
   clear hok hE wL
   unfold Ev.cells at yB
   have hagg:∀W:World,(isAgg 73).run Tryz.prog W= .ok true W:=fun _=>by kernel_rfl
   have hsize:∀W:World,(sizeOf 73).run Tryz.prog W= .ok 11 W:=fun _=>by kernel_rfl
   have nH:=hide hagg
   have jv:=hide hsize
   clear hagg hsize
   have hok2:=hfit
   rw [HO.out] at hok2
   subst hok2
   have HK:=hide (HW1.out hck)
   clear hck
   go_wp2
   have DR:=(aX.storeAll nG (Ev.zero)).at
   have hbz:Below w.heap.size w (jq wr (w.heap.size+1) (Ev.zero)):=Lm (hbW.trans (hb.mono (by omega))) (by omega) _
   refine bodyPost_ret (v:= .tuple #[.agg (Ev.zero).cells,.int .i64 61]) ?g1 rfl ?g2
   case g2=>exact ⟨by rw [HK.out.1,HK.out.2];rfl,hbz⟩
   case g1=>exact Lp (P:=Tryz.prog) (fn:=Tryz.f319) (t:=4) (u:=5) (ty:=73) (b:=w.heap.size+1) (e:=Ev.zero) rfl rfl (nH.out _) (jv.out _) DR
end Go.Proofs.YtekiimhdnigmcaaGreatDoor
