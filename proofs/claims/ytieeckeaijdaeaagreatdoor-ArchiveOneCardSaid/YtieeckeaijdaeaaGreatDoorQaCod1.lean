/- A part of the proof. -/
import Derived.Test.YtieeckeaijdaeaaGreatDoorQaCodS
import Derived.Test.YtieeckeaijdaeaaGreatDoorQaStr
import Derived.Deep.AppendLies
namespace Go.Proofs.YtieeckeaijdaeaaGreatDoor
open Go.RowKit
set_option maxHeartbeats 400000 in
theorem wZ (b:Bs) (w:World):
  Calls Tryz.prog 203 #[.agg b.cells] w fun r w'=>r= .returned (.bool b.right)∧Below w.heap.size w w':=by
 have hb1:Below w.heap.size w (w.alloc (.cells b.cells 229)):=(Below.refl _ _).alloc (Nat.le_refl _) _
 obtain ⟨s,t⟩:=b
 unfold Bs.cells at*
 have HR:=hide (show Bs.right ⟨s,t⟩=decide (1≤s∧s≤281474976710656∧0≤t∧t≤281474976710656) from rfl)
 go_enter Tryz.func203,Tryz.ntmps203
 go_wp2
 all_goals
  go_ret
  refine ⟨U6 ?_,hb1⟩
  rw [HR.out,Bool.eq_iff_iff]
  simp only [decide_eq_true_eq,Bool.false_eq_true,false_iff]
  omega
set_option maxRecDepth 100000 in
set_option maxHeartbeats 400000 in
theorem OM (b:Bs) (e:Ev) (w:World):
  Calls Tryz.prog 204 #[.agg b.cells,.agg e.cells] w fun r w'=>r= .returned (.bool (b.behind e))∧Below w.heap.size w w':=by
 have hb1:Below w.heap.size w ((w.alloc (.cells b.cells 229)).alloc (.cells e.cells 32)):=((Below.refl _ _).alloc (Nat.le_refl _) _).alloc (by simp) _
 obtain ⟨s,t⟩:=b
 have HR:=hide (show Bs.behind ⟨s,t⟩ e=decide (s≤e.seq∧t≤e.time) from rfl)
 have c0:e.cells[0]?=some (.int .i64 e.seq):=rfl
 have c1:e.cells[1]?=some (.int .i64 e.time):=rfl
 generalize e.cells=cs at hb1 c0 c1⊢
 unfold Bs.cells at*
 go_enter Tryz.func204,Tryz.ntmps204
 go_wp2
 all_goals
  go_ret
  refine ⟨U6 ?_,hb1⟩
  rw [HR.out,Bool.eq_iff_iff]
  simp only [decide_eq_true_eq,Bool.false_eq_true,false_iff]
  omega
set_option maxRecDepth 100000 in
set_option maxHeartbeats 400000 in
theorem Vj (e:Ev) (w:World):
  Calls Tryz.prog 211 #[.agg e.cells] w fun r w'=>r= .returned (.agg e.at.cells)∧Below w.heap.size w w':=by
 have hb1:Below w.heap.size w (w.alloc (.cells e.cells 32)):=(Below.refl _ _).alloc (Nat.le_refl _) _
 have HR:=hide (show e.at.cells= #[.int .i64 e.seq,.int .i64 e.time] from rfl)
 have c0:e.cells[0]?=some (.int .i64 e.seq):=rfl
 have c1:e.cells[1]?=some (.int .i64 e.time):=rfl
 generalize e.cells=cs at hb1 c0 c1⊢
 go_enter Tryz.func211,Tryz.ntmps211
 go_wp2
 refine bodyPost_ret (v:= .agg #[.int .i64 e.seq,.int .i64 e.time]) (by simp [results,Tryz.results211,go_sem]) rfl ⟨by rw [HR.out],hb1.alloc (by simp) _⟩
structure cO (w:World) (err:Nat) (xs:List Nat) (r:Ending) (w':World):Prop where
 ret:∃v,r= .returned (.tuple #[v,.int .i64 (err:Int)])∧w'.ownsRow w.heap.size 5 1 v xs.length (xs.map B8)
 below:Below w.heap.size w w'
theorem OO (e:Ev):e.vals.length≤4:=by unfold Ev.vals;rw [List.length_map];exact xP _
theorem q3k {e:Ev} (he:e.Ok):∀x∈e.vals,x<18446744073709551616:=by
 intro x hx
 unfold Ev.vals at hx
 obtain ⟨i,_,rfl⟩:=List.mem_map.1 hx
 have hr:e.dK i<18446744073709551616:=by
  unfold Ev.dK
  split
  ·have:=he.bD;unfold bC at this;omega
  ·have:=he.group;unfold bC at this;omega
  ·have:=he.to;unfold bC at this;omega
  ·have:=he.weight;unfold bC at this;omega
  ·have:=he.aL;unfold bC at this;omega
  ·have:=he.mask;omega
  ·have:=he.got;unfold bC at this;omega
 omega
theorem aU:SI Tryz.prog 32 11:=⟨by kernel_rfl,by kernel_rfl⟩
theorem ed:SI Tryz.prog 229 2:=⟨by kernel_rfl,by kernel_rfl⟩
theorem qo (e:Ev):e.cells.size=11:=rfl
theorem tZ (b:Bs):b.cells.size=2:=rfl
theorem l9 (e:Ev):∀v∈e.cells.toList,v.oneCell'=true:=by intro v hv;simp [Ev.cells] at hv;rcases hv with rfl|rfl|rfl|rfl|rfl|rfl|rfl|rfl|rfl|rfl|rfl<;>rfl
theorem q6j (b:Bs):∀v∈b.cells.toList,v.oneCell'=true:=by intro v hv;simp [Bs.cells] at hv;rcases hv with rfl|rfl<;>rfl
structure aci (w:World) (b:Nat) (e:Bs):Prop where
 seq:w.cell? ⟨b,0,none⟩=some (.int .i64 e.seq)
 time:w.cell? ⟨b,1,none⟩=some (.int .i64 e.time)
theorem OP {w:World} {b:Nat} {e:Ev} (h:w.rangeAt b 0 e.cells.toList):dN w b e:=by
 constructor
 ·exact h 0 _ rfl
 ·exact h 1 _ rfl
 ·exact h 2 _ rfl
 ·exact h 3 _ rfl
 ·exact h 4 _ rfl
 ·exact h 5 _ rfl
 ·exact h 6 _ rfl
 ·exact h 7 _ rfl
 ·exact h 8 _ rfl
 ·exact h 9 _ rfl
 ·exact h 10 _ rfl
set_option maxRecDepth 100000 in
set_option maxHeartbeats 2000000 in
theorem qy7 (b:Bs) (e:Ev) (he:e.Ok) (B:Nat) (w:World) (hL:Laid B w) (hB:B≤w.heap.size):
  Calls Tryz.prog 156 #[.agg b.cells,.agg e.cells] w (cO w (l8 b e) (tY b e)):=by
 have hb1:Below w.heap.size w ((w.alloc (.cells b.cells 229)).alloc (.cells e.cells 32)):=((Below.refl _ _).alloc (Nat.le_refl _) _).alloc (by simp) _
 have hL1:=hL.below hb1 hB
 have HV:=hide (qsl e he B _ hL1 (by simp;omega))
 have HR:=hide (fun W=>wZ b W)
 have HH:=hide (fun W=>OM b e W)
 have c0:e.cells[0]?=some (.int .i64 e.seq):=rfl
 have c1:e.cells[1]?=some (.int .i64 e.time):=rfl
 have c3:e.cells[3]?=some (.int .u8 (e.kind:Int)):=rfl
 have d0:b.cells[0]?=some (.int .i64 b.seq):=rfl
 have d1:b.cells[1]?=some (.int .i64 b.time):=rfl
 have HE:=hide (qc (show ((w.alloc (.cells b.cells 229)).alloc (.cells e.cells 32)).heap[w.heap.size+1]?=some (.cells e.cells 32) by have:=World.alloc_heap_new (w.alloc (.cells b.cells 229)) (.cells e.cells 32);rwa [World.size_alloc] at this))
 have HD:=hide (qc (show ((w.alloc (.cells b.cells 229)).alloc (.cells e.cells 32)).heap[w.heap.size]?=some (.cells b.cells 229) from (Below.heap_alloc _ _ _ (by simp)).trans (World.alloc_heap_new w _)))
 have kK:=hide (qo e)
 have HB2:=hide (tZ b)
 by_cases hk:e.check=0
 ·have hne:((e.check:Int) !=0)=false:=by rw [bne_eq_false_iff_eq];omega
  have HK:=hide hk
  clear hk
  by_cases hrb:b.right=true∧b.behind e=true
  ·have hbR:=hide hrb.1
   have F6:=hide hrb.2
   have hP:=hide (show l8 b e=0 by unfold l8;rw [if_neg (by simp [HK.out]),if_pos hrb])
   have hq:=hrb.2
   have xc:=hrb.1
   unfold Bs.behind at hq
   unfold Bs.right at xc
   simp only [decide_eq_true_eq] at hq xc
   obtain ⟨q1,q2⟩:=hq
   obtain ⟨q3,q4,q5,q6⟩:=xc
   have ⟨_,_,q7,q8,q9,LF,q11⟩:=xQ HK.out
   have hol:e.rJ.length≤4:=by have:=OO e;unfold Ev.rJ;split<;>simp<;>omega
   clear hrb
   rw [hbR.out] at HR
   rw [F6.out] at HH
   generalize hcs:e.cells=cs at*
   generalize hds:b.cells=ds at*
   have HCS:=hide hcs
   have OQ:=hide hds
   clear hcs hds
   go_enter Tryz.func156,Tryz.ntmps156
   go_wp2_with (first
    |(with_reducible refine zm HE.out rfl rfl rfl aU kK.out ?_)
    |(go_at_call 202;refine HV.out.mono ?_;rintro r w1 ⟨⟨v,rfl,hown⟩,hbw⟩;obtain ⟨A,c,rfl⟩:=tN hown;have xX:=hide (qk HE.out hbw (by simp));have HD1:=hide (qk HD.out hbw (by simp;omega));have hz1:=hbw.size;simp only [World.size_alloc] at hz1)
    |(refine sM xX.out (by rfl) rfl rfl aU kK.out ?_)|(refine sM HD1.out (by rfl) rfl rfl ed HB2.out ?_)
    |(go_at_call 203;refine (HR.out _).mono ?_;rintro r w2 ⟨rfl,hbw2⟩;have HE2:=hide (qk xX.out hbw2 (by omega));have HD2:=hide (qk HD1.out hbw2 (by omega));have hz2:=hbw2.size)
    |(refine sM HE2.out (by rfl) rfl rfl aU kK.out ?_)
    |(refine sM HD2.out (by rfl) rfl rfl ed HB2.out ?_)
    |(go_at_call 204;refine (HH.out _).mono ?_;rintro r w3 ⟨rfl,ma⟩;have LG:=hide (qk HE2.out ma (by omega));have HD3:=hide (qk HD2.out ma (by omega));have hz3:=ma.size;have k0:=BM LG.out c0;have k1:=BM LG.out c1;have k3:=BM LG.out c3;have j0:=BM HD3.out d0;have j1:=BM HD3.out d1;have hRv:=(((Rd.BG hown rfl).below hbw2).below (ma.mono hz2)).more (Nat.le_trans hz2 hz3))
    |(at_builtin;refine Lu rfl rfl zz (World.ownsRow_lit (base:=w.heap.size) (e:=30) (size:=1) w3 #[.int .u64 (e.seq-b.seq),.int .u64 (e.time-b.time)] 2 (by omega) (by unfold maxLen;omega) rfl) rfl (hRv.alloc (Nat.le_refl _) _) rfl (by simp [Value.oneCell',aK]) (by omega) (by omega) (by simp;omega) ?_;intro A4 c4 w4 zV xY OT))
   have hs4:=xY.size
   simp only [World.size_alloc] at hs4
   have OU:=World.alloc_heap_new w3 (.cells #[.int .u64 (e.seq-b.seq),.int .u64 (e.time-b.time)] 30)
   have k4:w4.cell? ⟨w.heap.size+1,3,none⟩=some (.int .u8 (e.kind:Int)):=by
    refine (World.cell?_of_block (xY.block (w.heap.size+1) (by simp;omega) (fun h=>?_))).trans ((World.cell?_alloc_lt w3 _ ⟨w.heap.size+1,3,none⟩ (by show w.heap.size+1<_;omega)).trans k3)
    have h':w.heap.size+1=w3.heap.size:=by injection h
    omega
   have hB4:Below w.heap.size w w4:=((((hb1.trans (hbw.mono (by simp;omega))).trans (hbw2.mono (by omega))).trans (ma.mono (by omega))).alloc (by omega) _).grown xY (by simp;omega) (fun g hg=>by
    have h':w3.heap.size=g:=by injection hg
    omega)
   have hov:e.rJ=e.vals:=by unfold Ev.rJ;rw [if_pos HK.out]
   have hR4:Rd w4 w4.heap.size 1 A4 (2+e.rJ.length) ((zw b e).map aK):=by
    have h1:=Rd.BG zV rfl
    have h2: [Value.int .u64 (e.seq-b.seq),.int .u64 (e.time-b.time)]++List.map aK e.rJ=(zw b e).map aK:=by
     rw [hov];unfold zw;simp [aK];omega
    rwa [h2] at h1
   have hls:∀x∈zw b e,x<18446744073709551616:=by
    intro x hx
    unfold zw at hx
    rcases List.mem_cons.1 hx with rfl|hx
    ·omega
    ·rcases List.mem_cons.1 hx with rfl|hx
     ·omega
     ·exact q3k he x hx
   have hfl:=zu (zw b e)
   have hrl:(zw b e).length≤6:=by have:=OO e;unfold zw;simp;omega
   have HW:=hide (fun W (hr:Rd W W.heap.size 1 A4 (2+e.rJ.length) ((zw b e).map aK))=>U2 A4 (2+e.rJ.length) c4 (zw b e) W hr hls (by omega))
   have acm:w.heap.size+2≤w4.heap.size:=by omega
   obtain ⟨L,HL⟩:∃L,Hid ((zw b e).flatMap ah=L):=⟨_,hide rfl⟩
   rw [HL.out] at HW hfl
   have HLS:=hide hls
   clear hls hov OU zV xY OT hRv k0 k1 k3 j0 j1 LG HD3 HE2 HD2 xX HD1 hown hbw hbw2 ma hz1 hz2 hz3 HE HD HH HV hL1 hb1 HR hs4
   clear hne
   have OV:w.heap.size+1<w4.heap.size:=by omega
   have hkeep:∀W,Below w4.heap.size w4 W→W.cell? ⟨w.heap.size+1,3,none⟩=some (.int .u8 (e.kind:Int))∧Below w4.heap.size w4 W:=fun W hB=>⟨(hB.cell (p:=⟨w.heap.size+1,3,none⟩) OV).trans k4,hB⟩
   have mU:=hide hkeep
   have hr0:Below w4.heap.size w4 w4:=Below.refl _ _
   have hm:w4.heap.size≤w4.heap.size:=Nat.le_refl _
   clear hkeep
   go_region_held3 (fun w'=>w'.cell? ⟨w.heap.size+1,3,none⟩=some (.int .u8 (e.kind:Int))∧Below w4.heap.size w4 w')
    (first
     |exact mU.out _ hr0.drew
     |exact mU.out _ (hr0.alloc hm _).drew
     |exact mU.out _ hS5
     |exact mU.out _ (hS5.alloc hS5.size _)
     |exact mU.out _ OW)
    (first
     |(go_at_call 68;have hS:=‹_∧Below w4.heap.size w4 _›;refine (HW.out _ ((hR4.below hS.2).more hS.2.size)).mono ?_;rintro r w5 ⟨v5,rfl,hown5,hb5⟩;obtain ⟨A5,c5,rfl⟩:=tN hown5;have hS5:=hS.2.trans (hb5.mono hS.2.size))
     |(refine Od rfl rfl aM (((bY.of_below hb5).keep (Nat.zero_le _)).ownsRow (World.ownsRow_lit (base:=w.heap.size) (e:=5) (size:=1) w4 #[.int .u8 (e.kind:Int)] 1 (by omega) (by unfold maxLen;omega) rfl).drew (by simp)) rfl (Rd.BG hown5 rfl) rfl (by simp [Value.oneCell',B8]) (by omega) (by omega) (by have:=hS5.size;omega) ?_;intro A6 c6 w6 hown6 oZ F7;have OW:=hS5.grown oZ hS5.size (fun g hg=>by have h':w4.heap.size=g:=by {injection hg};omega))
     |(refine Od rfl rfl aM (World.ownsRow_lit (base:=w.heap.size) (e:=5) (size:=1) w5 #[.int .u8 (e.kind:Int)] 1 (by have:=hS5.size;omega) (by unfold maxLen;omega) rfl) rfl ((Rd.BG hown5 rfl).alloc (Nat.le_refl _) _) rfl (by simp [Value.oneCell',B8]) (by omega) (by omega) (by have:=hS5.size;simp;omega) ?_;intro A6 c6 w6 hown6 oZ F7;have OW:=(hS5.alloc hS5.size _).grown oZ (by simp;have:=hS5.size;omega) (fun g hg=>by have h':w5.heap.size=g:=by {injection hg};have:=hS5.size;omega)))
   all_goals
    go_wp2
    go_ret2
    refine ⟨⟨.slice A6 (1+L.length) c6,by rw [hP.out];rfl,?_⟩,hB4.trans (OW.mono (by omega))⟩
    have hO:tY b e=e.kind::L:=by unfold tY;rw [if_pos hP.out];unfold qI;rw [HL.out]
    rw [hO,List.length_cons,List.map_cons,Nat.add_comm L.length 1]
    exact hown6
  ·have hP:=hide (show l8 b e=70 by unfold l8;rw [if_neg (by simp [HK.out]),if_neg hrb])
   have hO:=hide (show tY b e=[] by unfold tY;rw [hP.out];rfl)
   have hbb:b.right=false∨(b.right=true∧b.behind e=false):=by
    cases h1:b.right
    ·exact .inl rfl
    ·refine .inr ⟨rfl,?_⟩
     cases h2:b.behind e
     ·rfl
     ·exact absurd ⟨h1,h2⟩ hrb
   clear hrb c0 c1 c3 d0 d1
   generalize e.cells=cs at*
   generalize b.cells=ds at*
   rcases hbb with hbR|⟨hbR,F6⟩
   ·rw [hbR] at HR
    have hR':=hide hbR
    clear hbR
    go_enter Tryz.func156,Tryz.ntmps156
    go_wp2_with (first
     |(with_reducible refine zm HE.out rfl rfl rfl aU kK.out ?_)
     |(go_at_call 202;refine HV.out.mono ?_;rintro r w1 ⟨⟨v,rfl,hown⟩,hbw⟩;have xX:=hide (qk HE.out hbw (by simp));have HD1:=hide (qk HD.out hbw (by simp;omega));have hz1:=hbw.size;simp only [World.size_alloc] at hz1)
     |(refine sM xX.out (by rfl) rfl rfl aU kK.out ?_)
     |(refine sM HD1.out (by rfl) rfl rfl ed HB2.out ?_)
     |(go_at_call 203;refine (HR.out _).mono ?_;rintro r w2 ⟨rfl,hbw2⟩;have HE2:=hide (qk xX.out hbw2 (by omega));have HD2:=hide (qk HD1.out hbw2 (by omega));have hz2:=hbw2.size)
     |(refine sM HE2.out (by rfl) rfl rfl aU kK.out ?_)
     |(refine sM HD2.out (by rfl) rfl rfl ed HB2.out ?_)
     |(go_at_call 204;refine (HH.out _).mono ?_;rintro r w3 ⟨rfl,ma⟩))
    go_ret2
    refine ⟨⟨.slice none 0 0,by rw [hP.out];rfl,by rw [hO.out];exact World.ownsRow_nil _ _ _ _⟩,(hb1.trans (hbw.mono (by simp;omega))).trans (hbw2.mono (by omega))⟩
   ·rw [hbR] at HR
    rw [F6] at HH
    have hR':=hide hbR
    have hH':=hide F6
    clear hbR F6
    go_enter Tryz.func156,Tryz.ntmps156
    go_wp2_with (first
     |(with_reducible refine zm HE.out rfl rfl rfl aU kK.out ?_)
     |(go_at_call 202;refine HV.out.mono ?_;rintro r w1 ⟨⟨v,rfl,hown⟩,hbw⟩;have xX:=hide (qk HE.out hbw (by simp));have HD1:=hide (qk HD.out hbw (by simp;omega));have hz1:=hbw.size;simp only [World.size_alloc] at hz1)
     |(refine sM xX.out (by rfl) rfl rfl aU kK.out ?_)
     |(refine sM HD1.out (by rfl) rfl rfl ed HB2.out ?_)
     |(go_at_call 203;refine (HR.out _).mono ?_;rintro r w2 ⟨rfl,hbw2⟩;have HE2:=hide (qk xX.out hbw2 (by omega));have HD2:=hide (qk HD1.out hbw2 (by omega));have hz2:=hbw2.size)
     |(refine sM HE2.out (by rfl) rfl rfl aU kK.out ?_)
     |(refine sM HD2.out (by rfl) rfl rfl ed HB2.out ?_)
     |(go_at_call 204;refine (HH.out _).mono ?_;rintro r w3 ⟨rfl,ma⟩))
    go_ret2
    refine ⟨⟨.slice none 0 0,by rw [hP.out];rfl,by rw [hO.out];exact World.ownsRow_nil _ _ _ _⟩,((hb1.trans (hbw.mono (by simp;omega))).trans (hbw2.mono (by omega))).trans (ma.mono (by omega))⟩
 ·have hne:((e.check:Int) !=0)=true:=by rw [bne_iff_ne];omega
  have HK:=hide hk
  clear hk c0 c1 c3 d0 d1
  generalize e.cells=cs at*
  generalize b.cells=ds at*
  go_enter Tryz.func156,Tryz.ntmps156
  go_wp2_with (first|(with_reducible refine zm HE.out rfl rfl rfl aU kK.out ?_)|(go_at_call 202;refine HV.out.mono ?_;rintro r w1 ⟨⟨v,rfl,hown⟩,hbw⟩))
  go_ret2
  have h0:=HK.out
  refine ⟨⟨.slice none 0 0,by rw [show l8 b e=e.check by unfold l8;rw [if_pos h0]];rfl,by rw [show tY b e=[] by unfold tY l8;rw [if_pos h0,if_neg h0]];exact World.ownsRow_nil _ _ _ _⟩,hb1.trans (hbw.mono (by simp;omega))⟩
end Go.Proofs.YtieeckeaijdaeaaGreatDoor
