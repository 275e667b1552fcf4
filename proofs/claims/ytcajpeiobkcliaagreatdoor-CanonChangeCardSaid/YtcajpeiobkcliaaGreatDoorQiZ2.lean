/- Parts. -/
import Derived.Test.YtcajpeiobkcliaaGreatDoorQiRnd2
import Derived.Test.YtcajpeiobkcliaaGreatDoorQiIs
import Derived.Test.YtcajpeiobkcliaaGreatDoorQiSep14
import Derived.Test.YtcajpeiobkcliaaGreatDoorQiZ1
set_option linter.all false
set_option maxRecDepth 100000
set_option maxHeartbeats 1000000
namespace Go.Proofs.YtcajpeiobkcliaaGreatDoor
open Go.RowKit
theorem za (A:Option Addr) (c:Nat) (l:List Int) (w:World) (hr:Rd w w.heap.size 1 A l.length (l.map I64i)) (hn:l.length≤1000000):
    Calls Tryz.prog 52 #[.slice A l.length c] w (q0m w l):=by
 refine (JN1 Tryz.func52 7) ?_
 refine (JP∘Jp 1∘Jr∘Jp 1∘Jr∘Jp 2) fun a Z I=>?_
 refine fo Z 2 rfl rfl ?_
 replace I:=I.nil 3 1
 refine qad Z I (i:=0) rfl ze rfl rfl rfl (news:=(l.map I64i)) (I.old hr) (qtm _) om om rfl de ?_
 clear Z I;intro a w6 A6 c6 Z I hc6
 have hnA6:0+l.length=l.length:=Nat.zero_add _
 replace I:=I.reRow (i:=0) (ys:=l.map I64i) rfl hnA6 (rfl)
 rw [hnA6] at hc6
 replace Z:=Z.sp 6 (.slice A6 l.length c6) rfl (by rw [hnA6])
 exact Jb Z I ((Jp 1∘Jd5∘Jj∘JZ∘Jz1) fun I=>by exact ⟨⟨_,_,rfl,I.own (i:=0) rfl,hc6⟩,I.below⟩)
theorem qaj (x:Stm) (w:World) (hx:StRd w x) (hn:x.gs.length≤1000000):
    Calls Tryz.prog 51 #[.agg #[vI x.cpus,vQ (x.credit:Int),.slice x.gA x.gs.length x.gc]] w (q2x w x):=by
 refine (JN1 Tryz.func51 10) ?_
 refine (JP∘JE) fun w1 g1=>(JA #[vI 0,vQ 0,vN]) fun w2 g2=>(Jr∘Jp 1∘Jr∘Jp 1∘Jg 2 O1) fun a Z I=>?_
 refine fo Z 3 rfl rfl ?_
 replace I:=I.nil 110 2
 refine qad Z I (i:=0) rfl ei_gr rfl rfl rfl (news:=(x.gs.flatMap grL)) (I.old hx.g) (qot _) om om rfl de ?_
 clear Z I;intro a w7 A7 c7 Z I hc7
 have hnA7:0+x.gs.length=x.gs.length:=Nat.zero_add _
 replace I:=I.reRow (i:=0) (ys:=x.gs.flatMap grL) rfl hnA7 (rfl)
 rw [hnA7] at hc7
 replace Z:=Z.sp 7 (.slice A7 x.gs.length c7) rfl (by rw [hnA7])
 refine Jb Z I ((Jf 2∘JW O2' O2') fun w2_5=>(Jt6∘Jr∘Jy (v:= .agg #[vI x.cpus,vQ x.credit,.slice A7 x.gs.length c7]) (h:=by exact Yl.loadS rfl rfl qab rfl (fun _ h=>qa (h.blk (i:=2) rfl)))∘JV qab O1') fun w3_1=>(Jt1∘Jj∘JZ) fun a Z I=>?_)
 exact ret1 rfl Z (.cellS (i:=1) Z I rfl rfl qab rfl) (⟨⟨_,_,rfl,I.own (i:=0) rfl,hc7⟩,I.below⟩)
theorem qe2 (x:Stm) (w:World) (hx:StRd w x) (hf:StFew x):
    Calls Tryz.prog 21 #[.agg x.cells] w (qtl w x):=by
 have hfg:=hf.g;have hfl:=hf.l;have hfu:=hf.u;have hft:=hf.t;have hfs:=hf.s
 refine (JN1 Tryz.func21 44) ?_
 refine (JP∘JE) fun w1 g1=>(JA #[vI 0,vQ 0,vN,vN,vN,vN,vN]) fun w2 g2=>(Jr∘Jp 1∘Jr∘Jp 1∘Jq) fun a Z I=>?_
 replace I:=I.nil 64 1
 replace I:=I.newTail 63 3
 replace I:Mem w _ (.row (vN) 0 [] 64 1:: .blk g2 #[vI 0,vQ 0,vN,vN,vN,vN,vN] 38:: .blk g1 x.cells 38::rwF 63 []):=I
 refine Jb Z I ((JG∘JQ∘JP∘Jp 1∘Jj∘JB) fun a Z I=>?_)
 refine qj (fun mS aS wS=>∃(i:Nat) (z:List Rw) (As:Option Addr) (cs:Nat),(i≤x.rs.length)∧(z.length=i)∧(z.map Rw.l=(x.rs.take i).map Rw.l)∧(∀q∈z,q.l.length≤q.c)∧(z.length≤cs)∧mS=x.rs.length-i∧Fr aS 44 [] [(5,vI i),(4,.slice As z.length cs),(3,vN),(2,vP g2 0),(1,vP g1 0)]∧Mem w wS (.row (.slice As z.length cs) z.length (z.map Rw.val) 64 1:: .blk g2 #[vI 0,vQ 0,vN,vN,vN,vN,vN] 38:: .blk g1 x.cells 38::rwF 63 z)) (m:=x.rs.length-0) ⟨0,[],none,0,Nat.zero_le _,rfl,rfl,(fun q h=>by cases h),Nat.le_refl _,rfl,Z.sub kr,I.pt 3 [0,1,2]⟩ ?_
 clear Z I;rintro mS a w_ ⟨i,z,As,cs,hi,hzl,hz,hzc,hcs,rfl,Z,I⟩
 refine Jb Z I ((JQ∘JP∘Jp 1∘Jg 6 O2∘Jl∘Jp 1∘Jd3∘Jj) (Ju (fun hb11=>?_) fun hb11=>?_))
 ·
  intro a Z I
  have hd11:=of_decide_eq_true hb11
  have hi11:i<x.rs.length:=by omega
  obtain ⟨y,hy⟩:∃q,x.rs.getD i Rw.zero=q:=⟨_,rfl⟩
  have hyr:Rd w w.heap.size 3 y.A y.l.length (y.l.flatMap spL):=by rw [←hy];exact hx.row hi11
  have hyl:y.l.length≤1000000:=by rw [←hy];exact hf.r _ (qd Rw.zero hi11)
  refine Jb Z I ((JT∘JS'∘JQ∘JB∘JP∘Jp 1∘Jj∘JR∘Jp 2∘Jg 6 O2∘Jp 1) fun a Z I=>?_)
  obtain ⟨gq1,oq1,hq1,_⟩:=Rd.qm hx.s (Nat.lt_of_le_of_lt (Nat.zero_le _) (show i<x.rs.length from by omega)) de
  have hrq1:=hx.s;rw [hq1] at hrq1
  replace Z:=Z.sp 17 (.slice (some ⟨gq1,oq1,none⟩) x.rs.length x.sc) rfl (by rw [hq1];try rfl)
  refine Jb Z I ((Jy (h:=by exact Yl.ix gq1 oq1 i 1 rfl rfl rfl)∘Jy (v:= .slice ((x.rs.getD i Rw.zero).A) ((x.rs.getD i Rw.zero).l.length) ((x.rs.getD i Rw.zero).c)) (h:=by exact Yl.o1 hrq1 i Rw.zero hi11 rfl rfl)∘Jo (.slice y.A y.l.length y.c) (by rw [hy])) fun a Z I=>?_)
  refine fo Z 7 rfl rfl ?_
  replace I:=I.nil 63 3
  refine qad Z I (i:=0) rfl ei_sp rfl rfl rfl (news:=(y.l.flatMap spL)) (I.old hyr) (qy3 _) om om rfl de ?_
  clear Z I;intro a w21 A21 c21 Z I hc21
  have hnA21:0+y.l.length=y.l.length:=Nat.zero_add _
  replace I:=I.reRow (i:=0) (ys:=y.l.flatMap spL) rfl hnA21 (rfl)
  rw [hnA21] at hc21
  replace Z:=Z.sp 21 (.slice A21 y.l.length c21) rfl (by rw [hnA21])
  refine Jb Z I ((JU ei_rw #[.slice A21 y.l.length c21]) fun w22 g22=>(JD ([(⟨A21,c21,y.l⟩:Rw)].map Rw.val) 2 (fun _ _=>O2') ei_rw (hr:=by exact fun I=>I.rdBlk (i:=0) (n:=1) (size:=1) rfl rfl) (h1:=by exact qy4 _)) fun w23 A23 c23 hc23=>fun a Z I=>?_)
  have hnA23:z.length+1=(z++[(⟨A21,c21,y.l⟩:Rw)]).length:=qax rfl
  replace I:=I.reRow (i:=2) (ys:=(z++[(⟨A21,c21,y.l⟩:Rw)]).map Rw.val) rfl hnA23 (List.map_append.symm)
  rw [hnA23] at hc23
  replace Z:=Z.sp 23 (.slice A23 ((z++[(⟨A21,c21,y.l⟩:Rw)]).length) c23) rfl (by rw [hnA23])
  refine Jb Z I ((Jp 1∘Jd6∘Jq) fun a Z I=>?_)
  replace I:=I.pt (fs':=(.row (.slice A21 y.l.length c21) y.l.length (y.l.flatMap spL) 63 3:: .row (.slice A23 ((z++[(⟨A21,c21,y.l⟩:Rw)]).length) c23) ((z++[(⟨A21,c21,y.l⟩:Rw)]).length) ((z++[(⟨A21,c21,y.l⟩:Rw)]).map Rw.val) 64 1:: .blk g2 #[vI 0,vQ 0,vN,vN,vN,vN,vN] 38:: .blk g1 x.cells 38::rwF 63 z)) 5 [1,2,3,4]
  replace I:=Mem.toRw (fs:=[.row (.slice A23 ((z++[(⟨A21,c21,y.l⟩:Rw)]).length) c23) ((z++[(⟨A21,c21,y.l⟩:Rw)]).length) ((z++[(⟨A21,c21,y.l⟩:Rw)]).map Rw.val) 64 1,.blk g2 #[vI 0,vQ 0,vN,vN,vN,vN,vN] 38,.blk g1 x.cells 38]) I
  replace I:Mem w _ (.row (.slice A23 ((z++[(⟨A21,c21,y.l⟩:Rw)]).length) c23) ((z++[(⟨A21,c21,y.l⟩:Rw)]).length) ((z++[(⟨A21,c21,y.l⟩:Rw)]).map Rw.val) 64 1:: .blk g2 #[vI 0,vQ 0,vN,vN,vN,vN,vN] 38:: .blk g1 x.cells 38::rwF 63 (z++[(⟨A21,c21,y.l⟩:Rw)])):=I
  refine Jb Z I ((JG∘JR∘Jp 1∘JaK 1∘Jp 1∘Jd2∘Jq) fun a Z I=>?_)
  exact ⟨_,om,i+1,(z++[(⟨A21,c21,y.l⟩:Rw)]),A23,c23,by omega,by rw [List.length_append,hzl];rfl,by rw [List.map_append,hz,qou hi11,hy];rfl,fun q h=>(List.mem_append.1 h).elim (hzc q) (fun h=>by rw [List.mem_singleton] at h;subst h;exact hc21),hc23,rfl,Z.sub kr,I.pt 3 [0,1,2]⟩
 intro a Z I
 have hd11:=of_decide_eq_false hb11
 have hzt:x.rs.take i=x.rs:=List.take_of_length_le om
 refine Jb Z I ((JF∘JX) fun a Z I=>?_)
 refine wp_seq ?_
 refine Jb Z I ((Vs (.t (.t (.f .n))) [15,21,23]) fun wd8=>fun a Z I HS=>?_)
 refine qw (f:=9) (l:=(bt 24 [15,16,17,18,19,20,21,22,23])) (fun aS wS=>∃(A26:Option Addr) (c26:Nat) (A29:Option Addr) (c29:Nat) (A32:Option Addr) (c32:Nat) (A36:Option Addr) (c36:Nat),Fr aS 44 [] [(36,.slice A36 (0+x.ts.length) c36),(38,vP g1 0),(32,.slice A32 x.cu.length c32),(29,.slice A29 x.cl.length c29),(26,.agg #[vI x.cpus,vQ x.credit,.slice A26 x.gs.length c26]),(37,.slice As z.length cs),(11,.bool false),(5,vI i),(4,.slice As z.length cs),(2,vP g2 0),(1,vP g1 0)]∧Mem w wS (.row (.slice A36 (0+x.ts.length) c36) (0+x.ts.length) ([]++(x.ts.flatMap tkL)) 61 8:: .row (.slice A32 x.cu.length c32) x.cu.length (x.cu.map I64i) 3 1:: .row (.slice A29 x.cl.length c29) x.cl.length (x.cl.map I64i) 3 1:: .row (.slice A26 x.gs.length c26) x.gs.length (x.gs.flatMap grL) 110 2:: .row (.slice As z.length cs) z.length (z.map Rw.val) 64 1:: .blk g2 #[vI 0,vQ 0,vN,vN,vN,vN,vN] 38:: .blk g1 x.cells 38::rwF 63 z)∧(x.gs.length≤c26)∧(x.cl.length≤c29)∧(x.cu.length≤c32)∧(0+x.ts.length≤c36)) ?_ fun M8_0=>?_
 ·
  clear Z I HS;rintro a wM ⟨A26,c26,A29,c29,A32,c32,A36,c36,Z,I,hc26,hc29,hc32,hc36⟩
  have HS:=I.pt (fs':=(.row (.slice As z.length cs) z.length (z.map Rw.val) 64 1:: .blk g2 #[vI 0,vQ 0,vN,vN,vN,vN,vN] 38::rwF 63 z)) 7 [4,5]
  refine s_on Z 15 rfl (e_sp Z I 6 (es:= #[vI x.cpus,vQ x.credit,.slice A26 x.gs.length c26,.slice x.lA x.cl.length x.lc,.slice x.uA x.cu.length x.uc,.slice x.tA x.ts.length x.tc,.slice x.sA x.rs.length x.sc]) rfl rfl rfl rfl rfl qab (Nat.le_of_ble_eq_true rfl) rfl (by simp [Value.oneCell']) rfl ?_)
  clear I;intro w8_15 I
  refine noS kr ?_
  refine ap Z (pastS kr) [16] (bt 24 [17,18,19,20,21,22,23]) [(39,vP g1 3)] fun a Z=>?_
  refine s_on Z 17 rfl (s_es Z I 6 ?_)
  clear I;intro w8_17 I
  refine keepS (I.pt 7 [4,5]) (fun HS=>?_)
  refine ap Z (pastS kr) [18] (bt 24 [19,20,21,22,23]) [(40,vP g1 4)] fun a Z=>?_
  refine s_on Z 19 rfl (s_es Z I 6 ?_)
  clear I;intro w8_19 I
  refine keepS (I.pt 7 [4,5]) (fun HS=>?_)
  refine ap Z (pastS kr) [20] (bt 24 [21,22,23]) [(41,vP g1 5)] fun a Z=>?_
  refine s_on Z 21 rfl (s_es Z I 6 ?_)
  clear I;intro w8_21 I
  refine noS kr ?_
  refine ap Z (pastS kr) [22] (bt 24 [23]) [(42,vP g1 6)] fun a Z=>?_
  refine s_on Z 23 rfl (s_es Z I 6 ?_)
  clear I;intro w8_23 I
  refine noS kr ?_
  refine qb kr ?_
  rw [Nat.zero_add] at I hc36
  refine Jb Z I ((JP∘Jy (v:= .agg #[vI x.cpus,vQ x.credit,.slice A26 x.gs.length c26,.slice A29 x.cl.length c29,.slice A32 x.cu.length c32,.slice A36 x.ts.length c36,.slice As z.length cs]) (h:=by exact Yl.loadS rfl rfl si_st rfl (fun _ h=>qa (h.blk (i:=6) rfl)))∘JV si_st O5') fun w9_1=>(Jt6∘Jj∘JZ) fun a Z I=>?_)
  exact ret1 rfl Z (.cellS (i:=5) Z I rfl rfl si_st rfl) (⟨⟨x.cpus,x.credit,A26,c26,x.gs,A29,c29,x.cl,A32,c32,x.cu,A36,c36,x.ts,As,cs,z⟩,rfl,⟨⟨rfl,rfl,rfl⟩,rfl,rfl,rfl,(by rw [hzt] at hz;exact hz.symm)⟩,⟨hc26,hc29,hc32,hc36,hcs,hzc⟩,I.pt 7 [3,2,1,0,4]⟩)
 refine qw (f:=12) (l:=(bf 24 [0,1,2,3,4,5,6,7,9,10,11,13])) (fun aS wS=>∃(A26:Option Addr) (c26:Nat) (A29:Option Addr) (c29:Nat),Fr aS 44 [] [(35,.slice x.tA x.ts.length x.tc),(31,.slice x.uA x.cu.length x.uc),(29,.slice A29 x.cl.length c29),(26,.agg #[vI x.cpus,vQ x.credit,.slice A26 x.gs.length c26]),(37,.slice As z.length cs),(33,vN),(11,.bool false),(5,vI i),(4,.slice As z.length cs),(2,vP g2 0),(1,vP g1 0)]∧Mem w wS (.row (.slice A29 x.cl.length c29) x.cl.length (x.cl.map I64i) 3 1:: .row (.slice A26 x.gs.length c26) x.gs.length (x.gs.flatMap grL) 110 2:: .row (.slice As z.length cs) z.length (z.map Rw.val) 64 1:: .blk g2 #[vI 0,vQ 0,vN,vN,vN,vN,vN] 38:: .blk g1 x.cells 38::rwF 63 z)∧(x.gs.length≤c26)∧(x.cl.length≤c29)) ?_ fun M8_1=>?_
 ·
  clear Z I HS;rintro a wM ⟨A26,c26,A29,c29,Z,I,hc26,hc29⟩
  have HS:=I.pt (fs':=(.row (.slice As z.length cs) z.length (z.map Rw.val) 64 1:: .blk g2 #[vI 0,vQ 0,vN,vN,vN,vN,vN] 38::rwF 63 z)) 5 [2,3]
  refine Vb Z I HS ((Vf 14 0∘VK 8 (.f (.f (.t (.t (.f .n))))) (h:=by exact fun I=>za x.uA x.uc x.cu _ (I.old hx.u) hf.u)) fun A32 c32 w32 hc32=>fun a Z I HS=>?_)
  refine s_on Z 12 rfl ?_
  replace I:=I.nil 61 8
  refine qad Z I (i:=0) rfl ei_tk rfl rfl rfl (news:=(x.ts.flatMap tkL)) (I.old hx.t) (qfu _) om om rfl de ?_
  clear Z I;intro a w36 A36 c36 Z I hc36
  refine keepS (I.pt 7 [4,5]) (fun HS=>?_)
  exact M8_0 _ _ ⟨A26,c26,A29,c29,A32,c32,A36,c36,Z.sub kr,I.pt 7 [0,1,2,3,4,5,6],hc26,hc29,hc32,hc36⟩
 refine qw (f:=13) (l:=(bf 24 [0,1,2,3,4,5,6,7,9,10,13])) (fun aS wS=>∃(A26:Option Addr) (c26:Nat) (A29:Option Addr) (c29:Nat),Fr aS 44 [] [(31,.slice x.uA x.cu.length x.uc),(29,.slice A29 x.cl.length c29),(26,.agg #[vI x.cpus,vQ x.credit,.slice A26 x.gs.length c26]),(37,.slice As z.length cs),(34,vP g1 5),(33,vN),(11,.bool false),(5,vI i),(4,.slice As z.length cs),(2,vP g2 0),(1,vP g1 0)]∧Mem w wS (.row (.slice A29 x.cl.length c29) x.cl.length (x.cl.map I64i) 3 1:: .row (.slice A26 x.gs.length c26) x.gs.length (x.gs.flatMap grL) 110 2:: .row (.slice As z.length cs) z.length (z.map Rw.val) 64 1:: .blk g2 #[vI 0,vQ 0,vN,vN,vN,vN,vN] 38:: .blk g1 x.cells 38::rwF 63 z)∧(x.gs.length≤c26)∧(x.cl.length≤c29)) ?_ fun M8_2=>?_
 ·
  clear Z I HS;rintro a wM ⟨A26,c26,A29,c29,Z,I,hc26,hc29⟩
  have HS:=I.pt (fs':=(.row (.slice As z.length cs) z.length (z.map Rw.val) 64 1:: .blk g2 #[vI 0,vQ 0,vN,vN,vN,vN,vN] 38::rwF 63 z)) 5 [2,3]
  refine qo [8,11] kr rfl ?_
  refine all_cons ?_ ?_
  ·refine qc Z (i:=8) rfl rfl ?_
   refine s_ek Z I [.slice x.uA x.cu.length x.uc] (za x.uA x.uc x.cu _ (I.old hx.u) hf.u) fun A32 c32 w32 hc32 I a Z=>?_
   refine keepS (I.pt 6 [3,4]) (fun HS=>?_)
   refine s_on Z 11 rfl ?_
   refine Yl.wp (S:=fun wS=>Mem w wS _) (v:= .slice x.tA x.ts.length x.tc) (Yl.qe rfl rfl kr (fun _ h=>h.cell (i:=5) rfl (rfl))) Z I rfl de fun a Z=>?_
   refine keepS HS (fun HS=>?_)
   refine Vb Z I HS ((Vf 14 0) fun a Z I HS=>?_)
   refine s_on Z 12 rfl ?_
   replace I:=I.nil 61 8
   refine qad Z I (i:=0) rfl ei_tk rfl rfl rfl (news:=(x.ts.flatMap tkL)) (I.old hx.t) (qfu _) om om rfl de ?_
   clear Z I;intro a w36 A36 c36 Z I hc36
   refine keepS (I.pt 7 [4,5]) (fun HS=>?_)
   exact M8_0 _ _ ⟨A26,c26,A29,c29,A32,c32,A36,c36,Z.sub kr,I.pt 7 [0,1,2,3,4,5,6],hc26,hc29,hc32,hc36⟩
  refine all_cons ?_ all_nil
  refine qc Z (i:=11) rfl rfl ?_
  refine Yl.wp (S:=fun wS=>Mem w wS _) (v:= .slice x.tA x.ts.length x.tc) (Yl.qe rfl rfl kr (fun _ h=>h.cell (i:=4) rfl (rfl))) Z I rfl de fun a Z=>?_
  refine keepS HS (fun HS=>?_)
  exact M8_1 _ _ ⟨A26,c26,A29,c29,Z.sub kr,I.pt 5 [0,1,2,3,4],hc26,hc29⟩
 refine qw (f:=13) (l:=(bf 24 [0,1,2,3,4,5,6,9,10,11,13])) (fun aS wS=>∃(A26:Option Addr) (c26:Nat) (A29:Option Addr) (c29:Nat),Fr aS 44 [] [(35,.slice x.tA x.ts.length x.tc),(29,.slice A29 x.cl.length c29),(26,.agg #[vI x.cpus,vQ x.credit,.slice A26 x.gs.length c26]),(37,.slice As z.length cs),(33,vN),(30,vP g1 4),(11,.bool false),(5,vI i),(4,.slice As z.length cs),(2,vP g2 0),(1,vP g1 0)]∧Mem w wS (.row (.slice A29 x.cl.length c29) x.cl.length (x.cl.map I64i) 3 1:: .row (.slice A26 x.gs.length c26) x.gs.length (x.gs.flatMap grL) 110 2:: .row (.slice As z.length cs) z.length (z.map Rw.val) 64 1:: .blk g2 #[vI 0,vQ 0,vN,vN,vN,vN,vN] 38:: .blk g1 x.cells 38::rwF 63 z)∧(x.gs.length≤c26)∧(x.cl.length≤c29)) ?_ fun M8_3=>?_
 ·
  clear Z I HS;rintro a wM ⟨A26,c26,A29,c29,Z,I,hc26,hc29⟩
  have HS:=I.pt (fs':=(.row (.slice As z.length cs) z.length (z.map Rw.val) 64 1:: .blk g2 #[vI 0,vQ 0,vN,vN,vN,vN,vN] 38::rwF 63 z)) 5 [2,3]
  refine s_on Z 7 rfl ?_
  refine Yl.wp (S:=fun wS=>Mem w wS _) (v:= .slice x.uA x.cu.length x.uc) (Yl.qe rfl rfl kr (fun _ h=>h.cell (i:=4) rfl (rfl))) Z I rfl de fun a Z=>?_
  refine keepS HS (fun HS=>?_)
  exact M8_1 _ _ ⟨A26,c26,A29,c29,Z.sub kr,I.pt 5 [0,1,2,3,4],hc26,hc29⟩
 refine qw (f:=13) (l:=(bf 24 [0,1,2,3,4,6,7,9,10,11,13])) (fun aS wS=>∃(A26:Option Addr) (c26:Nat),Fr aS 44 [] [(35,.slice x.tA x.ts.length x.tc),(31,.slice x.uA x.cu.length x.uc),(28,.slice x.lA x.cl.length x.lc),(26,.agg #[vI x.cpus,vQ x.credit,.slice A26 x.gs.length c26]),(37,.slice As z.length cs),(33,vN),(11,.bool false),(5,vI i),(4,.slice As z.length cs),(2,vP g2 0),(1,vP g1 0)]∧Mem w wS (.row (.slice A26 x.gs.length c26) x.gs.length (x.gs.flatMap grL) 110 2:: .row (.slice As z.length cs) z.length (z.map Rw.val) 64 1:: .blk g2 #[vI 0,vQ 0,vN,vN,vN,vN,vN] 38:: .blk g1 x.cells 38::rwF 63 z)∧(x.gs.length≤c26)) ?_ fun M8_4=>?_
 ·
  clear Z I HS;rintro a wM ⟨A26,c26,Z,I,hc26⟩
  have HS:=I.pt (fs':=(.row (.slice As z.length cs) z.length (z.map Rw.val) 64 1:: .blk g2 #[vI 0,vQ 0,vN,vN,vN,vN,vN] 38::rwF 63 z)) 4 [1,2]
  refine Vb Z I HS ((Vf 14 0∘VK 5 (.f (.t (.t (.f .n)))) (h:=by exact fun I=>za x.lA x.lc x.cl _ (I.old hx.l) hf.l)) fun A29 c29 w29 hc29=>(VK 8 (.f (.f (.t (.t (.f .n))))) (h:=by exact fun I=>za x.uA x.uc x.cu _ (I.old hx.u) hf.u)) fun A32 c32 w32 hc32=>fun a Z I HS=>?_)
  refine s_on Z 12 rfl ?_
  replace I:=I.nil 61 8
  refine qad Z I (i:=0) rfl ei_tk rfl rfl rfl (news:=(x.ts.flatMap tkL)) (I.old hx.t) (qfu _) om om rfl de ?_
  clear Z I;intro a w36 A36 c36 Z I hc36
  refine keepS (I.pt 7 [4,5]) (fun HS=>?_)
  exact M8_0 _ _ ⟨A26,c26,A29,c29,A32,c32,A36,c36,Z.sub kr,I.pt 7 [0,1,2,3,4,5,6],hc26,hc29,hc32,hc36⟩
 refine qw (f:=14) (l:=(bf 24 [0,1,2,3,4,6,7,9,10,13])) (fun aS wS=>∃(A26:Option Addr) (c26:Nat),Fr aS 44 [] [(31,.slice x.uA x.cu.length x.uc),(28,.slice x.lA x.cl.length x.lc),(26,.agg #[vI x.cpus,vQ x.credit,.slice A26 x.gs.length c26]),(37,.slice As z.length cs),(34,vP g1 5),(33,vN),(11,.bool false),(5,vI i),(4,.slice As z.length cs),(2,vP g2 0),(1,vP g1 0)]∧Mem w wS (.row (.slice A26 x.gs.length c26) x.gs.length (x.gs.flatMap grL) 110 2:: .row (.slice As z.length cs) z.length (z.map Rw.val) 64 1:: .blk g2 #[vI 0,vQ 0,vN,vN,vN,vN,vN] 38:: .blk g1 x.cells 38::rwF 63 z)∧(x.gs.length≤c26)) ?_ fun M8_5=>?_
 ·
  clear Z I HS;rintro a wM ⟨A26,c26,Z,I,hc26⟩
  have HS:=I.pt (fs':=(.row (.slice As z.length cs) z.length (z.map Rw.val) 64 1:: .blk g2 #[vI 0,vQ 0,vN,vN,vN,vN,vN] 38::rwF 63 z)) 4 [1,2]
  refine qo [5,11] kr rfl ?_
  refine all_cons ?_ ?_
  ·refine qc Z (i:=5) rfl rfl ?_
   refine s_ek Z I [.slice x.lA x.cl.length x.lc] (za x.lA x.lc x.cl _ (I.old hx.l) hf.l) fun A29 c29 w29 hc29 I a Z=>?_
   refine keepS (I.pt 5 [2,3]) (fun HS=>?_)
   exact M8_2 _ _ ⟨A26,c26,A29,c29,Z.sub kr,I.pt 5 [0,1,2,3,4],hc26,hc29⟩
  refine all_cons ?_ all_nil
  refine qc Z (i:=11) rfl rfl ?_
  refine Yl.wp (S:=fun wS=>Mem w wS _) (v:= .slice x.tA x.ts.length x.tc) (Yl.qe rfl rfl kr (fun _ h=>h.cell (i:=3) rfl (rfl))) Z I rfl de fun a Z=>?_
  refine keepS HS (fun HS=>?_)
  exact M8_4 _ _ ⟨A26,c26,Z.sub kr,I.pt 4 [0,1,2,3],hc26⟩
 refine qw (f:=14) (l:=(bf 24 [0,1,2,3,4,6,9,10,11,13])) (fun aS wS=>∃(A26:Option Addr) (c26:Nat),Fr aS 44 [] [(35,.slice x.tA x.ts.length x.tc),(28,.slice x.lA x.cl.length x.lc),(26,.agg #[vI x.cpus,vQ x.credit,.slice A26 x.gs.length c26]),(37,.slice As z.length cs),(33,vN),(30,vP g1 4),(11,.bool false),(5,vI i),(4,.slice As z.length cs),(2,vP g2 0),(1,vP g1 0)]∧Mem w wS (.row (.slice A26 x.gs.length c26) x.gs.length (x.gs.flatMap grL) 110 2:: .row (.slice As z.length cs) z.length (z.map Rw.val) 64 1:: .blk g2 #[vI 0,vQ 0,vN,vN,vN,vN,vN] 38:: .blk g1 x.cells 38::rwF 63 z)∧(x.gs.length≤c26)) ?_ fun M8_6=>?_
 ·
  clear Z I HS;rintro a wM ⟨A26,c26,Z,I,hc26⟩
  have HS:=I.pt (fs':=(.row (.slice As z.length cs) z.length (z.map Rw.val) 64 1:: .blk g2 #[vI 0,vQ 0,vN,vN,vN,vN,vN] 38::rwF 63 z)) 4 [1,2]
  refine qo [5,7] kr rfl ?_
  refine all_cons ?_ ?_
  ·refine qc Z (i:=5) rfl rfl ?_
   refine s_ek Z I [.slice x.lA x.cl.length x.lc] (za x.lA x.lc x.cl _ (I.old hx.l) hf.l) fun A29 c29 w29 hc29 I a Z=>?_
   refine keepS (I.pt 5 [2,3]) (fun HS=>?_)
   exact M8_3 _ _ ⟨A26,c26,A29,c29,Z.sub kr,I.pt 5 [0,1,2,3,4],hc26,hc29⟩
  refine all_cons ?_ all_nil
  refine qc Z (i:=7) rfl rfl ?_
  refine Yl.wp (S:=fun wS=>Mem w wS _) (v:= .slice x.uA x.cu.length x.uc) (Yl.qe rfl rfl kr (fun _ h=>h.cell (i:=3) rfl (rfl))) Z I rfl de fun a Z=>?_
  refine keepS HS (fun HS=>?_)
  exact M8_4 _ _ ⟨A26,c26,Z.sub kr,I.pt 4 [0,1,2,3],hc26⟩
 refine qw (f:=14) (l:=(bf 24 [0,1,2,3,6,7,9,10,11,13])) (fun aS wS=>∃(A26:Option Addr) (c26:Nat),Fr aS 44 [] [(35,.slice x.tA x.ts.length x.tc),(31,.slice x.uA x.cu.length x.uc),(26,.agg #[vI x.cpus,vQ x.credit,.slice A26 x.gs.length c26]),(37,.slice As z.length cs),(33,vN),(27,vP g1 3),(11,.bool false),(5,vI i),(4,.slice As z.length cs),(2,vP g2 0),(1,vP g1 0)]∧Mem w wS (.row (.slice A26 x.gs.length c26) x.gs.length (x.gs.flatMap grL) 110 2:: .row (.slice As z.length cs) z.length (z.map Rw.val) 64 1:: .blk g2 #[vI 0,vQ 0,vN,vN,vN,vN,vN] 38:: .blk g1 x.cells 38::rwF 63 z)∧(x.gs.length≤c26)) ?_ fun M8_7=>?_
 ·
  clear Z I HS;rintro a wM ⟨A26,c26,Z,I,hc26⟩
  have HS:=I.pt (fs':=(.row (.slice As z.length cs) z.length (z.map Rw.val) 64 1:: .blk g2 #[vI 0,vQ 0,vN,vN,vN,vN,vN] 38::rwF 63 z)) 4 [1,2]
  refine s_on Z 4 rfl ?_
  refine Yl.wp (S:=fun wS=>Mem w wS _) (v:= .slice x.lA x.cl.length x.lc) (Yl.qe rfl rfl kr (fun _ h=>h.cell (i:=3) rfl (rfl))) Z I rfl de fun a Z=>?_
  refine keepS HS (fun HS=>?_)
  exact M8_4 _ _ ⟨A26,c26,Z.sub kr,I.pt 4 [0,1,2,3],hc26⟩
 refine qw (f:=14) (l:=(bf 24 [0,1,3,4,6,7,9,10,11,13])) (fun aS wS=>Fr aS 44 [] [(35,.slice x.tA x.ts.length x.tc),(31,.slice x.uA x.cu.length x.uc),(28,.slice x.lA x.cl.length x.lc),(25,.agg #[vI x.cpus,vQ x.credit,.slice x.gA x.gs.length x.gc]),(37,.slice As z.length cs),(33,vN),(11,.bool false),(5,vI i),(4,.slice As z.length cs),(2,vP g2 0),(1,vP g1 0)]∧Mem w wS (.row (.slice As z.length cs) z.length (z.map Rw.val) 64 1:: .blk g2 #[vI 0,vQ 0,vN,vN,vN,vN,vN] 38:: .blk g1 x.cells 38::rwF 63 z)) ?_ fun M8_8=>?_
 ·
  clear Z I HS;rintro a wM ⟨Z,I⟩
  have HS:=I.pt (fs':=(.row (.slice As z.length cs) z.length (z.map Rw.val) 64 1:: .blk g2 #[vI 0,vQ 0,vN,vN,vN,vN,vN] 38::rwF 63 z)) 3 [0,1]
  refine Vb Z I HS ((VK 2 (.t (.t (.f .n))) (h:=by exact fun I=>qaj x _ (hx.old I) hf.g)) fun A26 c26 w26 hc26=>(Vf 14 0∘VK 5 (.f (.t (.t (.f .n)))) (h:=by exact fun I=>za x.lA x.lc x.cl _ (I.old hx.l) hf.l)) fun A29 c29 w29 hc29=>(VK 8 (.f (.f (.t (.t (.f .n))))) (h:=by exact fun I=>za x.uA x.uc x.cu _ (I.old hx.u) hf.u)) fun A32 c32 w32 hc32=>fun a Z I HS=>?_)
  refine s_on Z 12 rfl ?_
  replace I:=I.nil 61 8
  refine qad Z I (i:=0) rfl ei_tk rfl rfl rfl (news:=(x.ts.flatMap tkL)) (I.old hx.t) (qfu _) om om rfl de ?_
  clear Z I;intro a w36 A36 c36 Z I hc36
  refine keepS (I.pt 7 [4,5]) (fun HS=>?_)
  exact M8_0 _ _ ⟨A26,c26,A29,c29,A32,c32,A36,c36,Z.sub kr,I.pt 7 [0,1,2,3,4,5,6],hc26,hc29,hc32,hc36⟩
 refine qw (f:=15) (l:=(bf 24 [0,1,2,3,4,6,9,10,13])) (fun aS wS=>∃(A26:Option Addr) (c26:Nat),Fr aS 44 [] [(28,.slice x.lA x.cl.length x.lc),(26,.agg #[vI x.cpus,vQ x.credit,.slice A26 x.gs.length c26]),(37,.slice As z.length cs),(34,vP g1 5),(33,vN),(30,vP g1 4),(11,.bool false),(5,vI i),(4,.slice As z.length cs),(2,vP g2 0),(1,vP g1 0)]∧Mem w wS (.row (.slice A26 x.gs.length c26) x.gs.length (x.gs.flatMap grL) 110 2:: .row (.slice As z.length cs) z.length (z.map Rw.val) 64 1:: .blk g2 #[vI 0,vQ 0,vN,vN,vN,vN,vN] 38:: .blk g1 x.cells 38::rwF 63 z)∧(x.gs.length≤c26)) ?_ fun M8_9=>?_
 ·
  clear Z I HS;rintro a wM ⟨A26,c26,Z,I,hc26⟩
  have HS:=I.pt (fs':=(.row (.slice As z.length cs) z.length (z.map Rw.val) 64 1:: .blk g2 #[vI 0,vQ 0,vN,vN,vN,vN,vN] 38::rwF 63 z)) 4 [1,2]
  refine qo [5,7,11] kr rfl ?_
  refine all_cons ?_ ?_
  ·refine qc Z (i:=5) rfl rfl ?_
   refine s_ek Z I [.slice x.lA x.cl.length x.lc] (za x.lA x.lc x.cl _ (I.old hx.l) hf.l) fun A29 c29 w29 hc29 I a Z=>?_
   refine keepS (I.pt 5 [2,3]) (fun HS=>?_)
   refine qo [7,11] kr rfl ?_
   refine all_cons ?_ ?_
   ·refine qc Z (i:=7) rfl rfl ?_
    refine Yl.wp (S:=fun wS=>Mem w wS _) (v:= .slice x.uA x.cu.length x.uc) (Yl.qe rfl rfl kr (fun _ h=>h.cell (i:=4) rfl (rfl))) Z I rfl de fun a Z=>?_
    refine keepS HS (fun HS=>?_)
    exact M8_2 _ _ ⟨A26,c26,A29,c29,Z.sub kr,I.pt 5 [0,1,2,3,4],hc26,hc29⟩
   refine all_cons ?_ all_nil
   refine qc Z (i:=11) rfl rfl ?_
   refine Yl.wp (S:=fun wS=>Mem w wS _) (v:= .slice x.tA x.ts.length x.tc) (Yl.qe rfl rfl kr (fun _ h=>h.cell (i:=4) rfl (rfl))) Z I rfl de fun a Z=>?_
   refine keepS HS (fun HS=>?_)
   exact M8_3 _ _ ⟨A26,c26,A29,c29,Z.sub kr,I.pt 5 [0,1,2,3,4],hc26,hc29⟩
  refine all_cons ?_ ?_
  ·refine qc Z (i:=7) rfl rfl ?_
   refine Yl.wp (S:=fun wS=>Mem w wS _) (v:= .slice x.uA x.cu.length x.uc) (Yl.qe rfl rfl kr (fun _ h=>h.cell (i:=3) rfl (rfl))) Z I rfl de fun a Z=>?_
   refine keepS HS (fun HS=>?_)
   exact M8_5 _ _ ⟨A26,c26,Z.sub kr,I.pt 4 [0,1,2,3],hc26⟩
  refine all_cons ?_ all_nil
  refine qc Z (i:=11) rfl rfl ?_
  refine Yl.wp (S:=fun wS=>Mem w wS _) (v:= .slice x.tA x.ts.length x.tc) (Yl.qe rfl rfl kr (fun _ h=>h.cell (i:=3) rfl (rfl))) Z I rfl de fun a Z=>?_
  refine keepS HS (fun HS=>?_)
  exact M8_6 _ _ ⟨A26,c26,Z.sub kr,I.pt 4 [0,1,2,3],hc26⟩
 refine qw (f:=15) (l:=(bf 24 [0,1,2,3,6,7,9,10,13])) (fun aS wS=>∃(A26:Option Addr) (c26:Nat),Fr aS 44 [] [(31,.slice x.uA x.cu.length x.uc),(26,.agg #[vI x.cpus,vQ x.credit,.slice A26 x.gs.length c26]),(37,.slice As z.length cs),(34,vP g1 5),(33,vN),(27,vP g1 3),(11,.bool false),(5,vI i),(4,.slice As z.length cs),(2,vP g2 0),(1,vP g1 0)]∧Mem w wS (.row (.slice A26 x.gs.length c26) x.gs.length (x.gs.flatMap grL) 110 2:: .row (.slice As z.length cs) z.length (z.map Rw.val) 64 1:: .blk g2 #[vI 0,vQ 0,vN,vN,vN,vN,vN] 38:: .blk g1 x.cells 38::rwF 63 z)∧(x.gs.length≤c26)) ?_ fun M8_10=>?_
 ·
  clear Z I HS;rintro a wM ⟨A26,c26,Z,I,hc26⟩
  have HS:=I.pt (fs':=(.row (.slice As z.length cs) z.length (z.map Rw.val) 64 1:: .blk g2 #[vI 0,vQ 0,vN,vN,vN,vN,vN] 38::rwF 63 z)) 4 [1,2]
  refine qo [4,11] kr rfl ?_
  refine all_cons ?_ ?_
  ·refine qc Z (i:=4) rfl rfl ?_
   refine Yl.wp (S:=fun wS=>Mem w wS _) (v:= .slice x.lA x.cl.length x.lc) (Yl.qe rfl rfl kr (fun _ h=>h.cell (i:=3) rfl (rfl))) Z I rfl de fun a Z=>?_
   refine keepS HS (fun HS=>?_)
   exact M8_5 _ _ ⟨A26,c26,Z.sub kr,I.pt 4 [0,1,2,3],hc26⟩
  refine all_cons ?_ all_nil
  refine qc Z (i:=11) rfl rfl ?_
  refine Yl.wp (S:=fun wS=>Mem w wS _) (v:= .slice x.tA x.ts.length x.tc) (Yl.qe rfl rfl kr (fun _ h=>h.cell (i:=3) rfl (rfl))) Z I rfl de fun a Z=>?_
  refine keepS HS (fun HS=>?_)
  exact M8_7 _ _ ⟨A26,c26,Z.sub kr,I.pt 4 [0,1,2,3],hc26⟩
 refine qw (f:=15) (l:=(bf 24 [0,1,2,3,6,9,10,11,13])) (fun aS wS=>∃(A26:Option Addr) (c26:Nat),Fr aS 44 [] [(35,.slice x.tA x.ts.length x.tc),(26,.agg #[vI x.cpus,vQ x.credit,.slice A26 x.gs.length c26]),(37,.slice As z.length cs),(33,vN),(30,vP g1 4),(27,vP g1 3),(11,.bool false),(5,vI i),(4,.slice As z.length cs),(2,vP g2 0),(1,vP g1 0)]∧Mem w wS (.row (.slice A26 x.gs.length c26) x.gs.length (x.gs.flatMap grL) 110 2:: .row (.slice As z.length cs) z.length (z.map Rw.val) 64 1:: .blk g2 #[vI 0,vQ 0,vN,vN,vN,vN,vN] 38:: .blk g1 x.cells 38::rwF 63 z)∧(x.gs.length≤c26)) ?_ fun M8_11=>?_
 ·
  clear Z I HS;rintro a wM ⟨A26,c26,Z,I,hc26⟩
  have HS:=I.pt (fs':=(.row (.slice As z.length cs) z.length (z.map Rw.val) 64 1:: .blk g2 #[vI 0,vQ 0,vN,vN,vN,vN,vN] 38::rwF 63 z)) 4 [1,2]
  refine qo [4,7] kr rfl ?_
  refine all_cons ?_ ?_
  ·refine qc Z (i:=4) rfl rfl ?_
   refine Yl.wp (S:=fun wS=>Mem w wS _) (v:= .slice x.lA x.cl.length x.lc) (Yl.qe rfl rfl kr (fun _ h=>h.cell (i:=3) rfl (rfl))) Z I rfl de fun a Z=>?_
   refine keepS HS (fun HS=>?_)
   exact M8_6 _ _ ⟨A26,c26,Z.sub kr,I.pt 4 [0,1,2,3],hc26⟩
  refine all_cons ?_ all_nil
  refine qc Z (i:=7) rfl rfl ?_
  refine Yl.wp (S:=fun wS=>Mem w wS _) (v:= .slice x.uA x.cu.length x.uc) (Yl.qe rfl rfl kr (fun _ h=>h.cell (i:=3) rfl (rfl))) Z I rfl de fun a Z=>?_
  refine keepS HS (fun HS=>?_)
  exact M8_7 _ _ ⟨A26,c26,Z.sub kr,I.pt 4 [0,1,2,3],hc26⟩
 refine qw (f:=15) (l:=(bf 24 [0,1,3,4,6,7,9,10,13])) (fun aS wS=>Fr aS 44 [] [(31,.slice x.uA x.cu.length x.uc),(28,.slice x.lA x.cl.length x.lc),(25,.agg #[vI x.cpus,vQ x.credit,.slice x.gA x.gs.length x.gc]),(37,.slice As z.length cs),(34,vP g1 5),(33,vN),(11,.bool false),(5,vI i),(4,.slice As z.length cs),(2,vP g2 0),(1,vP g1 0)]∧Mem w wS (.row (.slice As z.length cs) z.length (z.map Rw.val) 64 1:: .blk g2 #[vI 0,vQ 0,vN,vN,vN,vN,vN] 38:: .blk g1 x.cells 38::rwF 63 z)) ?_ fun M8_12=>?_
 ·
  clear Z I HS;rintro a wM ⟨Z,I⟩
  have HS:=I.pt (fs':=(.row (.slice As z.length cs) z.length (z.map Rw.val) 64 1:: .blk g2 #[vI 0,vQ 0,vN,vN,vN,vN,vN] 38::rwF 63 z)) 3 [0,1]
  refine qo [2,11] kr rfl ?_
  refine all_cons ?_ ?_
  ·refine qc Z (i:=2) rfl rfl ?_
   refine s_ek Z I [.agg #[vI x.cpus,vQ x.credit,.slice x.gA x.gs.length x.gc]] (qaj x _ (hx.old I) hf.g) fun A26 c26 w26 hc26 I a Z=>?_
   refine keepS (I.pt 4 [1,2]) (fun HS=>?_)
   exact M8_5 _ _ ⟨A26,c26,Z.sub kr,I.pt 4 [0,1,2,3],hc26⟩
  refine all_cons ?_ all_nil
  refine qc Z (i:=11) rfl rfl ?_
  refine Yl.wp (S:=fun wS=>Mem w wS _) (v:= .slice x.tA x.ts.length x.tc) (Yl.qe rfl rfl kr (fun _ h=>h.cell (i:=2) rfl (rfl))) Z I rfl de fun a Z=>?_
  refine keepS HS (fun HS=>?_)
  exact M8_8 _ _ ⟨Z.sub kr,I.pt 3 [0,1,2]⟩
 refine qw (f:=15) (l:=(bf 24 [0,1,3,4,6,9,10,11,13])) (fun aS wS=>Fr aS 44 [] [(35,.slice x.tA x.ts.length x.tc),(28,.slice x.lA x.cl.length x.lc),(25,.agg #[vI x.cpus,vQ x.credit,.slice x.gA x.gs.length x.gc]),(37,.slice As z.length cs),(33,vN),(30,vP g1 4),(11,.bool false),(5,vI i),(4,.slice As z.length cs),(2,vP g2 0),(1,vP g1 0)]∧Mem w wS (.row (.slice As z.length cs) z.length (z.map Rw.val) 64 1:: .blk g2 #[vI 0,vQ 0,vN,vN,vN,vN,vN] 38:: .blk g1 x.cells 38::rwF 63 z)) ?_ fun M8_13=>?_
 ·
  clear Z I HS;rintro a wM ⟨Z,I⟩
  have HS:=I.pt (fs':=(.row (.slice As z.length cs) z.length (z.map Rw.val) 64 1:: .blk g2 #[vI 0,vQ 0,vN,vN,vN,vN,vN] 38::rwF 63 z)) 3 [0,1]
  refine qo [2,7] kr rfl ?_
  refine all_cons ?_ ?_
  ·refine qc Z (i:=2) rfl rfl ?_
   refine s_ek Z I [.agg #[vI x.cpus,vQ x.credit,.slice x.gA x.gs.length x.gc]] (qaj x _ (hx.old I) hf.g) fun A26 c26 w26 hc26 I a Z=>?_
   refine keepS (I.pt 4 [1,2]) (fun HS=>?_)
   exact M8_6 _ _ ⟨A26,c26,Z.sub kr,I.pt 4 [0,1,2,3],hc26⟩
  refine all_cons ?_ all_nil
  refine qc Z (i:=7) rfl rfl ?_
  refine Yl.wp (S:=fun wS=>Mem w wS _) (v:= .slice x.uA x.cu.length x.uc) (Yl.qe rfl rfl kr (fun _ h=>h.cell (i:=2) rfl (rfl))) Z I rfl de fun a Z=>?_
  refine keepS HS (fun HS=>?_)
  exact M8_8 _ _ ⟨Z.sub kr,I.pt 3 [0,1,2]⟩
 refine qw (f:=15) (l:=(bf 24 [0,1,3,6,7,9,10,11,13])) (fun aS wS=>Fr aS 44 [] [(35,.slice x.tA x.ts.length x.tc),(31,.slice x.uA x.cu.length x.uc),(25,.agg #[vI x.cpus,vQ x.credit,.slice x.gA x.gs.length x.gc]),(37,.slice As z.length cs),(33,vN),(27,vP g1 3),(11,.bool false),(5,vI i),(4,.slice As z.length cs),(2,vP g2 0),(1,vP g1 0)]∧Mem w wS (.row (.slice As z.length cs) z.length (z.map Rw.val) 64 1:: .blk g2 #[vI 0,vQ 0,vN,vN,vN,vN,vN] 38:: .blk g1 x.cells 38::rwF 63 z)) ?_ fun M8_14=>?_
 ·
  clear Z I HS;rintro a wM ⟨Z,I⟩
  have HS:=I.pt (fs':=(.row (.slice As z.length cs) z.length (z.map Rw.val) 64 1:: .blk g2 #[vI 0,vQ 0,vN,vN,vN,vN,vN] 38::rwF 63 z)) 3 [0,1]
  refine qo [2,4] kr rfl ?_
  refine all_cons ?_ ?_
  ·refine qc Z (i:=2) rfl rfl ?_
   refine s_ek Z I [.agg #[vI x.cpus,vQ x.credit,.slice x.gA x.gs.length x.gc]] (qaj x _ (hx.old I) hf.g) fun A26 c26 w26 hc26 I a Z=>?_
   refine keepS (I.pt 4 [1,2]) (fun HS=>?_)
   exact M8_7 _ _ ⟨A26,c26,Z.sub kr,I.pt 4 [0,1,2,3],hc26⟩
  refine all_cons ?_ all_nil
  refine qc Z (i:=4) rfl rfl ?_
  refine Yl.wp (S:=fun wS=>Mem w wS _) (v:= .slice x.lA x.cl.length x.lc) (Yl.qe rfl rfl kr (fun _ h=>h.cell (i:=2) rfl (rfl))) Z I rfl de fun a Z=>?_
  refine keepS HS (fun HS=>?_)
  exact M8_8 _ _ ⟨Z.sub kr,I.pt 3 [0,1,2]⟩
 refine qw (f:=15) (l:=(bf 24 [0,3,4,6,7,9,10,11,13])) (fun aS wS=>Fr aS 44 [] [(35,.slice x.tA x.ts.length x.tc),(31,.slice x.uA x.cu.length x.uc),(28,.slice x.lA x.cl.length x.lc),(37,.slice As z.length cs),(33,vN),(24,vP g1 0),(11,.bool false),(5,vI i),(4,.slice As z.length cs),(2,vP g2 0),(1,vP g1 0)]∧Mem w wS (.row (.slice As z.length cs) z.length (z.map Rw.val) 64 1:: .blk g2 #[vI 0,vQ 0,vN,vN,vN,vN,vN] 38:: .blk g1 x.cells 38::rwF 63 z)) ?_ fun M8_15=>?_
 ·
  clear Z I HS;rintro a wM ⟨Z,I⟩
  have HS:=I.pt (fs':=(.row (.slice As z.length cs) z.length (z.map Rw.val) 64 1:: .blk g2 #[vI 0,vQ 0,vN,vN,vN,vN,vN] 38::rwF 63 z)) 3 [0,1]
  refine s_on Z 1 rfl ?_
  refine Yl.wp (S:=fun wS=>Mem w wS _) (v:= .agg #[vI x.cpus,vQ x.credit,.slice x.gA x.gs.length x.gc]) (Yl.loadS rfl rfl qab rfl (fun _ h=>h.sub (i:=2) rfl 0 rfl)) Z I rfl de fun a Z=>?_
  refine keepS HS (fun HS=>?_)
  exact M8_8 _ _ ⟨Z.sub kr,I.pt 3 [0,1,2]⟩
 refine qw (f:=16) (l:=(bf 24 [0,1,3,4,6,9,10,13])) (fun aS wS=>Fr aS 44 [] [(28,.slice x.lA x.cl.length x.lc),(25,.agg #[vI x.cpus,vQ x.credit,.slice x.gA x.gs.length x.gc]),(37,.slice As z.length cs),(34,vP g1 5),(33,vN),(30,vP g1 4),(11,.bool false),(5,vI i),(4,.slice As z.length cs),(2,vP g2 0),(1,vP g1 0)]∧Mem w wS (.row (.slice As z.length cs) z.length (z.map Rw.val) 64 1:: .blk g2 #[vI 0,vQ 0,vN,vN,vN,vN,vN] 38:: .blk g1 x.cells 38::rwF 63 z)) ?_ fun M8_16=>?_
 ·
  clear Z I HS;rintro a wM ⟨Z,I⟩
  have HS:=I.pt (fs':=(.row (.slice As z.length cs) z.length (z.map Rw.val) 64 1:: .blk g2 #[vI 0,vQ 0,vN,vN,vN,vN,vN] 38::rwF 63 z)) 3 [0,1]
  refine qo [2,7,11] kr rfl ?_
  refine all_cons ?_ ?_
  ·refine qc Z (i:=2) rfl rfl ?_
   refine s_ek Z I [.agg #[vI x.cpus,vQ x.credit,.slice x.gA x.gs.length x.gc]] (qaj x _ (hx.old I) hf.g) fun A26 c26 w26 hc26 I a Z=>?_
   refine keepS (I.pt 4 [1,2]) (fun HS=>?_)
   exact M8_9 _ _ ⟨A26,c26,Z.sub kr,I.pt 4 [0,1,2,3],hc26⟩
  refine all_cons ?_ ?_
  ·refine qc Z (i:=7) rfl rfl ?_
   refine Yl.wp (S:=fun wS=>Mem w wS _) (v:= .slice x.uA x.cu.length x.uc) (Yl.qe rfl rfl kr (fun _ h=>h.cell (i:=2) rfl (rfl))) Z I rfl de fun a Z=>?_
   refine keepS HS (fun HS=>?_)
   exact M8_12 _ _ ⟨Z.sub kr,I.pt 3 [0,1,2]⟩
  refine all_cons ?_ all_nil
  refine qc Z (i:=11) rfl rfl ?_
  refine Yl.wp (S:=fun wS=>Mem w wS _) (v:= .slice x.tA x.ts.length x.tc) (Yl.qe rfl rfl kr (fun _ h=>h.cell (i:=2) rfl (rfl))) Z I rfl de fun a Z=>?_
  refine keepS HS (fun HS=>?_)
  exact M8_13 _ _ ⟨Z.sub kr,I.pt 3 [0,1,2]⟩
 refine qw (f:=16) (l:=(bf 24 [0,1,3,6,7,9,10,13])) (fun aS wS=>Fr aS 44 [] [(31,.slice x.uA x.cu.length x.uc),(25,.agg #[vI x.cpus,vQ x.credit,.slice x.gA x.gs.length x.gc]),(37,.slice As z.length cs),(34,vP g1 5),(33,vN),(27,vP g1 3),(11,.bool false),(5,vI i),(4,.slice As z.length cs),(2,vP g2 0),(1,vP g1 0)]∧Mem w wS (.row (.slice As z.length cs) z.length (z.map Rw.val) 64 1:: .blk g2 #[vI 0,vQ 0,vN,vN,vN,vN,vN] 38:: .blk g1 x.cells 38::rwF 63 z)) ?_ fun M8_17=>?_
 ·
  clear Z I HS;rintro a wM ⟨Z,I⟩
  have HS:=I.pt (fs':=(.row (.slice As z.length cs) z.length (z.map Rw.val) 64 1:: .blk g2 #[vI 0,vQ 0,vN,vN,vN,vN,vN] 38::rwF 63 z)) 3 [0,1]
  refine qo [2,4,11] kr rfl ?_
  refine all_cons ?_ ?_
  ·refine qc Z (i:=2) rfl rfl ?_
   refine s_ek Z I [.agg #[vI x.cpus,vQ x.credit,.slice x.gA x.gs.length x.gc]] (qaj x _ (hx.old I) hf.g) fun A26 c26 w26 hc26 I a Z=>?_
   refine keepS (I.pt 4 [1,2]) (fun HS=>?_)
   exact M8_10 _ _ ⟨A26,c26,Z.sub kr,I.pt 4 [0,1,2,3],hc26⟩
  refine all_cons ?_ ?_
  ·refine qc Z (i:=4) rfl rfl ?_
   refine Yl.wp (S:=fun wS=>Mem w wS _) (v:= .slice x.lA x.cl.length x.lc) (Yl.qe rfl rfl kr (fun _ h=>h.cell (i:=2) rfl (rfl))) Z I rfl de fun a Z=>?_
   refine keepS HS (fun HS=>?_)
   exact M8_12 _ _ ⟨Z.sub kr,I.pt 3 [0,1,2]⟩
  refine all_cons ?_ all_nil
  refine qc Z (i:=11) rfl rfl ?_
  refine Yl.wp (S:=fun wS=>Mem w wS _) (v:= .slice x.tA x.ts.length x.tc) (Yl.qe rfl rfl kr (fun _ h=>h.cell (i:=2) rfl (rfl))) Z I rfl de fun a Z=>?_
  refine keepS HS (fun HS=>?_)
  exact M8_14 _ _ ⟨Z.sub kr,I.pt 3 [0,1,2]⟩
 refine qw (f:=16) (l:=(bf 24 [0,1,3,6,9,10,11,13])) (fun aS wS=>Fr aS 44 [] [(35,.slice x.tA x.ts.length x.tc),(25,.agg #[vI x.cpus,vQ x.credit,.slice x.gA x.gs.length x.gc]),(37,.slice As z.length cs),(33,vN),(30,vP g1 4),(27,vP g1 3),(11,.bool false),(5,vI i),(4,.slice As z.length cs),(2,vP g2 0),(1,vP g1 0)]∧Mem w wS (.row (.slice As z.length cs) z.length (z.map Rw.val) 64 1:: .blk g2 #[vI 0,vQ 0,vN,vN,vN,vN,vN] 38:: .blk g1 x.cells 38::rwF 63 z)) ?_ fun M8_18=>?_
 ·
  clear Z I HS;rintro a wM ⟨Z,I⟩
  have HS:=I.pt (fs':=(.row (.slice As z.length cs) z.length (z.map Rw.val) 64 1:: .blk g2 #[vI 0,vQ 0,vN,vN,vN,vN,vN] 38::rwF 63 z)) 3 [0,1]
  refine qo [2,4,7] kr rfl ?_
  refine all_cons ?_ ?_
  ·refine qc Z (i:=2) rfl rfl ?_
   refine s_ek Z I [.agg #[vI x.cpus,vQ x.credit,.slice x.gA x.gs.length x.gc]] (qaj x _ (hx.old I) hf.g) fun A26 c26 w26 hc26 I a Z=>?_
   refine keepS (I.pt 4 [1,2]) (fun HS=>?_)
   exact M8_11 _ _ ⟨A26,c26,Z.sub kr,I.pt 4 [0,1,2,3],hc26⟩
  refine all_cons ?_ ?_
  ·refine qc Z (i:=4) rfl rfl ?_
   refine Yl.wp (S:=fun wS=>Mem w wS _) (v:= .slice x.lA x.cl.length x.lc) (Yl.qe rfl rfl kr (fun _ h=>h.cell (i:=2) rfl (rfl))) Z I rfl de fun a Z=>?_
   refine keepS HS (fun HS=>?_)
   exact M8_13 _ _ ⟨Z.sub kr,I.pt 3 [0,1,2]⟩
  refine all_cons ?_ all_nil
  refine qc Z (i:=7) rfl rfl ?_
  refine Yl.wp (S:=fun wS=>Mem w wS _) (v:= .slice x.uA x.cu.length x.uc) (Yl.qe rfl rfl kr (fun _ h=>h.cell (i:=2) rfl (rfl))) Z I rfl de fun a Z=>?_
  refine keepS HS (fun HS=>?_)
  exact M8_14 _ _ ⟨Z.sub kr,I.pt 3 [0,1,2]⟩
 refine qw (f:=16) (l:=(bf 24 [0,3,4,6,7,9,10,13])) (fun aS wS=>Fr aS 44 [] [(31,.slice x.uA x.cu.length x.uc),(28,.slice x.lA x.cl.length x.lc),(37,.slice As z.length cs),(34,vP g1 5),(33,vN),(24,vP g1 0),(11,.bool false),(5,vI i),(4,.slice As z.length cs),(2,vP g2 0),(1,vP g1 0)]∧Mem w wS (.row (.slice As z.length cs) z.length (z.map Rw.val) 64 1:: .blk g2 #[vI 0,vQ 0,vN,vN,vN,vN,vN] 38:: .blk g1 x.cells 38::rwF 63 z)) ?_ fun M8_19=>?_
 ·
  clear Z I HS;rintro a wM ⟨Z,I⟩
  have HS:=I.pt (fs':=(.row (.slice As z.length cs) z.length (z.map Rw.val) 64 1:: .blk g2 #[vI 0,vQ 0,vN,vN,vN,vN,vN] 38::rwF 63 z)) 3 [0,1]
  refine qo [1,11] kr rfl ?_
  refine all_cons ?_ ?_
  ·refine qc Z (i:=1) rfl rfl ?_
   refine Yl.wp (S:=fun wS=>Mem w wS _) (v:= .agg #[vI x.cpus,vQ x.credit,.slice x.gA x.gs.length x.gc]) (Yl.loadS rfl rfl qab rfl (fun _ h=>h.sub (i:=2) rfl 0 rfl)) Z I rfl de fun a Z=>?_
   refine keepS HS (fun HS=>?_)
   exact M8_12 _ _ ⟨Z.sub kr,I.pt 3 [0,1,2]⟩
  refine all_cons ?_ all_nil
  refine qc Z (i:=11) rfl rfl ?_
  refine Yl.wp (S:=fun wS=>Mem w wS _) (v:= .slice x.tA x.ts.length x.tc) (Yl.qe rfl rfl kr (fun _ h=>h.cell (i:=2) rfl (rfl))) Z I rfl de fun a Z=>?_
  refine keepS HS (fun HS=>?_)
  exact M8_15 _ _ ⟨Z.sub kr,I.pt 3 [0,1,2]⟩
 refine qw (f:=16) (l:=(bf 24 [0,3,4,6,9,10,11,13])) (fun aS wS=>Fr aS 44 [] [(35,.slice x.tA x.ts.length x.tc),(28,.slice x.lA x.cl.length x.lc),(37,.slice As z.length cs),(33,vN),(30,vP g1 4),(24,vP g1 0),(11,.bool false),(5,vI i),(4,.slice As z.length cs),(2,vP g2 0),(1,vP g1 0)]∧Mem w wS (.row (.slice As z.length cs) z.length (z.map Rw.val) 64 1:: .blk g2 #[vI 0,vQ 0,vN,vN,vN,vN,vN] 38:: .blk g1 x.cells 38::rwF 63 z)) ?_ fun M8_20=>?_
 ·
  clear Z I HS;rintro a wM ⟨Z,I⟩
  have HS:=I.pt (fs':=(.row (.slice As z.length cs) z.length (z.map Rw.val) 64 1:: .blk g2 #[vI 0,vQ 0,vN,vN,vN,vN,vN] 38::rwF 63 z)) 3 [0,1]
  refine qo [1,7] kr rfl ?_
  refine all_cons ?_ ?_
  ·refine qc Z (i:=1) rfl rfl ?_
   refine Yl.wp (S:=fun wS=>Mem w wS _) (v:= .agg #[vI x.cpus,vQ x.credit,.slice x.gA x.gs.length x.gc]) (Yl.loadS rfl rfl qab rfl (fun _ h=>h.sub (i:=2) rfl 0 rfl)) Z I rfl de fun a Z=>?_
   refine keepS HS (fun HS=>?_)
   exact M8_13 _ _ ⟨Z.sub kr,I.pt 3 [0,1,2]⟩
  refine all_cons ?_ all_nil
  refine qc Z (i:=7) rfl rfl ?_
  refine Yl.wp (S:=fun wS=>Mem w wS _) (v:= .slice x.uA x.cu.length x.uc) (Yl.qe rfl rfl kr (fun _ h=>h.cell (i:=2) rfl (rfl))) Z I rfl de fun a Z=>?_
  refine keepS HS (fun HS=>?_)
  exact M8_15 _ _ ⟨Z.sub kr,I.pt 3 [0,1,2]⟩
 refine qw (f:=16) (l:=(bf 24 [0,3,6,7,9,10,11,13])) (fun aS wS=>Fr aS 44 [] [(35,.slice x.tA x.ts.length x.tc),(31,.slice x.uA x.cu.length x.uc),(37,.slice As z.length cs),(33,vN),(27,vP g1 3),(24,vP g1 0),(11,.bool false),(5,vI i),(4,.slice As z.length cs),(2,vP g2 0),(1,vP g1 0)]∧Mem w wS (.row (.slice As z.length cs) z.length (z.map Rw.val) 64 1:: .blk g2 #[vI 0,vQ 0,vN,vN,vN,vN,vN] 38:: .blk g1 x.cells 38::rwF 63 z)) ?_ fun M8_21=>?_
 ·
  clear Z I HS;rintro a wM ⟨Z,I⟩
  have HS:=I.pt (fs':=(.row (.slice As z.length cs) z.length (z.map Rw.val) 64 1:: .blk g2 #[vI 0,vQ 0,vN,vN,vN,vN,vN] 38::rwF 63 z)) 3 [0,1]
  refine qo [1,4] kr rfl ?_
  refine all_cons ?_ ?_
  ·refine qc Z (i:=1) rfl rfl ?_
   refine Yl.wp (S:=fun wS=>Mem w wS _) (v:= .agg #[vI x.cpus,vQ x.credit,.slice x.gA x.gs.length x.gc]) (Yl.loadS rfl rfl qab rfl (fun _ h=>h.sub (i:=2) rfl 0 rfl)) Z I rfl de fun a Z=>?_
   refine keepS HS (fun HS=>?_)
   exact M8_14 _ _ ⟨Z.sub kr,I.pt 3 [0,1,2]⟩
  refine all_cons ?_ all_nil
  refine qc Z (i:=4) rfl rfl ?_
  refine Yl.wp (S:=fun wS=>Mem w wS _) (v:= .slice x.lA x.cl.length x.lc) (Yl.qe rfl rfl kr (fun _ h=>h.cell (i:=2) rfl (rfl))) Z I rfl de fun a Z=>?_
  refine keepS HS (fun HS=>?_)
  exact M8_15 _ _ ⟨Z.sub kr,I.pt 3 [0,1,2]⟩
 refine Vb Z I HS ((Vf 0 0∘Vf 3 3∘Vf 6 4∘Vp [9]∘Vf 10 5∘Vp [13]) fun a Z I HS=>?_)
 refine qo [1,4,7,11] kr rfl ?_
 refine all_cons ?_ ?_
 ·refine qc Z (i:=1) rfl rfl ?_
  refine Yl.wp (S:=fun wS=>Mem w wS _) (v:= .agg #[vI x.cpus,vQ x.credit,.slice x.gA x.gs.length x.gc]) (Yl.loadS rfl rfl qab rfl (fun _ h=>h.sub (i:=2) rfl 0 rfl)) Z I rfl de fun a Z=>?_
  refine keepS HS (fun HS=>?_)
  refine qo [2,4,7,11] kr rfl ?_
  refine all_cons ?_ ?_
  ·refine qc Z (i:=2) rfl rfl ?_
   refine s_ek Z I [.agg #[vI x.cpus,vQ x.credit,.slice x.gA x.gs.length x.gc]] (qaj x _ (hx.old I) hf.g) fun A26 c26 w26 hc26 I a Z=>?_
   refine keepS (I.pt 4 [1,2]) (fun HS=>?_)
   refine qo [4,7,11] kr rfl ?_
   refine all_cons ?_ ?_
   ·refine qc Z (i:=4) rfl rfl ?_
    refine Yl.wp (S:=fun wS=>Mem w wS _) (v:= .slice x.lA x.cl.length x.lc) (Yl.qe rfl rfl kr (fun _ h=>h.cell (i:=3) rfl (rfl))) Z I rfl de fun a Z=>?_
    refine keepS HS (fun HS=>?_)
    exact M8_9 _ _ ⟨A26,c26,Z.sub kr,I.pt 4 [0,1,2,3],hc26⟩
   refine all_cons ?_ ?_
   ·refine qc Z (i:=7) rfl rfl ?_
    refine Yl.wp (S:=fun wS=>Mem w wS _) (v:= .slice x.uA x.cu.length x.uc) (Yl.qe rfl rfl kr (fun _ h=>h.cell (i:=3) rfl (rfl))) Z I rfl de fun a Z=>?_
    refine keepS HS (fun HS=>?_)
    exact M8_10 _ _ ⟨A26,c26,Z.sub kr,I.pt 4 [0,1,2,3],hc26⟩
   refine all_cons ?_ all_nil
   refine qc Z (i:=11) rfl rfl ?_
   refine Yl.wp (S:=fun wS=>Mem w wS _) (v:= .slice x.tA x.ts.length x.tc) (Yl.qe rfl rfl kr (fun _ h=>h.cell (i:=3) rfl (rfl))) Z I rfl de fun a Z=>?_
   refine keepS HS (fun HS=>?_)
   exact M8_11 _ _ ⟨A26,c26,Z.sub kr,I.pt 4 [0,1,2,3],hc26⟩
  refine all_cons ?_ ?_
  ·refine qc Z (i:=4) rfl rfl ?_
   refine Yl.wp (S:=fun wS=>Mem w wS _) (v:= .slice x.lA x.cl.length x.lc) (Yl.qe rfl rfl kr (fun _ h=>h.cell (i:=2) rfl (rfl))) Z I rfl de fun a Z=>?_
   refine keepS HS (fun HS=>?_)
   exact M8_16 _ _ ⟨Z.sub kr,I.pt 3 [0,1,2]⟩
  refine all_cons ?_ ?_
  ·refine qc Z (i:=7) rfl rfl ?_
   refine Yl.wp (S:=fun wS=>Mem w wS _) (v:= .slice x.uA x.cu.length x.uc) (Yl.qe rfl rfl kr (fun _ h=>h.cell (i:=2) rfl (rfl))) Z I rfl de fun a Z=>?_
   refine keepS HS (fun HS=>?_)
   exact M8_17 _ _ ⟨Z.sub kr,I.pt 3 [0,1,2]⟩
  refine all_cons ?_ all_nil
  refine qc Z (i:=11) rfl rfl ?_
  refine Yl.wp (S:=fun wS=>Mem w wS _) (v:= .slice x.tA x.ts.length x.tc) (Yl.qe rfl rfl kr (fun _ h=>h.cell (i:=2) rfl (rfl))) Z I rfl de fun a Z=>?_
  refine keepS HS (fun HS=>?_)
  exact M8_18 _ _ ⟨Z.sub kr,I.pt 3 [0,1,2]⟩
 refine all_cons ?_ ?_
 ·refine qc Z (i:=4) rfl rfl ?_
  refine Yl.wp (S:=fun wS=>Mem w wS _) (v:= .slice x.lA x.cl.length x.lc) (Yl.qe rfl rfl kr (fun _ h=>h.cell (i:=2) rfl (rfl))) Z I rfl de fun a Z=>?_
  refine keepS HS (fun HS=>?_)
  refine qo [1,7,11] kr rfl ?_
  refine all_cons ?_ ?_
  ·refine qc Z (i:=1) rfl rfl ?_
   refine Yl.wp (S:=fun wS=>Mem w wS _) (v:= .agg #[vI x.cpus,vQ x.credit,.slice x.gA x.gs.length x.gc]) (Yl.loadS rfl rfl qab rfl (fun _ h=>h.sub (i:=2) rfl 0 rfl)) Z I rfl de fun a Z=>?_
   refine keepS HS (fun HS=>?_)
   exact M8_16 _ _ ⟨Z.sub kr,I.pt 3 [0,1,2]⟩
  refine all_cons ?_ ?_
  ·refine qc Z (i:=7) rfl rfl ?_
   refine Yl.wp (S:=fun wS=>Mem w wS _) (v:= .slice x.uA x.cu.length x.uc) (Yl.qe rfl rfl kr (fun _ h=>h.cell (i:=2) rfl (rfl))) Z I rfl de fun a Z=>?_
   refine keepS HS (fun HS=>?_)
   exact M8_19 _ _ ⟨Z.sub kr,I.pt 3 [0,1,2]⟩
  refine all_cons ?_ all_nil
  refine qc Z (i:=11) rfl rfl ?_
  refine Yl.wp (S:=fun wS=>Mem w wS _) (v:= .slice x.tA x.ts.length x.tc) (Yl.qe rfl rfl kr (fun _ h=>h.cell (i:=2) rfl (rfl))) Z I rfl de fun a Z=>?_
  refine keepS HS (fun HS=>?_)
  exact M8_20 _ _ ⟨Z.sub kr,I.pt 3 [0,1,2]⟩
 refine all_cons ?_ ?_
 ·refine qc Z (i:=7) rfl rfl ?_
  refine Yl.wp (S:=fun wS=>Mem w wS _) (v:= .slice x.uA x.cu.length x.uc) (Yl.qe rfl rfl kr (fun _ h=>h.cell (i:=2) rfl (rfl))) Z I rfl de fun a Z=>?_
  refine keepS HS (fun HS=>?_)
  refine qo [1,4,11] kr rfl ?_
  refine all_cons ?_ ?_
  ·refine qc Z (i:=1) rfl rfl ?_
   refine Yl.wp (S:=fun wS=>Mem w wS _) (v:= .agg #[vI x.cpus,vQ x.credit,.slice x.gA x.gs.length x.gc]) (Yl.loadS rfl rfl qab rfl (fun _ h=>h.sub (i:=2) rfl 0 rfl)) Z I rfl de fun a Z=>?_
   refine keepS HS (fun HS=>?_)
   exact M8_17 _ _ ⟨Z.sub kr,I.pt 3 [0,1,2]⟩
  refine all_cons ?_ ?_
  ·refine qc Z (i:=4) rfl rfl ?_
   refine Yl.wp (S:=fun wS=>Mem w wS _) (v:= .slice x.lA x.cl.length x.lc) (Yl.qe rfl rfl kr (fun _ h=>h.cell (i:=2) rfl (rfl))) Z I rfl de fun a Z=>?_
   refine keepS HS (fun HS=>?_)
   exact M8_19 _ _ ⟨Z.sub kr,I.pt 3 [0,1,2]⟩
  refine all_cons ?_ all_nil
  refine qc Z (i:=11) rfl rfl ?_
  refine Yl.wp (S:=fun wS=>Mem w wS _) (v:= .slice x.tA x.ts.length x.tc) (Yl.qe rfl rfl kr (fun _ h=>h.cell (i:=2) rfl (rfl))) Z I rfl de fun a Z=>?_
  refine keepS HS (fun HS=>?_)
  exact M8_21 _ _ ⟨Z.sub kr,I.pt 3 [0,1,2]⟩
 refine all_cons ?_ all_nil
 refine qc Z (i:=11) rfl rfl ?_
 refine Yl.wp (S:=fun wS=>Mem w wS _) (v:= .slice x.tA x.ts.length x.tc) (Yl.qe rfl rfl kr (fun _ h=>h.cell (i:=2) rfl (rfl))) Z I rfl de fun a Z=>?_
 refine keepS HS (fun HS=>?_)
 refine qo [1,4,7] kr rfl ?_
 refine all_cons ?_ ?_
 ·refine qc Z (i:=1) rfl rfl ?_
  refine Yl.wp (S:=fun wS=>Mem w wS _) (v:= .agg #[vI x.cpus,vQ x.credit,.slice x.gA x.gs.length x.gc]) (Yl.loadS rfl rfl qab rfl (fun _ h=>h.sub (i:=2) rfl 0 rfl)) Z I rfl de fun a Z=>?_
  refine keepS HS (fun HS=>?_)
  exact M8_18 _ _ ⟨Z.sub kr,I.pt 3 [0,1,2]⟩
 refine all_cons ?_ ?_
 ·refine qc Z (i:=4) rfl rfl ?_
  refine Yl.wp (S:=fun wS=>Mem w wS _) (v:= .slice x.lA x.cl.length x.lc) (Yl.qe rfl rfl kr (fun _ h=>h.cell (i:=2) rfl (rfl))) Z I rfl de fun a Z=>?_
  refine keepS HS (fun HS=>?_)
  exact M8_20 _ _ ⟨Z.sub kr,I.pt 3 [0,1,2]⟩
 refine all_cons ?_ all_nil
 refine qc Z (i:=7) rfl rfl ?_
 refine Yl.wp (S:=fun wS=>Mem w wS _) (v:= .slice x.uA x.cu.length x.uc) (Yl.qe rfl rfl kr (fun _ h=>h.cell (i:=2) rfl (rfl))) Z I rfl de fun a Z=>?_
 refine keepS HS (fun HS=>?_)
 exact M8_21 _ _ ⟨Z.sub kr,I.pt 3 [0,1,2]⟩
theorem qro (c:Nat) (hc:c<4294967296) (A:Option Addr) (n cp:Nat) (l:List Nat) (B:Nat) (w:World) (hL:LaidX B w) (hB:B≤w.heap.size) (hr:Rd w w.heap.size 1 A n (l.map B8)) (hln:l.length=n) (hn:n≤140737488355328) (hl:∀b∈l,b<256):
    Calls Tryz.prog 94 #[vW c,.slice A n cp] w (Is w (vW (qz c l:Int))):=by
 refine (JN2 Tryz.func94 33) ?_
 refine (JP∘Jp 1∘Jj∘JQ∘JP∘Jp 1∘Jl∘Jp 1∘Jj∘JB) fun a Z I=>?_
 refine qj (fun mS aS wS=>∃(k:Nat),(k≤n)∧mS=n-k∧Fr aS 33 [] [(9,vI k),(8,vI n),(7,.slice A n cp),(4,vW 0),(0,vW (qz c (l.take k)))]∧Mem w wS []) (m:=n-0) ⟨0,Nat.zero_le _,rfl,Z.sub kr,I.pk []⟩ ?_
 clear Z I;rintro mS a w_ ⟨k,hk,rfl,Z,I⟩
 have hcr:=qel (l.take k) hc (qss hl k)
 refine Jb Z I ((JP∘Jp 1∘Jj∘JQ) (Ju (fun hb10=>?_) fun hb10=>?_))
 ·
  intro a Z I
  have hd10:=of_decide_eq_true hb10
  refine Jb Z I ((JT∘JS'∘JQ∘JB∘JP) ?_)
  repeat (first|clear Z|clear I)
  intro a Z I
  obtain ⟨gA,oA,rfl,_⟩:=hr.qm (Nat.lt_of_le_of_lt (Nat.zero_le _) (show k<n from by omega)) de
  refine Jb Z I ((Jy (h:=by exact Yl.ix gA oA k 1 rfl rfl rfl)∘JH (getD_lt hl (k:=k) (by first|omega|(simp;omega)))) fun hx1=>(Jy (h:=by exact Yl.o1 hr k 0 (by first|omega|(simp;omega)) rfl rfl)∘Jp 1∘Jd2∘Jr∘Jp 2∘Jw .u32∘Jp 1∘Jo (vW ((qz c (l.take k))^^^ (l.getD k 0):Nat)) (by exact qi7 (m:=qz c (l.take k)) (n:=(l.getD k 0)) om om)∘Jp 1∘Jd4∘Jq) fun a Z I=>?_)
  have hy:=qek hcr (show l.getD k 0<4294967296 by omega)
  refine Jb Z I ((JG∘JP∘Jp 2∘Jo (vW (((qz c (l.take k))^^^ (l.getD k 0))/16:Nat)) (by exact qbt .u32 ((qz c (l.take k))^^^ (l.getD k 0)) (j:=4) (q:=16) rfl rfl)∘Jp 2∘Jo (vW (((qz c (l.take k))^^^ (l.getD k 0))%16:Nat)) (by exact qoc (n:=15) (j:=4) rfl de om)∘Jy (v:=vP 0 ((((qz c (l.take k))^^^ (l.getD k 0))%16)*1)) (h:=by exact (Yl.z8 (ad:=⟨0,0,none⟩) (m:=16) (y:=((qz c (l.take k))^^^ (l.getD k 0))%16) (sz:=1) rfl rfl rfl kr om).as (by rw [Addr.add_mid,Nat.zero_add]))∘Jy (v:=vW (qav.getD (((qz c (l.take k))^^^ (l.getD k 0))%16) 0)) (h:=by exact Yl.qe rfl rfl kr (fun _ h=>qof hL h hB (k:=(((qz c (l.take k))^^^ (l.getD k 0))%16)) om))∘Jp 1∘Jo (vW (nib (qz c (l.take k)^^^l.getD k 0))) (by have h:=qi7 (m:=(qz c (l.take k)^^^l.getD k 0)/16) (n:=qav.getD ((qz c (l.take k)^^^l.getD k 0)%16) 0) om (qgn _ om);exact h)∘Jp 1∘Jd6∘Jq) fun a Z I=>?_)
  have hz:=q2d hy
  refine Jb Z I ((JG∘JR∘Jp 2∘Jo (vW ((nib (qz c (l.take k)^^^l.getD k 0))/16:Nat)) (by exact qbt .u32 (nib (qz c (l.take k)^^^l.getD k 0)) (j:=4) (q:=16) rfl rfl)∘Jp 2∘Jo (vW ((nib (qz c (l.take k)^^^l.getD k 0))%16:Nat)) (by exact qoc (n:=15) (j:=4) rfl de om)∘Jy (v:=vP 0 (((nib (qz c (l.take k)^^^l.getD k 0))%16)*1)) (h:=by exact (Yl.z8 (ad:=⟨0,0,none⟩) (m:=16) (y:=(nib (qz c (l.take k)^^^l.getD k 0))%16) (sz:=1) rfl rfl rfl kr om).as (by rw [Addr.add_mid,Nat.zero_add]))∘Jy (v:=vW (qav.getD ((nib (qz c (l.take k)^^^l.getD k 0))%16) 0)) (h:=by exact Yl.qe rfl rfl kr (fun _ h=>qof hL h hB (k:=((nib (qz c (l.take k)^^^l.getD k 0))%16)) om))∘Jp 1∘Jo (vW (qz c (l.take (k+1)))) (by have h:=qi7 (m:=nib (qz c (l.take k)^^^l.getD k 0)/16) (n:=qav.getD (nib (qz c (l.take k)^^^l.getD k 0)%16) 0) om (qgn _ om);rw [qmv om];exact h)∘Jp 1∘Jd6∘Jj∘JR∘JaK 1∘Jp 1∘Jd1∘Jq) fun a Z I=>?_)
  exact ⟨_,om,k+1,by omega,rfl,Z.sub kr,I.pk []⟩
 intro a Z I
 have hd10:=of_decide_eq_false hb10
 revert I;revert a;repeat (first|clear Z|clear I)
 intro a Z I
 obtain rfl:n=k:=by omega
 exact Jb Z I ((JF∘JX∘JG∘JP∘Jp 2∘Jd1∘Jj∘JZ∘Jz1) fun I=>by exact ⟨by rw [List.take_of_length_le om],I.below⟩)
theorem qrp (c:Nat) (hc0:c<4294967296) (A:Option Addr) (n cp:Nat) (l:List Nat) (B:Nat) (w:World) (hL:LaidX B w) (hB:B≤w.heap.size) (hr:Rd w w.heap.size 1 A n (l.map B8)) (hln:l.length=n) (hn:n≤140737488355328) (hl:∀b∈l,b<256):
    Calls Tryz.prog 60 #[vW c,.slice A n cp] w (Is w (vW ((qz (c^^^4294967295) l^^^4294967295:Nat):Int))):=by
 refine (JN2 Tryz.func60 10) ?_
 refine (JP∘Jp 1∘Jq) fun a Z I=>?_
 have hc:=qek hc0 (show 4294967295<4294967296 by decide)
 have hcr:=qel l hc hl
 exact Jb Z I ((JG∘JP∘Jp 1∘Jy (v:=vW (c^^^4294967295:Nat)) (h:=by exact Yl.q3p (m:=c) rfl rfl om)∘Jp 1∘JI (h:=by exact fun I=>qro _ hc _ _ _ l B _ (hL.mem I hB) (I.le hB) (I.old hr) hln hn hl)) fun w8 hbw=>(Jy (v:=vW ((qz (c^^^4294967295) l)^^^4294967295:Nat)) (h:=by exact Yl.q3p (m:=qz (c^^^4294967295) l) rfl rfl om)∘Jp 1∘Jd5∘Jj∘JZ) JY1)
theorem qdu (A:Option Addr) (n cp:Nat) (l:List Nat) (B:Nat) (w:World) (hL:LaidX B w) (hB:B≤w.heap.size) (hr:Rd w w.heap.size 1 A n (l.map B8)) (hln:l.length=n) (hn:n≤140737488355328) (hl:∀b∈l,b<256):
    Calls Tryz.prog 33 #[.slice A n cp] w (Is w (vW (qx l:Int))):=by
 refine (JN1 Tryz.func33 5) ?_
 refine (JP∘Jp 1∘Jr∘Jp 1∘JL (h:=by exact fun I=>qrp 0 de _ _ _ l B _ (hL.mem I hB) (I.le hB) (I.old hr) hln hn hl)) ?_
 rintro I _ w4 ⟨rfl,hbw⟩
 rw [show (qz (0^^^4294967295) l^^^4294967295:Nat)=qx l from qwe (qel l de hl)]
 refine ⟨_,rfl,_,I.call hbw,?_⟩
 exact (Jp 1∘Jd2∘Jj∘JZ) JY1
theorem q1i {w w':World} {l:List Nat} {n c:Nat} {A:Option Addr} (hln:l.length=n) (ho:w'.ownsRow w.heap.size 5 1 (.slice A (0+n+4) c) (0+n+4) ([]++l.map B8++(le4 (qx l)).map B8)) (hc:0+n+4≤c) (hb:Below w.heap.size w w'):qc8 w 0 (sealL l) (.returned (.tuple #[.slice A (0+n+4) c,vI 0])) w':=by
 have e:0+n+4=(sealL l).length:=by rw [qbw];omega
 rw [e] at ho hc⊢
 refine ⟨⟨A,c,rfl,?_,hc⟩,hb⟩
 have e2:([]++l.map B8++(le4 (qx l)).map B8)=(sealL l).map B8:=by simp [sealL]
 rw [e2] at ho
 exact ho
theorem qx3 (A:Option Addr) (n cp:Nat) (l:List Nat) (B:Nat) (w:World) (hL:LaidX B w) (hB:B≤w.heap.size) (hr:Rd w w.heap.size 1 A n (l.map B8)) (hln:l.length=n) (hn:n≤16777216) (hl:∀b∈l,b<256):
    Calls Tryz.prog 30 #[.slice A n cp] w (qc8 w 0 (sealL l)):=by
 refine (JN1 Tryz.func30 31) ?_
 refine (JP∘Jp 2∘Jj∘JQ∘JP∘Jp 1∘Jl∘Jp 1∘Jd2∘Jj) (Ju (fun hb8=>?_) fun hb8=>?_)
 ·
  intro a Z I
  have hd8:=of_decide_eq_true hb8
  omega
 intro a Z I
 have hd8:=of_decide_eq_false hb8
 refine Jb Z I ((JF∘JS'∘JP∘Jp 1∘JI (h:=by exact fun I=>qdu _ _ _ l B _ (hL.mem I hB) (I.le hB) (I.old hr) (hln) om (hl))) fun w10 hbw=>(Jp 1∘Jd2∘Jq) fun a Z I=>?_)
 have hcs:=qkv l
 refine Jb Z I ((JG∘JP∘Jp 1∘Jl∘JaK 4) fun a Z I=>?_)
 refine fo Z 3 rfl rfl ?_
 refine qzt Z I (m:=(n+4)) rfl ei_u8 rfl rfl om om rfl de ?_
 clear Z I;intro a w14 g14 Z I
 exact Jb Z I ((Jp 1∘JD (l.map B8) 0 (fun _ _=>O0') ei_u8 (hr:=by exact fun I=>I.old hr) (h1:=by exact qyv _)) fun w16 A16 c16 hc16=>(Jp 1∘Jd6∘Jr∘Jp 2∘Jv 1 [(19,vB (IntKind.u8.wrap (qx l:Int)))]∘Jo (vB ((qx l)%256:Nat)) (by exact qoa (qx l))∘Jp 2∘Jo (vW ((qx l)/256:Nat)) (by exact qbt .u32 (qx l) (j:=8) (q:=256) rfl rfl)∘Jv 1 [(22,vB (IntKind.u8.wrap (((qx l)/256:Nat):Int)))]∘Jo (vB (((qx l)/256)%256:Nat)) (by exact qoa ((qx l)/256))∘Jp 2∘Jo (vW ((qx l)/65536:Nat)) (by exact qbt .u32 (qx l) (j:=16) (q:=65536) rfl rfl)∘Jv 1 [(25,vB (IntKind.u8.wrap (((qx l)/65536:Nat):Int)))]∘Jo (vB (((qx l)/65536)%256:Nat)) (by exact qoa ((qx l)/65536))∘Jp 2∘Jo (vW ((qx l)/16777216:Nat)) (by exact qbt .u32 (qx l) (j:=24) (q:=16777216) rfl rfl)∘Jv 1 [(28,vB (IntKind.u8.wrap (((qx l)/16777216:Nat):Int)))]∘Jo (vB (((qx l)/16777216)%256:Nat)) (by exact qoa ((qx l)/16777216))∘JU ei_u8 #[vB ((qx l)%256:Nat),vB (((qx l)/256)%256:Nat),vB (((qx l)/65536)%256:Nat),vB (((qx l)/16777216)%256:Nat)]) fun w29 g29=>(JD ((le4 (qx l)).map B8) 1 (fun _ _=>O1') ei_u8 (hr:=by exact fun I=>I.rdBlk (i:=0) (n:=4) (size:=1) rfl rfl) (h1:=by exact qyv _)) fun w30 A30 c30 hc30=>(Jp 2∘Jj∘JZ∘JM (.f .n)∘Jz2) fun I=>q1i hln (I.own (i:=0) rfl) hc30 I.below)
theorem q3k:SI Tryz.prog 69 3:=⟨by kernel_rfl,by kernel_rfl⟩
theorem qma:EI Tryz.prog 65 69 (.agg #[.string (ByteArray.mk #[]),vI 0,vI 0]) 3 32:=⟨by kernel_rfl,by kernel_rfl,rfl,by omega⟩
theorem qdv (s:Snm) (hok:s.st.sta.Ok) (hf:StFew s.st) (hc:StCap s.st) (B:Nat) (w:World) (hL:LaidX B w) (hB:B≤w.heap.size) (hx:StRd w s.st):
    Calls Tryz.prog 13 #[.agg s.cells] w (qc8 w (chkS s) (outS s)):=by
 refine (JN1 Tryz.func13 22) ?_
 refine (JP∘JE) fun w1 g1=>(Jp 2∘Jr∘Jy (v:= .agg s.cells) (h:=by exact Yl.loadS rfl rfl qu rfl (fun _ h=>qa (h.blk (i:=0) rfl)))∘JK (h:=by exact fun I=>qfx s hok hf hc _ (hx.old I))) fun A8 c8 w8 hc8=>(Jp 1∘Jx∘Jx∘Jp 2∘Jj∘JQ∘JP∘Jp 2∘Jd1∘Jj) (Ju (fun hb12=>?_) fun hb12=>?_)
 ·
  intro a Z I
  have hd12:=bne_iff_ne.1 hb12
  exact Jb Z I ((JT∘JP∘Jp 3∘Jj∘JZ∘Jz2) fun I=>qqg _ rfl (q0j om) I.below)
 intro a Z I
 have hd12:=bne_eq_false_iff_eq.1 hb12
 have hk0:chkS s=0:=by omega
 have hsh:=qk9 hk0
 have hnl:=qgz hsh
 rw [←qbf hk0] at hnl
 have hbf:=qos hsh
 have hpos:=qws s
 rw [←qbf hk0] at hpos
 have hfl:=qcp (numsE s)
 refine Jb Z I ((JF∘JS'∘JP∘JU ei_u8 #[vB 113,vB 115,vB 1]) fun w14 g14=>fun a Z I=>?_)
 refine fo Z 1 rfl rfl ?_
 refine q2o Z I 0 (e:=5) rfl rfl rfl kr kr rfl de ?_
 clear Z I;intro a w15 Z I
 refine Jb Z I ((Jp 1∘JK (h:=by exact fun I=>qsr A8 ((numsE s).length) c8 (numsE s) _ (I.rd (i:=1) rfl) (by rw [qbf hk0];exact qjk hok hf) (by have:=hnl;omega))) fun A17 c17 w17 hc17=>fun a Z I=>?_)
 refine fo Z 4 rfl rfl ?_
 refine qi6 Z I (xs:=([113,115,1]:List Nat).map B8) (news:=((numsE s).flatMap vbytes).map B8) rfl ei_u8 rfl rfl (I.rdMark (i:=1) (size:=1) (n:=3) rfl rfl) (I.rd (i:=0) rfl) om om (fun h=>by cases h) om om rfl de ?_
 clear Z I;intro a w18 g18 c18 Z I hc18
 have hnsomeg180none:3+((numsE s).flatMap vbytes).length=(bodyS s).length:=q2u hk0
 replace I:=I.reRow (i:=0) (ys:=(bodyS s).map B8) rfl hnsomeg180none (qqh hk0)
 rw [hnsomeg180none] at hc18
 replace Z:=Z.sp 18 (vS g18 ((bodyS s).length) c18) rfl (by rw [hnsomeg180none])
 exact Jb Z I ((JK (h:=by exact fun I=>qx3 (some ⟨g18,0,none⟩) ((bodyS s).length) c18 (bodyS s) B _ (hL.mem I hB) (I.le hB) (I.rd (i:=0) rfl) rfl om (qjl s))) fun A19 c19 w19 hc19=>(Jx∘Jx∘Jp 2∘Jj∘JZ∘Jz2) fun I=>qqi (er':=0) hk0.symm (qg0 hk0).symm (I.own (i:=0) rfl) hc19 I.below)
theorem qvn (s:Snm) (hok:s.st.sta.Ok) (hf:StFew s.st) (hc:StCap s.st) (B:Nat) (w:World) (hL:LaidX B w) (hB:B≤w.heap.size) (hx:StRd w s.st):
    Calls Tryz.prog 24 #[.agg s.cells] w (Is w (.tuple #[vI ((outS s).length:Int),vI (chkS s:Int)])):=by
 refine (JN1 Tryz.func24 14) ?_
 exact (JP∘JE) fun w1 g1=>(Jp 2∘Jr∘Jy (v:= .agg s.cells) (h:=by exact Yl.loadS rfl rfl qu rfl (fun _ h=>qa (h.blk (i:=0) rfl)))∘JK (h:=by exact fun I=>qdv s hok hf hc B _ (hL.mem I hB) (I.le hB) (hx.old I))) fun A8 c8 w8 hc8=>(Jp 1∘Jx∘Jx∘Jp 2∘Jr∘Jp 1∘Jl∘Jp 3∘Jj∘JZ) JY2
theorem qye (s:Snm) (hok:s.st.sta.Ok) (hf:StFew s.st) (hc:StCap s.st) (B:Nat) (w:World) (hL:LaidX B w) (hB:B≤w.heap.size) (hx:StRd w s.st):
    Calls Tryz.prog 15 #[.agg s.cells] w (Is w (.tuple #[vW (sumS s:Int),vI (chkS s:Int)])):=by
 refine (JN1 Tryz.func15 20) ?_
 refine (JP∘JE) fun w1 g1=>(Jp 2∘Jr∘Jy (v:= .agg s.cells) (h:=by exact Yl.loadS rfl rfl qu rfl (fun _ h=>qa (h.blk (i:=0) rfl)))∘JK (h:=by exact fun I=>qdv s hok hf hc B _ (hL.mem I hB) (I.le hB) (hx.old I))) fun A8 c8 w8 hc8=>(Jp 1∘Jx∘Jx∘Jp 2∘Jj∘JQ∘JP∘Jp 2∘Jd1∘Jj) (Ju (fun hb12=>?_) fun hb12=>?_)
 ·
  intro a Z I
  have hd12:=bne_iff_ne.1 hb12
  exact Jb Z I ((JT∘JP∘Jp 3∘Jj∘JZ∘Jz2) fun I=>by exact ⟨by rw [q0l om];rfl,I.below⟩)
 intro a Z I
 have hd12:=bne_eq_false_iff_eq.1 hb12
 have hk0:chkS s=0:=by omega
 have hsh:=qk9 hk0
 have hbf:=qos hsh
 have hol:=q0k hk0
 exact Jb Z I ((JF∘JS'∘JP∘Jp 2∘Jl∘JsK 4∘Jy (h:=by exact Yl.qa3 ei_u8 (j:=(outS s).length-4) rfl rfl rfl om)∘JI (h:=by exact fun I=>qdu A8 ((outS s).length-4) c8 (bodyS s) B _ (hL.mem I hB) (I.le hB) (q2v hk0 (I.rd (i:=0) rfl)) om om (qjl s))) fun w19 hbw=>(Jp 2∘Jj∘JZ∘Jz2) fun I=>by exact ⟨by rw [qtf hk0,hk0];rfl,I.below⟩)
theorem qe0 (s:Snm) (hok:s.st.sta.Ok) (hf:StFew s.st) (hc:StCap s.st) (w:World) (hx:StRd w s.st):
    Calls Tryz.prog 23 #[.agg s.cells] w (qfg 69 w (chkS s) (secsE s)):=by
 refine qcv (vs:=[.agg s.cells]) Tryz.func23 rfl rfl kr (σ0:=[(0,.agg s.cells)]) rfl ?_
 intro a Z
 have I:=Mem.start w
 refine Jb Z I ((JP∘JE) fun w1 g1=>(Jp 2∘Jj∘JQ∘JP∘Jy (v:= .agg s.cells) (h:=by exact Yl.loadS rfl rfl qu rfl (fun _ h=>qa (h.blk (i:=0) rfl)))∘JI (h:=by exact fun I=>qbk s hok hf hc _ (hx.old I))) fun w11 hbw=>(Jp 1∘Jd2∘Jr∘Jp 2∘Jd1∘Jj) (Ju (fun hb13=>?_) fun hb13=>?_))
 ·
  intro a Z I
  have hd13:=bne_iff_ne.1 hb13
  refine Jb Z I ((JT∘JP∘Jp 3∘Jj∘JZ) fun a Z I=>?_)
  refine qyz ?_
  exact s_rt2 rfl Z rfl rfl (qqk _ rfl (qwu om) I.below)
 intro a Z I
 have hd13:=bne_eq_false_iff_eq.1 hb13
 have hk0:chkS s=0:=by omega
 have hsh:=qk9 hk0
 have hal:= @q2w s hsh
 have hal7:=hal (i:=7) om
 refine Jb Z I ((JF∘JS'∘JP∘Jy (v:= .agg #[.string (ByteArray.mk #[104,101,97,100]),vI 0,vI 3]) (h:=by exact Yl.build (vs:=[(0,.string (ByteArray.mk #[104,101,97,100])),(1,vI 0),(2,vI 3)]) rfl kr kr)∘JU qma #[.string (ByteArray.mk #[104,101,97,100]),vI 0,vI 3]) fun w16 g16=>(JA #[vN]) fun w5 g5=>(JW O0' O0') fun w4_3=>(Jd2∘Jq) fun a Z I=>?_)
 replace I:=(I.blkRow (i:=1) (n:=1) (size:=3) rfl rfl de).asRow (i:=1) (ys:=[qg1].flatMap secL) rfl (rfl)
 refine Jb Z I ((JG∘JP∘JA #[vI 0]) fun w6 g6=>(JW O0' O0') fun w5_1=>(Jj∘JQ∘JP∘Jy (v:= .agg s.cells) (h:=by exact Yl.loadS rfl rfl qu rfl (fun _ h=>qa (h.blk (i:=3) rfl)))∘JL (h:=by exact fun I=>ql9 s _)) ?_)
 rintro I _ w18 ⟨gv,gp,rfl,hm⟩
 refine ⟨_,rfl,_,I.join hm,?_⟩
 refine (Jd1∘Jj∘JB) fun a Z I=>?_
 refine qsv Z I (fun F=>∃(q:List Sec) (Ao:Option Addr) (co:Nat),(q=[qg1]++upF 7 (qap s))∧(q.length=7+1)∧(q.length≤co)∧F=[.blk g6 #[vI (atS s 7)] 3,.blk g5 #[.slice Ao q.length co] 65,.row (.slice Ao q.length co) q.length (q.flatMap secL) 69 3,.blk g1 s.cells 40]) (fun _ _=>False) rfl kr ?_ ?_ (fun _ _ _ _ _ h=>h.elim)
 ·
  clear Z I;intro lp B rec w1 hrec I
  have hy:qkf Tryz.prog w lp s (fun i F=>∃(q:List Sec) (Ao:Option Addr) (co:Nat),(q=[qg1]++upF i (qap s))∧(q.length=i+1)∧(q.length≤co)∧F=(.obj lp (.loop (rec .ready none)):: .obj B (.deferred (some [])):: [.blk g6 #[vI (atS s i)] 3,.blk g5 #[.slice Ao q.length co] 65,.row (.slice Ao q.length co) q.length (q.flatMap secL) 69 3,.blk g1 s.cells 40])):=by
   rintro i F fr w3 Ar cr ⟨q,Ao,co,hq,hql,hco,rfl⟩ hi hcr I
   replace I:=I.pt (fs':=(.obj lp (.loop (rec .ready none)):: .row (.slice Ar ((secN s i).length) cr) ((secN s i).length) ((secN s i).map U64) 30 1:: .obj B (.deferred (some [])):: .blk g6 #[vI (atS s i)] 3:: .blk g5 #[.slice Ao q.length co] 65:: .row (.slice Ao q.length co) q.length (q.flatMap secL) 69 3:: .blk g1 s.cells 40::fr)) 7 [1,0,2,3,4,5,6]
   refine qfr (v1:= .string (qb6 i)) (v2:= .slice Ar ((secN s i).length) cr) hrec I de de fun a Z=>?_
   refine wpIn_seq ?_
   refine zp ?_
   refine Jb Z I ((Jp 1∘Jq) fun a Z I=>?_)
   refine zp ?_
   refine Jb Z I ((Jp 1∘Jq) fun a Z I=>?_)
   have hsl:=qop hsh hi
   have hal1:=hal (i:=i) om
   have hal2:=hal (i:=i+1) om
   have hsu:=qep s i
   refine ⟨(.row (.slice Ar ((secN s i).length) cr) ((secN s i).length) ((secN s i).map U64) 30 1:: .obj B (.deferred (some [])):: .blk g6 #[vI (atS s i)] 3:: .blk g5 #[.slice Ao q.length co] 65:: .row (.slice Ao q.length co) q.length (q.flatMap secL) 69 3:: .blk g1 s.cells 40::fr),I.pt (fs':=(.obj lp (.loop (rec .ready none)):: .row (.slice Ar ((secN s i).length) cr) ((secN s i).length) ((secN s i).map U64) 30 1:: .obj B (.deferred (some [])):: .blk g6 #[vI (atS s i)] 3:: .blk g5 #[.slice Ao q.length co] 65:: .row (.slice Ao q.length co) q.length (q.flatMap secL) 69 3:: .blk g1 s.cells 40::fr)) 7 [0,1,2,3,4,5,6],fun w4 I=>?_⟩
   refine wpIn_block ?_
   refine wpIn_seq ?_
   refine qsu I (.obj lp (.loop (rec .busy none)):: .row (.slice Ar ((secN s i).length) cr) ((secN s i).length) ((secN s i).map U64) 30 1:: .obj B (.deferred (some [])):: .blk g6 #[vI (atS s i)] 3:: .blk g5 #[.slice Ao q.length co] 65:: .row (.slice Ao q.length co) q.length (q.flatMap secL) 69 3:: .blk g1 s.cells 40::fr) 7 [0,1,2,3,4,5,6] [] fun I HS=>?_
   refine ap Z (fun _=>HS) [1] (bf 6 [1]) [(22,.slice Ar ((secN s i).length) cr)] fun a Z=>?_
   refine s_ac Z HS 0 3 fun a Z=>?_
   refine s_on Z 2 rfl ?_
   refine s_ek Z I [.slice Ar ((secN s i).length) cr] (qsr Ar ((secN s i).length) cr (secN s i) _ (I.rd (i:=1) rfl) (qjj hok hf i) (by have:=hsl;omega)) fun A23 c23 w23 hc23 I a Z=>?_
   refine keepS (I.pt 8 [1,2,3,4,5,6,7]) (fun HS=>?_)
   refine s_al Z HS 3 fun a Z=>?_
   refine qcs Z (fun _=>HS) (i:=4) rfl rfl (d:=25) rfl de kr (fun _ _ _ h=>h) (v:=vI (IntKind.i64.wrap ((atS s i:Int)+((((secN s i).flatMap vbytes).length:Nat):Int)))) (fun _=>Yl.pure kr) fun a Z=>?_
   replace Z:=Z.sp 25 (vI (atS s (i+1))) rfl (qa5 (by rw [qep];omega) om)
   refine ap Z (fun _=>HS) [5] (bt 6 []) [(9,vI (atS s (i+1)))] fun a Z=>?_
   refine qb kr ?_
   refine wpIn_seq ?_
   refine zp ?_
   refine Jb Z I ((Jc O5∘Jp 1∘Jc O4∘Jp 1∘Jy (v:= .agg #[.string (qb6 i),vI (atS s i),vI (atS s (i+1))]) (h:=by exact Yl.build (vs:=[(0,.string (qb6 i)),(1,vI (atS s i)),(2,vI (atS s (i+1)))]) rfl kr kr)∘JU qma #[.string (qb6 i),vI (atS s i),vI (atS s (i+1))]) fun w31 g31=>(JD ((qap s i).flatMap secL) 7 (fun _ _=>O7') qma (hr:=by exact fun I=>I.rdBlk (i:=0) (n:=1) (size:=3) rfl rfl) (h1:=by exact qtg _)) fun w32 A32 c32 hc32=>(JW O6' O0') fun w10_7=>(Jt6∘Jq) fun a Z I=>?_)
   have hnA32:q.length+1=(q++(qap s i)).length:=qax rfl
   replace I:=I.reRow (i:=7) (ys:=(q++(qap s i)).flatMap secL) rfl hnA32 (List.flatMap_append.symm)
   rw [hnA32] at hc32
   rw [hnA32] at I
   refine zp ?_
   refine Jb Z I ((Jp 1∘JW O5' O0') fun w11_1=>(Jt2∘Jq) fun a Z I=>?_)
   refine ⟨(.obj B (.deferred (some [])):: .blk g6 #[vI (atS s (i+1))] 3:: .blk g5 #[.slice A32 ((q++(qap s i)).length) c32] 65:: .row (.slice A32 ((q++(qap s i)).length) c32) ((q++(qap s i)).length) ((q++(qap s i)).flatMap secL) 69 3:: .blk g1 s.cells 40::fr),I.pt (fs':=(.obj lp (.loop (rec .busy none)):: .obj B (.deferred (some [])):: .blk g6 #[vI (atS s (i+1))] 3:: .blk g5 #[.slice A32 ((q++(qap s i)).length) c32] 65:: .row (.slice A32 ((q++(qap s i)).length) c32) ((q++(qap s i)).length) ((q++(qap s i)).flatMap secL) 69 3:: .blk g1 s.cells 40::fr)) 9 [2,4,5,6,7,8],fun w5 I=>?_⟩
   exact ⟨(.obj lp (.loop (rec .ready none)):: .obj B (.deferred (some [])):: .blk g6 #[vI (atS s (i+1))] 3:: .blk g5 #[.slice A32 ((q++(qap s i)).length) c32] 65:: .row (.slice A32 ((q++(qap s i)).length) c32) ((q++(qap s i)).length) ((q++(qap s i)).flatMap secL) 69 3:: .blk g1 s.cells 40:: []),I,rfl,⟨(q++(qap s i)),A32,c32,by rw [hq,qs,List.append_assoc],by rw [List.length_append,hql];rfl,hc32,rfl⟩⟩
  refine (qi1 w w1 gv gp lp s hok hf hx hc hsh _ _ hy ⟨[qg1],(some ⟨g16,0,none⟩),1,rfl,rfl,Nat.le_refl _,rfl⟩ (I.pk [2,3,0,1,4,5,6,7])).mono ?_
  rintro r w2 ⟨v,rfl,F2,HM2,⟨q,Ao,co,hq,hql,hco,rfl⟩⟩
  exact ⟨v,rfl,.inl ⟨_,⟨q,Ao,co,hq,hql,hco,rfl⟩,HM2⟩⟩
 clear Z I;rintro B a w6 _ ⟨q,Ao,co,hq,hql,hco,rfl⟩ Z I
 refine Jb Z I ((JG∘JP∘Jc O2∘Jc O1∘Jc O1∘JaK 4∘Jy (v:= .agg #[.string (ByteArray.mk #[115,117,109]),vI (atS s 7),vI (atS s 7+4:Nat)]) (h:=by exact Yl.build (vs:=[(0,.string (ByteArray.mk #[115,117,109])),(1,vI (atS s 7)),(2,vI (atS s 7+4:Nat))]) rfl kr kr)∘JU qma #[.string (ByteArray.mk #[115,117,109]),vI (atS s 7),vI (atS s 7+4:Nat)]) fun w39 g39=>(JD ([qig s].flatMap secL) 4 (fun _ _=>O4') qma (hr:=by exact fun I=>I.rdBlk (i:=0) (n:=1) (size:=3) rfl rfl) (h1:=by exact qtg _)) fun w40 A40 c40 hc40=>(Jp 2∘Jq) fun a Z I=>?_)
 have hnA40:q.length+1=(q++[qig s]).length:=qax rfl
 replace I:=I.reRow (i:=4) (ys:=(q++[qig s]).flatMap secL) rfl hnA40 (List.flatMap_append.symm)
 rw [hnA40] at hc40
 replace Z:=Z.sp 2 (.slice A40 ((q++[qig s]).length) c40) rfl (by rw [hnA40])
 replace Z:=Z.sp 40 (.slice A40 ((q++[qig s]).length) c40) rfl (by rw [hnA40])
 refine Jb Z I ((JG∘JZ) fun a Z I=>?_)
 refine qmy Z I (i:=1) rfl fun a w7 Z I=>?_
 exact s_rt2 rfl Z rfl rfl (qqj (er':=0) hk0.symm (by rw [qjo hk0,qwt,hq]) (I.own (i:=4) rfl) hc40 I.below)
theorem qrq {l:List Nat} {n:Nat} (hln:l.length=n) (h:4≤n):(((qx (l.take (n-4)):Nat):Int)==((l.getD (n-4) 0+l.getD (n-4+1) 0*256+l.getD (n-4+2) 0*65536+l.getD (n-4+3) 0*16777216:Nat):Int))=qc9 l:=by
 subst hln
 have hd:∀i,(l.drop (l.length-4)).getD i 0=l.getD (l.length-4+i) 0:=fun i=>by rw [List.getD_eq_getElem?_getD,List.getElem?_drop,←List.getD_eq_getElem?_getD]
 unfold qc9 num4
 rw [hd,hd,hd,hd,Bool.eq_iff_iff,beq_iff_eq,decide_eq_true_eq]
 simp only [Nat.add_zero]
 constructor
 ·intro h1;exact ⟨h,by omega⟩
 ·intro h1;have:=h1.2;omega
theorem ql4 {l:List Nat} {n:Nat} (hln:l.length=n) (h:n<4):qc9 l=false:=by unfold qc9;rw [decide_eq_false];omega
theorem qrr (A:Option Addr) (n cp:Nat) (l:List Nat) (B:Nat) (w:World) (hL:LaidX B w) (hB:B≤w.heap.size) (hr:Rd w w.heap.size 1 A n (l.map B8)) (hc:n≤cp) (hln:l.length=n) (hn:n≤140737488355328) (hl:∀b∈l,b<256):
    Calls Tryz.prog 17 #[.slice A n cp] w (Is w (.bool (qc9 l))):=by
 refine (JN1 Tryz.func17 43) ?_
 refine (JP∘Jp 1∘Jr∘Jp 1∘Jl∘Jp 1∘Jo (vI ((n:Int)-4)) (by exact qcg ⟨by omega,by omega⟩)∘Jp 1∘Jd3∘Jj∘JQ∘JP∘Jp 2∘Jd1∘Jj) (Ju (fun hb8=>?_) fun hb8=>?_)
 ·
  intro a Z I
  have hd8:=of_decide_eq_true hb8
  exact Jb Z I ((JT∘JP∘Jp 1∘Jj∘JZ∘Jz1) fun I=>by exact ⟨by rw [ql4 hln om],I.below⟩)
 intro a Z I
 have hd8:=of_decide_eq_false hb8
 replace Z:=Z.sp 3 (vI ((n-4:Nat):Int)) rfl (by congr 1;omega)
 refine Jb Z I ((JF∘JS') fun a Z I=>?_)
 refine wp_seq ?_
 refine Jb Z I ((Vs .n []) fun wd4=>(Vp [0,1,4,5,9,10,17,18,25,26]∘Vy 2 (h:=by exact Yl.qa3 ei_u8 (j:=n-4) rfl rfl rfl om)) ?_)
 repeat (first|clear Z|clear I|clear HS)
 intro a Z I HS
 obtain ⟨gA,oA,rfl,_⟩:=hr.qm (Nat.lt_of_le_of_lt (Nat.zero_le _) (show n-4<n from by omega)) de
 exact Vb Z I HS ((Vy 6 (h:=by exact Yl.ix gA oA (n-4) 1 rfl rfl rfl)∘VH (getD_lt hl (k:=(n-4)) (by first|omega|(simp;omega)))) fun hx17=>(Vy 7 (h:=by exact Yl.o1 hr (n-4) 0 (by first|omega|(simp;omega)) rfl rfl)∘Vw 8 .u32∘VaK 11 1∘Vy 12 (h:=by exact Yl.ix gA oA ((n-4)+1) 1 rfl rfl rfl)∘VH (getD_lt hl (k:=((n-4)+1)) (by first|omega|(simp;omega)))) fun hx18=>(Vy 13 (h:=by exact Yl.o1 hr ((n-4)+1) 0 (by first|omega|(simp;omega)) rfl rfl)∘Vw 14 .u32∘Vp [15]∘Vo (vW ((l.getD ((n-4)+1) 0)*256:Nat)) (by exact qd2 (by rw [show (2:Int)^ (min (8:Int).toNat (IntKind.u32).bits)=256 from rfl];omega) om)∘Vp [16]∘Vo (vW (l.getD (n-4) 0+l.getD (n-4+1) 0*256:Nat)) (by exact qi9 (m:=l.getD (n-4) 0) (n:=l.getD (n-4+1) 0) (j:=8) (p:=256) rfl om om)∘VaK 19 2∘Vy 20 (h:=by exact Yl.ix gA oA ((n-4)+2) 1 rfl rfl rfl)∘VH (getD_lt hl (k:=((n-4)+2)) (by first|omega|(simp;omega)))) fun hx19=>(Vy 21 (h:=by exact Yl.o1 hr ((n-4)+2) 0 (by first|omega|(simp;omega)) rfl rfl)∘Vw 22 .u32∘Vp [23]∘Vo (vW ((l.getD ((n-4)+2) 0)*65536:Nat)) (by exact qd2 (by rw [show (2:Int)^ (min (16:Int).toNat (IntKind.u32).bits)=65536 from rfl];omega) om)∘Vp [24]∘Vo (vW (l.getD (n-4) 0+l.getD (n-4+1) 0*256+l.getD (n-4+2) 0*65536:Nat)) (by exact qi9 (m:=l.getD (n-4) 0+l.getD (n-4+1) 0*256) (n:=l.getD (n-4+2) 0) (j:=16) (p:=65536) rfl om om)∘VaK 27 3∘Vy 28 (h:=by exact Yl.ix gA oA ((n-4)+3) 1 rfl rfl rfl)∘VH (getD_lt hl (k:=((n-4)+3)) (by first|omega|(simp;omega)))) fun hx20=>(Vy 29 (h:=by exact Yl.o1 hr ((n-4)+3) 0 (by first|omega|(simp;omega)) rfl rfl)∘Vw 30 .u32∘Vp [31]∘Vo (vW ((l.getD ((n-4)+3) 0)*16777216:Nat)) (by exact qd2 (by rw [show (2:Int)^ (min (24:Int).toNat (IntKind.u32).bits)=16777216 from rfl];omega) om)∘Vp [32]∘Vo (vW (l.getD (n-4) 0+l.getD (n-4+1) 0*256+l.getD (n-4+2) 0*65536+l.getD (n-4+3) 0*16777216:Nat)) (by exact qi9 (m:=l.getD (n-4) 0+l.getD (n-4+1) 0*256+l.getD (n-4+2) 0*65536) (n:=l.getD (n-4+3) 0) (j:=24) (p:=16777216) rfl om om)∘VI 3 .n (h:=by exact fun I=>qdu _ _ _ (l.take (n-4)) B _ (hL.mem I hB) (I.le hB) ((I.old hr).toB8 om) (by rw [List.length_take];omega) om (qss hl _))) fun w12 hbw=>(Vp [33,34]∘Vd∘Jd6∘JZ∘Jz1) fun I=>by exact ⟨by rw [qrq hln om],I.below⟩)
theorem qvo (A:Option Addr) (c:Nat) (l:List Nat) (D:Option Addr) (c2:Nat) (m:List Nat) (w:World) (hr:Rd w w.heap.size 1 A l.length (l.map U64)) (hr2:Rd w w.heap.size 1 D m.length (m.map U64)) (hn:l.length≤1000000) (hn2:m.length≤1000000):
    Calls Tryz.prog 19 #[.slice A l.length c,.slice D m.length c2] w (Is w (.bool (decide (l=m)))):=by
 refine (JN2 Tryz.func19 26) ?_
 refine (JP∘Jp 1∘Jj∘JQ∘JP∘Jp 1∘Jl∘Jp 1∘Jl∘Jp 1∘Jd4∘Jj) (Ju (fun hb10=>?_) fun hb10=>?_)
 ·
  intro a Z I
  have hd10:=bne_iff_ne.1 hb10
  exact Jb Z I ((JT∘JP∘Jp 1∘Jj∘JZ∘Jz1) fun I=>is_no (fun e=>by rw [e] at hd10;exact hd10 rfl) I.below)
 intro a Z I
 have hd10:=bne_eq_false_iff_eq.1 hb10
 have hlm:l.length=m.length:=by omega
 refine Jb Z I ((JF∘JS'∘JQ∘JP∘Jp 1∘Jj∘JB) fun a Z I=>?_)
 refine qj (fun mS aS wS=>∃(k:Nat),(k≤l.length)∧(∀i,i<k→l.getD i 0=m.getD i 0)∧mS=l.length-k∧Fr aS 26 [] [(5,vI k),(10,.bool false),(4,.bool false),(0,.slice A l.length c),(1,.slice D m.length c2)]∧Mem w wS []) (m:=l.length-0) ⟨0,Nat.zero_le _,qdn,rfl,Z.sub kr,I.pk []⟩ ?_
 clear Z I;rintro mS a w_ ⟨k,hk,hu,rfl,Z,I⟩
 refine Jb Z I ((JQ∘JP∘Jp 2∘Jl∘Jp 1∘Jd3∘Jj) (Ju (fun hb14=>?_) fun hb14=>?_))
 ·
  intro a Z I
  have hd14:=of_decide_eq_true hb14
  have hk1:k<l.length:=by omega
  have hk2:k<m.length:=by omega
  revert I;revert a;repeat (first|clear Z|clear I)
  intro a Z I
  obtain ⟨gA,oA,rfl,_⟩:=hr.qm (Nat.lt_of_le_of_lt (Nat.zero_le _) (show k<l.length from hk1)) de
  revert I;revert a;repeat (first|clear Z|clear I)
  intro a Z I
  obtain ⟨gD,oD,rfl,_⟩:=hr2.qm (Nat.lt_of_le_of_lt (Nat.zero_le _) (show k<m.length from hk2)) de
  refine Jb Z I ((JT∘JS'∘JQ∘JB) fun a Z I=>?_)
  refine wp_seq ?_
  refine Jb Z I ((Vs .n []) fun wd6=>(Vp [0,1,4,5]∘Vy 2 (h:=by exact Yl.ix gA oA k 1 rfl rfl rfl)∘Vy 3 (h:=by exact Yl.o1 hr k 0 hk1 rfl rfl)∘Vy 6 (h:=by exact Yl.ix gD oD k 1 rfl rfl rfl)∘Vy 7 (h:=by exact Yl.o1 hr2 k 0 hk2 rfl rfl)∘Vp [8]∘Vd∘Jd6) (Jh (fun hd25=>?_) fun hd25=>?_))
  ·
   exact (JT∘JP∘Jp 1∘Jj∘JZ∘Jz1) fun I=>is_no (fun e=>hd25 (by rw [e])) I.below
  refine (JF∘JS'∘JR∘Jp 1∘JaK 1∘Jp 1∘Jd2∘Jq) fun a Z I=>?_
  exact ⟨_,om,k+1,by omega,qdo hu om,rfl,Z.sub kr,I.pk []⟩
 intro a Z I
 have hd14:=of_decide_eq_false hb14
 exact Jb Z I ((JF∘JX∘JG∘JP∘Jp 1∘Jj∘JZ∘Jz1) fun I=>qgq (qdm 0 hlm (fun i hi=>hu i om)) I.below)
theorem qrv (A:Option Addr) (c:Nat) (l:List Nat) (D:Option Addr) (c2:Nat) (w:World) (hr:Rd w w.heap.size 1 A l.length (l.map U64)) (hr2:Rd w w.heap.size 1 D l.length (l.map U64)) (hn:l.length≤1000000):Calls Tryz.prog 19 #[.slice A l.length c,.slice D l.length c2] w (Is w (.bool true)):=by
 have h1:=qvo A c l D c2 l w hr hr2 hn hn
 rwa [decide_eq_true rfl] at h1
theorem qn0 (w:World):
    Calls Tryz.prog 32 #[] w (ExIs w):=by
 refine (JN0 Tryz.func32 29) ?_
 refine (JP∘JA #[vI 0,vI 0,vQ 0,.slice none 0 0,.slice none 0 0,.slice none 0 0,.slice none 0 0,.slice none 0 0]) fun w0 g0=>(JA #[vI 0,vI 0,vQ 0,.slice none 0 0,.slice none 0 0,.slice none 0 0,.slice none 0 0,.slice none 0 0]) fun w1 g1=>(Jr∘Jy (v:= .agg #[vI 0,vI 1]) (h:=by exact Yl.build (vs:=[(1,vI 1)]) rfl kr kr)∘JU ei_gr #[vI 0,vI 1]) fun w6 g6=>(Jp 1∘Jd2∘Jr∘Jp 1∘Jy (v:= .agg #[vI 1,vQ 0,vS g6 1 1]) (h:=by exact Yl.build (vs:=[(0,vI 1),(2,vS g6 1 1)]) rfl kr kr)∘JU ze #[vI 0]) fun w9 g9=>(JU ze #[vI 0]) fun w10 g10=>(Jy (v:= .agg #[vQ 0,vW 0,vQ 0]) (h:=by exact Yl.build (vs:=[]) rfl kr kr)∘JU ei_sp #[vQ 0,vW 0,vQ 0]) fun w12 g12=>(JU ei_rw #[vS g12 1 1]) fun w13 g13=>(Jy (v:= .agg #[vI 1,vQ 0,vS g6 1 1,vS g9 1 1,vS g10 1 1,.slice none 0 0,vS g13 1 1]) (h:=by exact Yl.build (vs:=[(0,.agg #[vI 1,vQ 0,vS g6 1 1]),(1,vS g9 1 1),(2,vS g10 1 1),(4,vS g13 1 1)]) rfl kr kr)∘JA #[vI 0,vQ 0,.slice none 0 0,.slice none 0 0,.slice none 0 0,.slice none 0 0,.slice none 0 0]) fun w3 g3=>(JV si_st O0') fun w2_9=>(Jd6∘Jr∘Jp 1∘Jy (v:= .agg #[vI 1,vQ 0,vS g6 1 1]) (h:=by exact Yl.build (vs:=[(0,vI 1),(2,vS g6 1 1)]) rfl kr kr)∘JU ze #[vI 3]) fun w17 g17=>(JU ze #[vI 5]) fun w18 g18=>(Jy (v:= .agg #[vI 5,vI 0,vI 1024,vI 0,vQ 1,.bool true,vQ 3072,vW 0]) (h:=by exact Yl.build (vs:=[(0,vI 5),(2,vI 1024),(4,vQ 1),(5,.bool true),(6,vQ 3072)]) rfl kr kr)∘JU ei_tk #[vI 5,vI 0,vI 1024,vI 0,vQ 1,.bool true,vQ 3072,vW 0]) fun w20 g20=>(Jy (v:= .agg #[vQ 0,vW 0,vQ 3072]) (h:=by exact Yl.build (vs:=[(2,vQ 3072)]) rfl kr kr)∘JU ei_sp #[vQ 0,vW 0,vQ 3072]) fun w22 g22=>(JU ei_rw #[vS g22 1 1]) fun w23 g23=>(Jy (v:= .agg #[vI 1,vQ 0,vS g6 1 1,vS g17 1 1,vS g18 1 1,vS g20 1 1,vS g23 1 1]) (h:=by exact Yl.build (vs:=[(0,.agg #[vI 1,vQ 0,vS g6 1 1]),(1,vS g17 1 1),(2,vS g18 1 1),(3,vS g20 1 1),(4,vS g23 1 1)]) rfl kr kr)∘JA #[vI 0,vQ 0,.slice none 0 0,.slice none 0 0,.slice none 0 0,.slice none 0 0,.slice none 0 0]) fun w4 g4=>(JV si_st O0') fun w3_11=>(Jd6∘Jj) fun a Z I=>?_
 refine wp_seq ?_
 refine Jb Z I ((Vs (.t (.t (.t (.t (.t (.t (.t (.t (.t (.t (.t (.t (.t (.f .n)))))))))))))) [5]) fun wd4=>(Vy 0 (v:= .agg #[vI 1,vQ 0,vS g6 1 1,vS g9 1 1,vS g10 1 1,.slice none 0 0,vS g13 1 1]) (h:=by exact Yl.loadS rfl rfl si_st rfl (fun _ h=>qa (h.blk (i:=6) rfl)))∘Vy 1 (v:= .agg #[vI 1,vI 1,vQ 0,vS g6 1 1,vS g9 1 1,vS g10 1 1,.slice none 0 0,vS g13 1 1]) (h:=by exact Yl.build (vs:=[(0,vI 1),(1,.agg #[vI 1,vQ 0,vS g6 1 1,vS g9 1 1,vS g10 1 1,.slice none 0 0,vS g13 1 1])]) rfl kr kr)∘Vy 2 (v:= .agg #[vI 1,vQ 0,vS g6 1 1,vS g17 1 1,vS g18 1 1,vS g20 1 1,vS g23 1 1]) (h:=by exact Yl.loadS rfl rfl si_st rfl (fun _ h=>qa (h.blk (i:=0) rfl)))∘Vy 3 (v:= .agg #[vI 4,vI 1,vQ 0,vS g6 1 1,vS g17 1 1,vS g18 1 1,vS g20 1 1,vS g23 1 1]) (h:=by exact Yl.build (vs:=[(0,vI 4),(1,.agg #[vI 1,vQ 0,vS g6 1 1,vS g17 1 1,vS g18 1 1,vS g20 1 1,vS g23 1 1])]) rfl kr kr)) fun a Z I HS=>?_)
 refine s_on Z 4 rfl (e_sa Z I 13 rfl rfl rfl rfl rfl qu rfl rfl (by simp [Value.oneCell']) ?_)
 clear I;intro w4_4 I
 refine keepS (I.pk [0,1,2,3,4,5,6,7,8,9,10,11,12]) (fun HS=>?_)
 refine s_on Z 5 rfl (e_sa Z I 12 rfl rfl rfl rfl rfl qu rfl rfl (by simp [Value.oneCell']) ?_)
 clear I;intro w4_5 I
 refine noS kr ?_
 refine qb kr ?_
 refine Jb Z I ((JZ) fun a Z I=>?_)
 exact ret2 rfl Z (.cellS (i:=13) Z I rfl rfl qu rfl) (.cellS (i:=12) Z I rfl rfl qu rfl) (⟨g6,g9,g10,g12,g13,g17,g18,g20,g22,g23,rfl,I.pk [11,10,9,8,7,5,4,3,2,1]⟩)
theorem qrw {a b c d e:Nat} (B:Nat) (w:World) (hL:LaidX B w) (hB:B≤w.heap.size) (hx:StRd w (exA a b c d e).st):Calls Tryz.prog 13 #[.agg (exA a b c d e).cells] w (qc8 w 0 (sealL byA)):=by
 have h:=qdv (exA a b c d e) qpp qhp qkd B w hL hB hx
 rwa [qho,qvi] at h
theorem qvp {a b c d e:Nat} (B:Nat) (w:World) (hL:LaidX B w) (hB:B≤w.heap.size) (hx:StRd w (exA a b c d e).st):Calls Tryz.prog 24 #[.agg (exA a b c d e).cells] w (Is w (.tuple #[.int .i64 15,.int .i64 0])):=by
 have h:=qvn (exA a b c d e) qpp qhp qkd B w hL hB hx
 rwa [qho,qvi] at h
theorem qyf {a b c d e:Nat} (B:Nat) (w:World) (hL:LaidX B w) (hB:B≤w.heap.size) (hx:StRd w (exA a b c d e).st):Calls Tryz.prog 15 #[.agg (exA a b c d e).cells] w (Is w (.tuple #[.int .u32 (qx byA:Int),.int .i64 0])):=by
 have h:=qye (exA a b c d e) qpp qhp qkd B w hL hB hx
 rwa [qho,q1l] at h
theorem qvq {a b c d e f:Nat} (w:World) (hx:StRd w (exB a b c d e f).st):Calls Tryz.prog 14 #[.agg (exB a b c d e f).cells] w (qjn w 0 nuB):=by
 have h:=qfx (exB a b c d e f) qzf qhq qvk w hx
 rwa [qkc,qx9] at h
theorem qvr {a b c d e f:Nat} (w:World) (hx:StRd w (exB a b c d e f).st):Calls Tryz.prog 23 #[.agg (exB a b c d e f).cells] w (qfg 69 w 0 (secsS (exB 0 0 0 0 0 0))):=by
 have h:=qe0 (exB a b c d e f) qzf qhq qvk w hx
 rwa [qkc,qya] at h
theorem qrx {a b c d e:Nat} (w:World) (hx:StRd w (exA a b c d e).st):Calls Tryz.prog 16 #[.agg (exZ a b c d e).cells] w (Is w (.int .i64 330)):=by
 have h:=qbk (exZ a b c d e) qpp qhp qkd w hx
 rwa [q1j] at h
theorem qry {a b c d e:Nat} (w:World) (hx:StRd w (exT a b c d e).st):Calls Tryz.prog 16 #[.agg (exT a b c d e).cells] w (Is w (.int .i64 331)):=by
 have h:=qbk (exT a b c d e) q3g q1m q1n w hx
 rwa [q1k] at h
theorem qrz {a b c d e p q r s t v:Nat} (w:World) (hx:StRd w (exA a b c d e).st) (hz:StRd w (exB p q r s t v).st):Calls Tryz.prog 18 #[.agg (exA a b c d e).cells,.agg (exB p q r s t v).cells] w (Is w (.bool false)):=by
 have h:=qhr (exA a b c d e) (exB p q r s t v) w hx hz qhp qhq
 rwa [decide_eq_false (fun e=>absurd (show (1:Int)=4 from e.1) de)] at h
theorem qr0 {p q r s t v:Nat} (w:World) (hz:StRd w (exB p q r s t v).st):Calls Tryz.prog 18 #[.agg (exB p q r s t v).cells,.agg (exB p q r s t v).cells] w (Is w (.bool true)):=by
 have h:=qhr (exB p q r s t v) (exB p q r s t v) w hz hz qhq qhq
 rwa [decide_eq_true (sn_of rfl (qql _))] at h
theorem qn1 (A:Option Addr) (c:Nat) (B:Nat) (w:World) (hL:LaidX B w) (hB:B≤w.heap.size) (hr:Rd w w.heap.size 1 A 15 ((sealL byA).map B8)) (hc:15≤c):Calls Tryz.prog 17 #[.slice A 15 c] w (Is w (.bool true)):=by
 have h:=qrr A 15 c (sealL byA) B w hL hB hr hc rfl de (qmw de)
 rwa [qmx] at h
theorem qn2 (B:Nat) (w:World) (hL:LaidX B w) (hB:B≤w.heap.size):
    Calls Tryz.prog 11 #[] w (Is w (.bool true)):=by
 refine (JN0 Tryz.func11 124) ?_
 refine (JP∘Jp 1∘Jr∘JL (h:=by exact fun I=>qn0 _)) ?_
 rintro I _ w16 ⟨e6,e9,e10,e12,e13,e17,e18,e20,e22,e23,rfl,hm⟩
 refine ⟨_,rfl,_,I.join hm,?_⟩
 refine (Jp 1∘Jx∘Jx∘JA #[vI 0,vI 0,vQ 0,.slice none 0 0,.slice none 0 0,.slice none 0 0,.slice none 0 0,.slice none 0 0]) fun w1 g1=>(JA #[vI 0,vI 0,vQ 0,.slice none 0 0,.slice none 0 0,.slice none 0 0,.slice none 0 0,.slice none 0 0]) fun w2 g2=>(JV qu O1' (h1:=by exact qgw (exA e6 e9 e10 e12 e13))) fun w1_6=>(JV qu O0' (h1:=by exact qgw (exB e6 e17 e18 e20 e22 e23))) fun w1_7=>(Jr∘Jy (v:= .agg ((exA e6 e9 e10 e12 e13).cells)) (h:=by exact Yl.loadS rfl rfl qu rfl (fun _ h=>qa (h.blk (i:=1) rfl)))∘JK (h:=by exact fun I=>qrw B _ (hL.mem I hB) (I.le hB) (ql3 (I.blk (i:=2) rfl) (I.blk (i:=3) rfl) (I.blk (i:=4) rfl) (I.blk (i:=5) rfl) (I.blk (i:=6) rfl)))) fun A21 c21 w21 hc21=>fun a Z I=>?_
 replace hc21:15≤c21:=hc21
 refine Jb Z I ((Jp 1∘Jx∘Jx∘Jp 2∘Jr∘Jy (v:= .agg ((exA e6 e9 e10 e12 e13).cells)) (h:=by exact Yl.loadS rfl rfl qu rfl (fun _ h=>qa (h.blk (i:=2) rfl)))∘JI (h:=by exact fun I=>qvp B _ (hL.mem I hB) (I.le hB) (ql3 (I.blk (i:=3) rfl) (I.blk (i:=4) rfl) (I.blk (i:=5) rfl) (I.blk (i:=6) rfl) (I.blk (i:=7) rfl)))) fun w26 hbw=>(Jp 1∘Jx∘Jx∘Jp 2∘Jr∘Jy (v:= .agg ((exB e6 e17 e18 e20 e22 e23).cells)) (h:=by exact Yl.loadS rfl rfl qu rfl (fun _ h=>qa (h.blk (i:=1) rfl)))∘JK (h:=by exact fun I=>qvq _ (qpq (I.blk (i:=3) rfl) (I.blk (i:=8) rfl) (I.blk (i:=9) rfl) (I.blk (i:=10) rfl) (I.blk (i:=11) rfl) (I.blk (i:=12) rfl)))) fun A31 c31 w31 hc31=>fun a Z I=>?_)
 replace hc31:16≤c31:=hc31
 refine Jb Z I ((Jp 1∘Jx∘Jx∘Jp 2∘Jr∘Jy (v:= .agg ((exA e6 e9 e10 e12 e13).cells)) (h:=by exact Yl.loadS rfl rfl qu rfl (fun _ h=>qa (h.blk (i:=3) rfl)))∘JI (h:=by exact fun I=>qyf B _ (hL.mem I hB) (I.le hB) (ql3 (I.blk (i:=4) rfl) (I.blk (i:=5) rfl) (I.blk (i:=6) rfl) (I.blk (i:=7) rfl) (I.blk (i:=8) rfl)))) fun w36 hbw=>(Jp 1∘Jx∘Jx∘Jp 2∘Jr∘Jy (v:= .agg ((exB e6 e17 e18 e20 e22 e23).cells)) (h:=by exact Yl.loadS rfl rfl qu rfl (fun _ h=>qa (h.blk (i:=2) rfl)))∘JK (h:=by exact fun I=>qvr _ (qpq (I.blk (i:=4) rfl) (I.blk (i:=9) rfl) (I.blk (i:=10) rfl) (I.blk (i:=11) rfl) (I.blk (i:=12) rfl) (I.blk (i:=13) rfl)))) fun A41 c41 w41 hc41=>fun a Z I=>?_)
 replace hc41:9≤c41:=hc41
 refine Jb Z I ((Jp 1∘Jx∘Jx∘Jp 2∘Jj∘JQ∘JP∘Jv 16 [(59,.slice A21 15 c21),(58,.bool false)]∘Jl∘Jv 4 [(64,.slice A21 15 c21),(63,.bool false)]∘Jy (h:=by exact Yl.qa3 ei_u8 (j:=11) rfl rfl rfl om)∘Jy (h:=by exact Yl.str rfl rfl (fun _ h=>qpr (h.rd (i:=2) rfl)))∘Jp 3) (Ju (fun hb69=>?_) fun hb69=>?_))
 ·
  intro a Z I
  rw [show ((bstr byA).toList==(ByteArray.mk #[113,115,1,1,1,0,1,0,0,0,0]).toList)=true from qzw byA] at hb69;cases hb69
 refine (Jp 1∘JI (h:=by exact fun I=>qn1 A21 c21 B _ (hL.mem I hB) (I.le hB) (I.rd (i:=2) rfl) hc21)) fun w71 hbw=>(Jp 5∘Jy (h:=by exact Yl.qa3 ei_u8 (j:=11) rfl rfl rfl om)∘JI (h:=by exact fun I=>qdu A21 11 c21 byA B _ (hL.mem I hB) (I.le hB) (qpr (I.rd (i:=2) rfl)) rfl de de)) fun w78 hbw=>(Jp 3) (Ju (fun hb81=>?_) fun hb81=>?_)
 ·
  intro a Z I
  have hd81:=bne_iff_ne.1 hb81
  exact absurd rfl hd81
 intro a Z I
 have hd81:=bne_eq_false_iff_eq.1 hb81
 refine Jb Z I ((Jp 1∘JU qat #[vQ 4,vQ 1,vQ 0,vQ 1,vQ 3,vQ 5,vQ 1,vQ 5,vQ 0,vQ 1024,vQ 0,vQ 1,vQ 1,vQ 3072,vQ 0,vQ 3072]) fun w83 g83=>(JI (h:=by exact fun I=>qrv A31 c31 nuB (some ⟨g83,0,none⟩) 16 _ (I.rd (i:=2) rfl) (I.rdBlk (i:=0) (n:=16) (size:=1) rfl rfl) de)) fun w84 hbw=>(Jp 4∘Jl∘Jv 4 [(93,.slice A41 9 c41),(92,.bool false)]) ?_)
 repeat (first|clear Z|clear I)
 intro a Z I
 obtain ⟨gA41,rfl⟩:=qn (I.own (i:=1) rfl) (Nat.lt_of_le_of_lt (Nat.zero_le _) (show 6<9 from by omega))
 refine Jb Z I ((Jy (v:=vP gA41 18) (h:=by exact Yl.indexAddr (ad:=⟨gA41,0,none⟩) (y:=6) (sz:=3) rfl rfl rfl om kr)∘Jy (v:= .agg sec6.cells) (h:=by exact Yl.loadS rfl rfl q3k rfl (fun _ h=>h.qde zx (i:=1) rfl (exS_6)))∘Jo (.agg sec6.cells) (by exact rfl)∘Jy (v:= .agg #[.string (ByteArray.mk #[116,97,115,107,115]),vI 9,vI 20]) (h:=by exact Yl.build (vs:=[(0,.string (ByteArray.mk #[116,97,115,107,115])),(1,vI 9),(2,vI 20)]) rfl kr kr)∘Jo (.agg sec6.cells) (by exact rfl)∘Jy (v:= .bool (!(secEq sec6 sec6))) (h:=by exact Yl.qmd rfl rfl rfl (qtn sec6 sec6))∘Jp 1∘Jd6∘Jq) fun a Z I=>?_)
 replace Z:=Z.to [(98,.bool (!(secEq sec6 sec6))),(2,vP g2 0),(1,vP g1 0),(0,.bool false)]
 refine Jb Z I (Ju (fun hb98=>?_) fun hb98=>?_)
 ·
  intro a Z I
  rw [qqm] at hb98;cases hb98
 refine (JF∘JS'∘JP∘Jy (v:= .agg ((exA e6 e9 e10 e12 e13).cells)) (h:=by exact Yl.loadS rfl rfl qu rfl (fun _ h=>qa (h.blk (i:=5) rfl)))∘JA #[vI 0,vI 0,vQ 0,.slice none 0 0,.slice none 0 0,.slice none 0 0,.slice none 0 0,.slice none 0 0]) fun w13 g13=>(JV qu O0' (h1:=by exact qgw (exA e6 e9 e10 e12 e13))) fun w9_2=>(Jd1∘Jr∘Jf 0) fun a Z I=>?_
 refine fo Z 1 rfl rfl ?_
 refine qb3 Z I (i:=0) rfl rfl rfl rfl kr rfl rfl (by simp [Snm.cells]) ?_
 clear I;intro w10_1 I
 refine Jb Z I ((Jt1∘Jr∘Jy (v:= .agg ((exA e6 e9 e10 e12 e13).cells)) (h:=by exact Yl.loadS rfl rfl qu rfl (fun _ h=>qa (h.blk (i:=6) rfl)))∘JA #[vI 0,vI 0,vQ 0,.slice none 0 0,.slice none 0 0,.slice none 0 0,.slice none 0 0,.slice none 0 0]) fun w14 g14=>(JV qu O0' (h1:=by exact qgw (exA e6 e9 e10 e12 e13))) fun w11_2=>(Jd1∘Jr∘JU ze #[vI 0,vI 0]) fun w102 g102=>(Jf 1∘Jf 3) fun a Z I=>?_)
 refine fo Z 3 rfl rfl ?_
 refine qb3 Z I (i:=1) rfl rfl rfl rfl kr rfl rfl (by simp [Snm.cells]) ?_
 clear I;intro w12_3 I
 exact Jb Z I ((Jt3∘Jr∘Jy (v:= .agg #[vI 0,vI 1,vQ 0,vS e6 1 1,vS e9 1 1,vS e10 1 1,.slice none 0 0,vS e13 1 1]) (h:=by exact Yl.loadS rfl rfl qu rfl (fun _ h=>qa (h.blk (i:=2) rfl)))∘JI (h:=by exact fun I=>qrx (a:=e6) (b:=e9) (c:=e10) (d:=e12) (e:=e13) _ (ql3 (I.blk (i:=9) rfl) (I.blk (i:=10) rfl) (I.blk (i:=11) rfl) (I.blk (i:=12) rfl) (I.blk (i:=13) rfl)))) fun w106 hbw=>(Jv 2 [(108,.bool true)]∘Jy (v:= .agg #[vI 1,vI 1,vQ 0,vS e6 1 1,vS g102 2 2,vS e10 1 1,.slice none 0 0,vS e13 1 1]) (h:=by exact Yl.loadS rfl rfl qu rfl (fun _ h=>qa (h.blk (i:=1) rfl)))∘JI (h:=by exact fun I=>qry (a:=e6) (b:=g102) (c:=e10) (d:=e12) (e:=e13) _ (q3h (I.blk (i:=9) rfl) (I.blk (i:=0) rfl) (I.blk (i:=11) rfl) (I.blk (i:=12) rfl) (I.blk (i:=13) rfl)))) fun w110 hbw=>(Jv 3 [(113,.bool true)]∘Jy (v:= .agg ((exA e6 e9 e10 e12 e13).cells)) (h:=by exact Yl.loadS rfl rfl qu rfl (fun _ h=>qa (h.blk (i:=8) rfl)))∘Jy (v:= .agg ((exB e6 e17 e18 e20 e22 e23).cells)) (h:=by exact Yl.loadS rfl rfl qu rfl (fun _ h=>qa (h.blk (i:=7) rfl)))∘JI (h:=by exact fun I=>qrz _ (ql3 (I.blk (i:=9) rfl) (I.blk (i:=10) rfl) (I.blk (i:=11) rfl) (I.blk (i:=12) rfl) (I.blk (i:=13) rfl)) (qpq (I.blk (i:=9) rfl) (I.blk (i:=14) rfl) (I.blk (i:=15) rfl) (I.blk (i:=16) rfl) (I.blk (i:=17) rfl) (I.blk (i:=18) rfl)))) fun w116 hbw=>(Jp 3∘Jy (v:= .agg ((exB e6 e17 e18 e20 e22 e23).cells)) (h:=by exact Yl.loadS rfl rfl qu rfl (fun _ h=>qa (h.blk (i:=7) rfl)))∘Jy (v:= .agg ((exB e6 e17 e18 e20 e22 e23).cells)) (h:=by exact Yl.loadS rfl rfl qu rfl (fun _ h=>qa (h.blk (i:=7) rfl)))∘JI (h:=by exact fun I=>qr0 _ (qpq (I.blk (i:=9) rfl) (I.blk (i:=14) rfl) (I.blk (i:=15) rfl) (I.blk (i:=16) rfl) (I.blk (i:=17) rfl) (I.blk (i:=18) rfl)))) fun w122 hbw=>(Jp 2∘Jd6∘Jj∘JZ) JY1)
structure En where
 v:Nat
 r:Nat
 w:Nat
abbrev endV:Nat:=18446744073709551615
def En.add (x:En) (d:Nat):En:=
 if endV-x.v≤(d*1048576+x.r)/x.w then ⟨endV,0,x.w⟩ else ⟨x.v+(d*1048576+x.r)/x.w,(d*1048576+x.r)%x.w,x.w⟩
def En.woken (x:En) (floor credit:Nat):En:=if x.v<floor-credit then ⟨floor-credit,0,x.w⟩ else x
def qci (v fr to:Nat):Nat:=if fr≤v then to+min (v-fr) (endV-to) else to-min to (fr-v)
def En.moved (x:En) (fr to:Nat):En:=⟨qci x.v fr to,if qci x.v fr to=endV then 0 else x.r,x.w⟩
def Tk.en (t:Tk):En:=⟨t.v,t.r,t.weight.toNat⟩
def Tk.put (t:Tk) (x:En):Tk:={t with v:=x.v,r:=x.r,weight:=x.w}
def Sta.spEn (s:Sta) (g c:Nat):En:=⟨(s.spot g c).v,(s.spot g c).r,(s.gs.getD g Gr.zero).weight.toNat⟩
structure Op30 where
 kind:Nat
 cpu:Int
 task:Int
 group:Int
 weight:Int
 to:Int
 ticks:Int
 mask:Nat
structure Op30.Ok (x:Op30):Prop where
 kind:x.kind<256
 cpu:I64 x.cpu
 task:I64 x.task
 group:I64 x.group
 weight:I64 x.weight
 to:I64 x.to
 ticks:I64 x.ticks
 mask:x.mask<18446744073709551616
def Sta.setT (s:Sta) (i:Nat) (t:Tk):Sta:={s with ts:=s.ts.set i t}
def Sta.qhx (s:Sta) (g c:Nat) (x:Sp):Sta:={s with sp:=s.sp.set g ((s.sp.getD g []).set c x)}
def Sta.qhy (s:Sta) (g c:Nat) (x:En):Sta:=s.qhx g c {s.spot g c with v:=x.v,r:=x.r}
def Sta.qdf (s:Sta) (c:Int):Bool:=decide (0≤c∧c<s.cpus)
def idOk (id:Int):Bool:=decide (1≤id∧id≤65535)
def qbo (s:Sta) (c:Nat):Nat→Nat→List Nat
 |0,_=>[]
 |f+1,g=>if g=0 then [] else if (memS s g c).isEmpty then g::qbo s c f (s.par g).toNat else []
def zf (s:Sta) (g c:Nat):List Nat:=qbo s c g g
def wake1 (c:Nat) (s:Sta) (g:Nat):Sta:=s.qhy g c ((s.spEn g c).woken (s.spot (s.par g).toNat c).floor s.credit)
def wakeS (s:Sta) (l:List Nat) (c:Nat):Sta:=l.foldl (wake1 c) s
def rise1 (s:Sta) (g c:Nat) (x:Sp):Sp:=if (memS s g c).isEmpty then x else {x with floor:=max x.floor (bestM topM (memS s g c)).v}
def riseS (s:Sta):Sta:={s with sp:=s.sp.mapIdx fun g l=>l.mapIdx fun c x=>rise1 s g c x}
def qdx (s:Sta) (c:Nat):Nat→Nat→Nat
 |0,_=>0
 |f+1,g=>if (memS s g c).isEmpty then 0 else if (bestM topM (memS s g c)).k=0 then (bestM topM (memS s g c)).id else qdx s c f (bestM topM (memS s g c)).id
def z9 (s:Sta) (c:Nat):Nat:=qdx s c s.sp.length 0
def loadS (s:Sta) (c:Nat):Int:=(s.ts.map fun t=>if t.ready&&decide (t.cpu=(c:Int)) then t.weight else (0:Int)).sum
def bitOn (m:Nat) (c:Int):Bool:=decide (m/2^c.toNat%2=1)
abbrev Out30:=Sta×Int×Nat
def qem (s:Sta) (o:Op30):Out30:=
 if s.qdf o.cpu=false then (s,0,300)
 else if idOk o.task=false then (s,0,301)
 else if ¬(0≤o.group∧o.group<s.sp.length) then (s,0,302)
 else if wOk o.weight=false∨o.mask=0∨qdw o.mask s.cpus=true then (s,0,2)
 else if 0≤fidx s.ts o.task then (s,0,303)
 else if bitOn o.mask o.cpu=false then (s,0,305)
 else (wakeS {s with ts:=(s.ts.takeWhile fun t=>decide (t.id≤o.task))++(⟨o.task,o.group,o.weight,o.cpu,o.mask,true,(s.spot o.group.toNat o.cpu.toNat).floor,0⟩::(s.ts.dropWhile fun t=>decide (t.id≤o.task)))} (zf s o.group.toNat o.cpu.toNat) o.cpu.toNat,0,0)
def tkOf (s:Sta) (id:Int):Tk:=s.ts.getD (fidx s.ts id).toNat Tk.zero
def qen (s:Sta) (o:Op30):Out30:=
 if idOk o.task=false then (s,0,301)
 else if fidx s.ts o.task<0 then (s,0,6)
 else if (tkOf s o.task).ready=true then (s,0,304)
 else
  let t:=tkOf s o.task
  (wakeS (s.setT (fidx s.ts o.task).toNat {t.put (t.en.woken (s.spot t.group.toNat t.cpu.toNat).floor s.credit) with ready:=true}) (zf s t.group.toNat t.cpu.toNat) t.cpu.toNat,0,0)
def qby (s:Sta) (o:Op30):Out30:=
 if s.qdf o.cpu=false then (s,0,300)
 else if s.cu.getD o.cpu.toNat 0=0 then (s,0,6)
 else
  let id:=s.cu.getD o.cpu.toNat 0
  let i:=(fidx s.ts id).toNat
  let s1:={s with cu:=s.cu.set o.cpu.toNat 0,ts:=s.ts.set i {s.ts.getD i Tk.zero with ready:=false}}
  (if o.kind=4 then {s1 with ts:=s1.ts.eraseIdx i} else s1,id,0)
def zr (c d:Nat):Nat→Nat→Sta→Sta
 |0,_,s=>s
 |f+1,g,s=>if g=0 then s else zr c d f (s.par g).toNat (s.qhy g c ((s.spEn g c).add d))
def tickS (s:Sta) (o:Op30):Out30:=
 if s.qdf o.cpu=false then (s,0,300)
 else if ¬(1≤o.ticks∧o.ticks≤4294967295) then (s,0,2)
 else if 281474976710656<s.cl.getD o.cpu.toNat 0+o.ticks then (s,0,4)
 else
  let s1:={s with cl:=s.cl.set o.cpu.toNat (s.cl.getD o.cpu.toNat 0+o.ticks)}
  if s.cu.getD o.cpu.toNat 0=0 then (s1,0,0)
  else
   let id:=s.cu.getD o.cpu.toNat 0
   let t:=tkOf s id
   (zr o.cpu.toNat o.ticks.toNat t.group.toNat t.group.toNat (s1.setT (fidx s.ts id).toNat (t.put (t.en.add o.ticks.toNat))),id,0)
def pickS (s:Sta) (o:Op30):Out30:=
 if s.qdf o.cpu=false then (s,0,300)
 else ({s with cu:=s.cu.set o.cpu.toNat (z9 s o.cpu.toNat)},z9 s o.cpu.toNat,0)
def qan (s:Sta) (o:Op30):Out30:=
 if idOk o.task=false then (s,0,301)
 else if wOk o.weight=false then (s,0,2)
 else if fidx s.ts o.task<0 then (s,0,6)
 else (s.setT (fidx s.ts o.task).toNat {tkOf s o.task with r:=0,weight:=o.weight},0,0)
def qbd (s:Sta) (o:Op30):Out30:=
 if ¬(1≤o.group∧o.group<s.sp.length) then (s,0,302)
 else if wOk o.weight=false then (s,0,2)
 else ({s with sp:=s.sp.set o.group.toNat ((s.sp.getD o.group.toNat []).map fun x=>{x with r:=0}),gs:=s.gs.set o.group.toNat {s.gs.getD o.group.toNat Gr.zero with weight:=o.weight}},0,0)
def moveS (s:Sta) (i:Nat) (to:Int):Sta:=
 let t:=s.ts.getD i Tk.zero
 let s1:=s.setT i {t.put (t.en.moved (s.spot t.group.toNat t.cpu.toNat).floor (s.spot t.group.toNat to.toNat).floor) with cpu:=to}
 if t.ready then wakeS s1 (zf s t.group.toNat to.toNat) to.toNat else s1
def qbe (s:Sta) (o:Op30):Out30:=
 if s.qdf o.to=false then (s,0,300)
 else if idOk o.task=false then (s,0,301)
 else if fidx s.ts o.task<0 then (s,0,6)
 else if o.task∈s.cu then (s,0,304)
 else if (tkOf s o.task).cpu=o.to then (s,0,2)
 else if bitOn (tkOf s o.task).mask o.to=false then (s,0,305)
 else (moveS s (fidx s.ts o.task).toNat o.to,0,0)
def busyF (s:Sta) (cpu:Int):Nat→Int×Int
 |0=>(-1,-1)
 |c+1=>if (c:Int)≠cpu∧(busyF s cpu c).2<loadS s c then ((c:Int),loadS s c) else busyF s cpu c
def mayB (s:Sta) (o:Op30) (t:Tk):Bool:=t.ready&& (decide (t.cpu=(busyF s o.cpu s.cpus.toNat).1)&& (bitOn t.mask o.cpu&& (decide (s.cu.getD t.cpu.toNat 0≠t.id)&&decide (2*t.weight≤(busyF s o.cpu s.cpus.toNat).2-loadS s o.cpu.toNat))))
def bestF (s:Sta) (o:Op30):Nat→Option Nat
 |0=>none
 | n + 1 => if mayB s o (s.ts.getD n Tk.zero) then match bestF s o n with
   |none=>some n
   |some b=>if (s.ts.getD b Tk.zero).weight<(s.ts.getD n Tk.zero).weight then some n else some b
  else bestF s o n
def qao (s:Sta) (o:Op30):Out30:=
 if s.qdf o.cpu=false then (s,0,300)
 else match bestF s o s.ts.length with
  |none=>(s,0,6)
  |some b=>(moveS s b o.cpu,(s.ts.getD b Tk.zero).id,0)
def stepS (s:Sta) (o:Op30):Out30:=
 match o.kind with
 |1=>qem s o
 |2=>qen s o
 |3=>qby s o
 |4=>qby s o
 |5=>tickS s o
 |6=>pickS s o
 |7=>qan s o
 |8=>qbd s o
 |9=>qbe s o
 |10=>qao s o
 |_=>(s,0,2)
def doS (s:Sta) (o:Op30):Out30:=if (stepS s o).2.2≠0 then (s,0,(stepS s o).2.2) else (riseS (stepS s o).1,(stepS s o).2.1,0)
def newS (cpus:Int) (credit:Nat) (gs:List Gr):Sta:=⟨cpus,credit,gs,List.replicate cpus.toNat 0,List.replicate cpus.toNat 0,[],List.replicate gs.length (List.replicate cpus.toNat Sp.zero)⟩
def fG (A:Option Addr) (n c:Nat) (l:List Gr):Fact:= .row (.slice A n c) n (l.flatMap grL) 110 2
def fI (A:Option Addr) (n c:Nat) (l:List Int):Fact:= .row (.slice A n c) n (l.map I64i) 3 1
def fT (A:Option Addr) (n c:Nat) (l:List Tk):Fact:= .row (.slice A n c) n (l.flatMap tkL) 61 8
def fS (A:Option Addr) (n c:Nat) (l:List Rw):Fact:= .row (.slice A n c) n (l.map Rw.val) 64 1
def fR (q:List Rw):List Fact:=rwF 63 q
def fM (gm:Nat) (cp:Int) (cr:Nat) (gA:Option Addr) (ng gc:Nat) (lA:Option Addr) (nl lc:Nat) (uA:Option Addr) (nu uc:Nat) (tA:Option Addr) (nt tc:Nat) (sA:Option Addr) (ns sc:Nat):Fact:=
 .blk gm #[.int .i64 cp,.int .u64 (cr:Int),.slice gA ng gc,.slice lA nl lc,.slice uA nu uc,.slice tA nt tc,.slice sA ns sc,.bool true] 138
def mdA (gm:Nat) (x:Stm) (ng nl nu nt ns:Nat):List Fact:=fM gm x.cpus x.credit x.gA ng x.gc x.lA nl x.lc x.uA nu x.uc x.tA nt x.tc x.sA ns x.sc::fG x.gA ng x.gc x.gs::fI x.lA nl x.lc x.cl::fI x.uA nu x.uc x.cu::fT x.tA nt x.tc x.ts::fS x.sA ns x.sc x.rs::fR x.rs
structure Lns (x:Stm) (ng nl nu nt ns:Nat):Prop where
 g:x.gs.length=ng
 l:x.cl.length=nl
 u:x.cu.length=nu
 t:x.ts.length=nt
 s:x.rs.length=ns
structure MdOk (x:Stm) (ng nl nu nt ns:Nat):Prop where
 ok:x.sta.Ok
 few:StFew x
 sh:ShAt x
 ln:Lns x ng nl nu nt ns
section
variable {W w w':World} {F A T fs:List Fact} {x:Stm} {ng nl nu nt ns gm g c n:Nat}
theorem qy5:mdA gm x x.gs.length x.cl.length x.cu.length x.ts.length x.rs.length=fM gm x.cpus x.credit x.gA x.gs.length x.gc x.lA x.cl.length x.lc x.uA x.cu.length x.uc x.tA x.ts.length x.tc x.sA x.rs.length x.sc::stF x:=rfl
theorem Mem.mdRd (n:Nat) (h:Mem W w F) (he:F.drop n=mdA gm x ng nl nu nt ns++T) (hl:Lns x ng nl nu nt ns):StRd w x:=by
 obtain ⟨rfl,rfl,rfl,rfl,rfl⟩:=hl
 exact h.stL (T:=T) (n+1) (by rw [←List.drop_drop,he,qy5];rfl)
theorem Mem.mdBlk (n:Nat) (h:Mem W w F) (he:F.drop n=mdA gm x ng nl nu nt ns++T) (hl:Lns x ng nl nu nt ns):w.heap[gm]?=some (.cells #[.int .i64 x.cpus,.int .u64 (x.credit:Int),.slice x.gA x.gs.length x.gc,.slice x.lA x.cl.length x.lc,.slice x.uA x.cu.length x.uc,.slice x.tA x.ts.length x.tc,.slice x.sA x.rs.length x.sc,.bool true] 138 (0,0)):=by
 obtain ⟨rfl,rfl,rfl,rfl,rfl⟩:=hl
 have h1:fM gm x.cpus x.credit x.gA x.gs.length x.gc x.lA x.cl.length x.lc x.uA x.cu.length x.uc x.tA x.ts.length x.tc x.sA x.rs.length x.sc∈F:=List.mem_of_mem_drop (by rw [he,qy5];exact List.mem_cons_self ..)
 exact (h.holds _ h1).2
theorem Mem.front (n:Nat) (h:Mem W w F) (he:F.drop n=A++T):Mem W w (A++(F.take n++T)):=by
 have h2:Mem W w (F.take n++(A++T)):=by rw [←he,List.take_append_drop];exact h
 exact h2.perm (List.perm_append_comm_assoc ..)
theorem Mem.back (h:Mem W w (A++(F++T))):Mem W w (F++(A++T)):=h.perm (List.perm_append_comm_assoc ..)
end
def rsPut (rs:List Rw) (g c:Nat) (z:Sp):List Rw:=rs.set g {rs.getD g Rw.zero with l:=(rs.getD g Rw.zero).l.set c z}
theorem qt (rs:List Rw) (g c:Nat) (z:Sp):(rsPut rs g c z).length=rs.length:=List.length_set ..
theorem qi {α:Type} {l:List α} {k:Nat} (d x:α) (h:k<l.length):(l.set k x).getD k d=x:=by
 rw [List.getD_eq_getElem?_getD,List.getElem?_set_self h];rfl
theorem getD_set_ne {α:Type} {l:List α} {j k:Nat} (d x:α) (h:k≠j):(l.set k x).getD j d=l.getD j d:=by
 rw [List.getD_eq_getElem?_getD,List.getElem?_set_ne h,List.getD_eq_getElem?_getD]
theorem qg2 {α:Type} {l:List α} {k:Nat} (d:α) (h:k<l.length):l.set k (l.getD k d)=l:=by
 rw [List.getD_eq_getElem?_getD,List.getElem?_eq_getElem h]
 exact List.set_getElem_self h
theorem qtp {rs:List Rw} {g c:Nat} {z:Sp} (hg:g<rs.length):(rsPut rs g c z).map Rw.val=rs.map Rw.val:=by
 unfold rsPut
 rw [List.map_set]
 have h2:(rs.map Rw.val).getD g (Rw.val Rw.zero)=(rs.getD g Rw.zero).val:=by
  rw [List.getD_eq_getElem?_getD,List.getElem?_map,List.getD_eq_getElem?_getD,List.getElem?_eq_getElem hg]
  rfl
 have h1:Rw.val {rs.getD g Rw.zero with l:=(rs.getD g Rw.zero).l.set c z}=(rs.map Rw.val).getD g (Rw.val Rw.zero):=by
  rw [h2]
  show Value.slice _ _ _=Value.slice _ _ _
  rw [List.length_set]
 rw [h1]
 exact qg2 _ (by rwa [List.length_map])
theorem q0o {rs:List Rw} {g c:Nat} {z:Sp} (hg:g<rs.length):(rsPut rs g c z).map Rw.l=(rs.map Rw.l).set g (((rs.map Rw.l).getD g []).set c z):=by
 unfold rsPut
 rw [List.map_set]
 congr 1
 show (rs.getD g Rw.zero).l.set c z=_
 rw [qbj hg]
theorem qdp {rs:List Rw} {g c:Nat} {z:Sp} (hg:g<rs.length):(rsPut rs g c z).getD g Rw.zero={rs.getD g Rw.zero with l:=(rs.getD g Rw.zero).l.set c z}:=qi _ _ hg
theorem qev {rs:List Rw} {g h c:Nat} {z:Sp} (hn:g≠h):(rsPut rs g c z).getD h Rw.zero=rs.getD h Rw.zero:=getD_set_ne _ _ hn
theorem qew {rs:List Rw} {g c:Nat} {z y:Sp} (hg:g<rs.length):rsPut (rsPut rs g c z) g c y=rsPut rs g c y:=by
 unfold rsPut
 rw [qi _ _ hg,List.set_set]
 simp only [List.set_set]
section
variable {W w w':World} {F A T fs:List Fact} {rs:List Rw} {n g c:Nat}
theorem Mem.q13 (n:Nat) (he:F.drop n=fR rs++T) (hg:g<rs.length):F[n+g]?=some (.row (.slice (rs.getD g Rw.zero).A (rs.getD g Rw.zero).l.length (rs.getD g Rw.zero).c) (rs.getD g Rw.zero).l.length ((rs.getD g Rw.zero).l.flatMap spL) 63 3):=by
 have h1:F[n+g]?=(F.drop n)[g]?:=by rw [List.getElem?_drop]
 have hl:(fR rs).length=rs.length:=by unfold fR rwF ownsF;rw [List.length_map,List.length_map]
 rw [h1,he,List.getElem?_append_left om]
 unfold fR rwF ownsF
 rw [List.getElem?_map,List.getElem?_map,List.getElem?_eq_getElem hg,List.getD_eq_getElem?_getD,List.getElem?_eq_getElem hg]
 rfl
theorem Mem.rwSome {yA:Option Addr} {yc:Nat} {yl:List Sp} (n:Nat) (h:Mem W w F) (he:F.drop n=fR rs++T) (hg:g<rs.length) (hy:rs.getD g Rw.zero=⟨yA,yc,yl⟩) (h0:0<yl.length):∃gy,yA=some ⟨gy,0,none⟩:=by
 have h1:=Mem.q13 n he hg
 rw [hy] at h1
 exact qn (h.own h1) h0
theorem Mem.qb1 {yc gy c j:Nat} {yl:List Sp} {z:Sp} {v:Value} (n:Nat) (h:Mem W w F) (he:F.drop n=fR rs++T) (hg:g<rs.length) (hy:rs.getD g Rw.zero=⟨some ⟨gy,0,none⟩,yc,yl⟩) (hz:yl[c]?=some z) (hv:(spL z)[j]?=some v):w.cell? ⟨gy,c*3+j,none⟩=some v:=by
 have h1:=Mem.q13 n he hg
 rw [hy] at h1
 exact h.qp qcu h1 hz hv
theorem Mem.rdT {A:Option Addr} {m k size:Nat} {xs:List Value} {e:TypeId} (n:Nat) (h:Mem W w F) (he:F.drop n=fR rs++T) (hT: .row (.slice A m k) m xs e size∈T):Rd w w.heap.size size A m xs:=
 h.rdMem (List.mem_of_mem_drop (i:=n) (by rw [he];exact List.mem_append_right _ hT))
theorem q20 {r:Rw}:(fR rs).set g (.row (.slice r.A r.l.length r.c) r.l.length (r.l.flatMap spL) 63 3)=fR (rs.set g r):=by
 unfold fR rwF ownsF
 rw [List.map_set,List.map_set]
 rfl
variable {P:Program} {Q:Exit→Act→World→Prop} {a:Act} {N d:Nat} {D:List Deferred} {σ:List (Nat×Value)} {o:Oper} {v:Value} {K:Act→World→Prop}
theorem qar (Z:Fr a N D σ) (I:Mem W w F) (n:Nat) {sA:Option Addr} {ns sc yc gy off:Nat} {yl:List Sp} {t:TypeId} {x y:Operand} (j:Nat) {z:Sp} (z':Sp) (hop:o.op= .store t x y) (hd:o.dst=none) (hx:look σ x=some (.pointer (some ⟨gy,off,none⟩))) (hv:look σ y=some v) (hs:(P.info? t).map (·.size)=some 1) (h1:v.oneCell'=true)
  (he:F.drop n=fS sA ns sc rs::(fR rs++T)) (hg:g<rs.length) (hy:rs.getD g Rw.zero=⟨some ⟨gy,0,none⟩,yc,yl⟩) (hz:yl[c]?=some z) (ho:off=c*3+j) (hj:j<3) (hz':spL z'=(spL z).set j v)
  (k:∀w',Mem W w' (F.take n++(fS sA ns sc (rsPut rs g c z')::(fR (rsPut rs g c z')++T)))→K a w'):o.wp P a w K Q:=by
 subst ho
 have hi:=Mem.q13 (F:=F) (T:=T) (g:=g) (n+1) (by rw [←List.drop_drop,he];rfl) hg
 rw [hy] at hi
 have hcl:c<yl.length:=(List.getElem?_eq_some_iff.1 hz).1
 refine q4 Z I hop hd hx hv hs h1 hi (by rw [zt spL 3 qcu];show c*3+j<yl.length*3;omega) fun w' I=>k w' ?_
 rw [zu spL 3 qcu yl c z z' hz j hj v hz'] at I
 have h2:F=F.take n++(fS sA ns sc rs::(fR rs++T)):=by rw [←he,List.take_append_drop]
 have hn:(F.take n).length=n:=by
  have h3:=congrArg List.length he
  rw [List.length_drop,List.length_cons] at h3
  rw [List.length_take];omega
 have h4:F.set (n+1+g) (.row (.slice (some ⟨gy,0,none⟩) yl.length yc) yl.length ((yl.set c z').flatMap spL) 63 3)=F.take n++(fS sA ns sc rs::((fR rs).set g (.row (.slice (some ⟨gy,0,none⟩) yl.length yc) yl.length ((yl.set c z').flatMap spL) 63 3)++T)):=by
  conv=>lhs;rw [h2]
  rw [List.set_append,if_neg (by rw [hn];omega),hn,show n+1+g-n=g+1 by omega,List.set_cons_succ,List.set_append,if_pos (by unfold fR rwF ownsF;rw [List.length_map,List.length_map];exact hg)]
 have h5:rsPut rs g c z'=rs.set g ⟨some ⟨gy,0,none⟩,yc,yl.set c z'⟩:=by unfold rsPut;rw [hy]
 have h6:=q20 (rs:=rs) (g:=g) (r:=⟨some ⟨gy,0,none⟩,yc,yl.set c z'⟩)
 simp only [List.length_set] at h6
 rw [h4,h6,←h5] at I
 unfold fS at I⊢
 rw [qtp hg]
 exact I
end
section
variable {P:Program} {W w:World} {fs:List Fact} {f:Nat} {fn:Func} {c:Code} {R:Ending→World→Prop} {u1 u2 u3 u4:Value}
theorem Jin1 (I:Mem W w fs) (hf:P.funcs[f]?=some fn) (N:Nat) (hn:fn.ntmps=N:=by exact rfl) (hb:fn.body=some c:=by exact rfl) (hl:decide (1≤N)=true:=by kernel_rfl) (k:JJ W w N [] [(0,u1)] fs (Code.wp P c (bodyPost P fn R))):Calls P f #[u1] w R:=
 zj (vs:=[u1]) hf hb hn hl rfl fun a Z=>k a Z I
theorem Jin2 (I:Mem W w fs) (hf:P.funcs[f]?=some fn) (N:Nat) (hn:fn.ntmps=N:=by exact rfl) (hb:fn.body=some c:=by exact rfl) (hl:decide (2≤N)=true:=by kernel_rfl) (k:JJ W w N [] [(0,u1),(1,u2)] fs (Code.wp P c (bodyPost P fn R))):Calls P f #[u1,u2] w R:=
 zj (vs:=[u1,u2]) hf hb hn hl rfl fun a Z=>k a Z I
theorem Jin3 (I:Mem W w fs) (hf:P.funcs[f]?=some fn) (N:Nat) (hn:fn.ntmps=N:=by exact rfl) (hb:fn.body=some c:=by exact rfl) (hl:decide (3≤N)=true:=by kernel_rfl) (k:JJ W w N [] [(0,u1),(1,u2),(2,u3)] fs (Code.wp P c (bodyPost P fn R))):Calls P f #[u1,u2,u3] w R:=
 zj (vs:=[u1,u2,u3]) hf hb hn hl rfl fun a Z=>k a Z I
end
def En.cells (x:En):Array Value:= #[.int .u64 (x.v:Int),.int .u32 (x.r:Int),.int .u32 (x.w:Int)]
theorem zk (x:En):∀v∈x.cells.toList,v.oneCell'=true:=by simp [En.cells,Value.oneCell']
def En.Ok (x:En):Prop:=entOk x.v x.r x.w=true∧x.v<18446744073709551616
def Op30.cells (x:Op30):Array Value:= #[.int .u8 (x.kind:Int),.int .i64 x.cpu,.int .i64 x.task,.int .i64 x.group,.int .i64 x.weight,.int .i64 x.to,.int .i64 x.ticks,.int .u64 (x.mask:Int)]
theorem qy6 (x:Op30):∀v∈x.cells.toList,v.oneCell'=true:=by simp [Op30.cells,Value.oneCell']
theorem si_op:SI Tryz.prog 98 8:=⟨by kernel_rfl,by kernel_rfl⟩
theorem ei_op:EI Tryz.prog 95 98 (.agg #[.int .u8 0,.int .i64 0,.int .i64 0,.int .i64 0,.int .i64 0,.int .i64 0,.int .i64 0,.int .u64 0]) 8 64:=⟨by kernel_rfl,by kernel_rfl,rfl,by omega⟩
section
variable {W w:World} {F T:List Fact} {x:Stm} {ng nl nu nt ns gm g c n:Nat}
theorem MdOk.sort (h:MdOk x ng nl nu nt ns):SortT x.ts:=qs5 h.sh
theorem qex (n:Nat) (I:Mem W w F) (he:F.drop n=mdA gm x ng nl nu nt ns++T) (hx:MdOk x ng nl nu nt ns) (id:Int):Calls Tryz.prog 83 #[.pointer (some ⟨gm,0,none⟩),.int .i64 id] w (Is w (.int .i64 (fidx x.ts id))):=
 qk5 x gm id hx.sort w (I.mdBlk n he hx.ln) (I.mdRd n he hx.ln).t hx.few.t
theorem qwy (n:Nat) (I:Mem W w F) (he:F.drop n=mdA gm x ng nl nu nt ns++T) (hx:MdOk x ng nl nu nt ns) (hc:(c:Int)<x.cpus) (hg:g<ns):Calls Tryz.prog 84 #[.pointer (some ⟨gm,0,none⟩),.int .i64 (g:Int),.int .i64 (c:Int)] w (Is w (.tuple #[.agg (bestM topM (memS x.sta g c)).cells,.bool (!(memS x.sta g c).isEmpty)])):=
 qes x hx.ok hx.few hx.sh gm c hc _ g (Nat.le_refl _) (by rw [hx.ln.s];exact hg) w (I.mdRd n he hx.ln) (I.mdBlk n he hx.ln)
end
theorem lapp {α:Type} {a b:List α} {n:Nat} (h:b.length=n):a.length+n=(a++b).length:=by rw [List.length_append,h]
section
variable {s:Sta} {c g:Nat}
theorem qna {f:Nat} (hp:∀i,0<i→i≤g→ParB s.gs i) (h:g≤f):qbo s c f g=qbo s c g g:=by
 have key:∀(g f f':Nat),(∀i,0<i→i≤g→ParB s.gs i)→g≤f→g≤f'→qbo s c f g=qbo s c f' g:=by
  intro g
  induction g using Nat.strongRecOn with
  | _ g ih =>
   intro f f' hp h1 h2
   by_cases h0:g=0
   ·subst h0
    cases f<;>cases f'<;>simp [qbo]
   ·obtain ⟨f,rfl⟩:∃k,f=k+1:=⟨f-1,by omega⟩
    obtain ⟨f',rfl⟩:∃k,f'=k+1:=⟨f'-1,by omega⟩
    have hg:=hp g om (Nat.le_refl _)
    unfold ParB at hg
    simp only [qbo,if_neg h0]
    have e:(s.par g).toNat<g:=by show (s.gs.getD g Gr.zero).parent.toNat<g;omega
    rw [ih (s.par g).toNat e f f' (fun i hi hl=>hp i hi om) om om]
 exact key g f g hp h (Nat.le_refl _)
theorem qg3 (hp:∀i,0<i→i≤g→ParB s.gs i) (h0:0<g) (hm:memS s g c=[]):zf s g c=g::zf s (s.gs.getD g Gr.zero).parent.toNat c:=by
 obtain ⟨k,rfl⟩:∃k,g=k+1:=⟨g-1,by omega⟩
 have hg:=hp (k+1) h0 (Nat.le_refl _)
 unfold ParB at hg
 show qbo s c (k+1) (k+1)=_
 rw [qbo,if_neg om,if_pos (by rw [hm];rfl)]
 show (k+1)::qbo s c k (s.gs.getD (k+1) Gr.zero).parent.toNat=_
 rw [qna (fun i hi hl=>hp i hi om) om]
 rfl
theorem qnb:zf s 0 c=[]:=rfl
theorem qg4 (hm:memS s g c≠[]):zf s g c=[]:=by
 cases g with
 |zero=>rfl
 |succ k=>
  show qbo s c (k+1) (k+1)=_
  rw [qbo,if_neg om,if_neg (by simpa using hm)]
theorem qii (hp:∀i,0<i→i≤g→ParB s.gs i):∀h∈zf s g c,0<h∧h≤g∧memS s h c=[]:=by
 induction g using Nat.strongRecOn with
 | _ g ih =>
  intro h hh
  rcases Nat.eq_zero_or_pos g with h0|h0
  ·subst h0;cases hh
  ·by_cases hm:memS s g c=[]
   ·rw [qg3 hp h0 hm] at hh
    have hg:=hp g h0 (Nat.le_refl _)
    unfold ParB at hg
    rcases List.mem_cons.1 hh with rfl|hh
    ·exact ⟨h0,Nat.le_refl _,hm⟩
    ·have:=ih (s.gs.getD g Gr.zero).parent.toNat om (fun i hi hl=>hp i hi om) h hh
     exact ⟨this.1,by omega,this.2.2⟩
   ·rw [qg4 hm] at hh;cases hh
theorem qox:∀(l:List Mb) (b:Mb),bestM b l=b∨bestM b l∈l
 |[],b=> .inl rfl
 | m :: r, b => by
  show bestM (if m.lt b then m else b) r=b∨bestM (if m.lt b then m else b) r∈m::r
  rcases qox r (if m.lt b then m else b) with h|h
  ·rw [h]
   split
   ·exact .inr (List.mem_cons_self ..)
   ·exact .inl rfl
  ·exact .inr (List.mem_cons_of_mem _ h)
theorem qwz {l:List Mb} (hn:l≠[]) (ht:∀m∈l,m.lt topM=true):bestM topM l∈l:=by
 cases l with
 |nil=>exact absurd rfl hn
 |cons m r=>
  show bestM (if m.lt topM then m else topM) r∈m::r
  rw [if_pos (ht m (List.mem_cons_self ..))]
  rcases qox r m with h|h
  ·rw [h];exact List.mem_cons_self ..
  ·exact List.mem_cons_of_mem _ h
theorem qdq {m:Mb} (hm:m∈memS s g c):(∃t∈s.ts,t.here g c=true∧m=⟨t.v,0,t.id.toNat⟩)∨(∃h,g<h∧h<s.sp.length∧s.par h=g∧memS s h c≠[]∧m=⟨(s.spot h c).v,1,h⟩):=by
 rw [qjb] at hm
 rcases List.mem_append.1 hm with h|h
 ·obtain ⟨t,ht,h1⟩:=List.mem_filterMap.1 h
  unfold tkM at h1
  split at h1
  ·rename_i hh;injection h1 with h1;exact .inl ⟨t,ht,hh,h1.symm⟩
  ·cases h1
 ·obtain ⟨k,hk,h1⟩:=List.mem_filterMap.1 h
  unfold grpM at h1
  split at h1
  ·rename_i hh
   injection h1 with h1
   obtain ⟨i,hi,hik⟩:=List.getElem_of_mem hk
   rw [List.getElem_drop,List.getElem_range] at hik
   have hlen:i<s.sp.length- (g+1):=by simpa using hi
   exact .inr ⟨k,by omega,by omega,hh.1,hh.2,h1.symm⟩
  ·cases h1
theorem qcx (hok:s.Ok) (g c:Nat):(s.spot g c).Ok:=by
 unfold Sta.spot
 rcases Nat.lt_or_ge g s.sp.length with h|h
 ·rcases Nat.lt_or_ge c (s.sp.getD g []).length with h2|h2
  ·exact hok.sp _ (qd [] h) _ (qd Sp.zero h2)
  ·rw [List.getD_eq_getElem?_getD (l:=s.sp.getD g []),List.getElem?_eq_none h2]
   exact ⟨by decide,by decide,by decide⟩
 ·rw [List.getD_eq_getElem?_getD (l:=s.sp),List.getElem?_eq_none h]
  have e:(Option.none.getD ([]:List Sp)).getD c Sp.zero=Sp.zero:=rfl
  rw [e]
  exact ⟨by decide,by decide,by decide⟩
theorem qw0 (hok:s.Ok):∀m∈memS s g c,m.lt topM=true:=by
 intro m hm
 unfold Mb.lt
 rw [decide_eq_true_eq]
 show m.v<18446744073709551615∨m.v=18446744073709551615∧(m.k<18446744073709551615∨_)
 rcases qdq hm with ⟨t,ht,_,rfl⟩|⟨h,_,_,_,_,rfl⟩
 ·have:=(hok.ts t ht).v
  show t.v<_∨t.v=_∧(0<_∨_)
  omega
 ·have:=(qcx hok h c).v
  show (s.spot h c).v<_∨(s.spot h c).v=_∧(1<_∨_)
  omega
theorem qnc (hok:s.Ok) (hn:memS s g c≠[]):bestM topM (memS s g c)∈memS s g c:=qwz hn (qw0 hok)
theorem qdr (hok:s.Ok) (hn:memS s g c≠[]):((bestM topM (memS s g c)).k=0∧∃t∈s.ts,t.here g c=true∧bestM topM (memS s g c)=⟨t.v,0,t.id.toNat⟩)∨((bestM topM (memS s g c)).k=1∧∃h,(bestM topM (memS s g c)).id=h∧g<h∧h<s.sp.length∧s.par h=g∧memS s h c≠[]∧(bestM topM (memS s g c)).v=(s.spot h c).v):=by
 rcases qdq (qnc hok hn) with ⟨t,ht,h1,h2⟩|⟨h,h1,h2,h3,h4,h5⟩
 ·exact .inl ⟨by rw [h2],t,ht,h1,h2⟩
 ·exact .inr ⟨by rw [h5],h,by rw [h5],h1,h2,h3,h4,by rw [h5]⟩
theorem qnd (hok:s.Ok):∀(n f f' g:Nat),g<s.sp.length→s.sp.length-g≤n→n≤f→n≤f'→qdx s c f g=qdx s c f' g:=by
 intro n
 induction n with
 |zero=>intro f f' g hg hn;omega
 | succ n ih =>
  intro f f' g hg hn h1 h2
  obtain ⟨f,rfl⟩:∃k,f=k+1:=⟨f-1,by omega⟩
  obtain ⟨f',rfl⟩:∃k,f'=k+1:=⟨f'-1,by omega⟩
  rw [qdx,qdx]
  by_cases hm:memS s g c=[]
  ·rw [if_pos (by rw [hm];rfl),if_pos (by rw [hm];rfl)]
  ·have hi:¬((memS s g c).isEmpty=true):=by simpa using hm
   rw [if_neg hi,if_neg hi]
   rcases qdr hok hm with ⟨h,_⟩|⟨h,k,h3,h4,h5,_⟩
   ·rw [if_pos h,if_pos h]
   ·rw [if_neg om,if_neg om,h3]
    exact ih f f' k h5 om om om
def qdb (s:Sta) (c g:Nat):Nat:=qdx s c (s.sp.length-g) g
theorem qtq:z9 s c=qdb s c 0:=rfl
theorem qg5 (hg:g<s.sp.length) (hm:memS s g c=[]):qdb s c g=0:=by
 unfold qdb
 obtain ⟨k,hk⟩:∃k,s.sp.length-g=k+1:=⟨s.sp.length-g-1,by omega⟩
 rw [hk,qdx,if_pos (by rw [hm];rfl)]
theorem qg6 (hg:g<s.sp.length) (hm:memS s g c≠[]) (h0:(bestM topM (memS s g c)).k=0):qdb s c g=(bestM topM (memS s g c)).id:=by
 unfold qdb
 obtain ⟨k,hk⟩:∃k,s.sp.length-g=k+1:=⟨s.sp.length-g-1,by omega⟩
 rw [hk,qdx,if_neg (by simpa using hm),if_pos h0]
theorem qg7 (hok:s.Ok) (hg:g<s.sp.length) (hm:memS s g c≠[]) (h0:(bestM topM (memS s g c)).k≠0):qdb s c g=qdb s c (bestM topM (memS s g c)).id∧g<(bestM topM (memS s g c)).id∧(bestM topM (memS s g c)).id<s.sp.length:=by
 rcases qdr hok hm with ⟨h,_⟩|⟨h,j,h3,h4,h5,_⟩
 ·exact absurd h h0
 ·rw [h3]
  refine ⟨?_,h4,h5⟩
  unfold qdb
  obtain ⟨k,hk⟩:∃k,s.sp.length-g=k+1:=⟨s.sp.length-g-1,by omega⟩
  rw [hk,qdx,if_neg (by simpa using hm),if_neg h0,h3]
  exact qnd hok (s.sp.length-j) _ _ j h5 (Nat.le_refl _) om (Nat.le_refl _)
def loadN (l:List Tk) (c:Nat):Int:=(l.map fun t=>if t.ready&&decide (t.cpu=(c:Int)) then t.weight else (0:Int)).sum
theorem qqn {l:List Tk} {k:Nat} (h:k<l.length):loadN (l.take (k+1)) c=loadN (l.take k) c+(if (l.getD k Tk.zero).ready&&decide ((l.getD k Tk.zero).cpu=(c:Int)) then (l.getD k Tk.zero).weight else (0:Int)):=by
 unfold loadN
 rw [qeq Tk.zero h,List.map_append,List.sum_append]
 simp
theorem qg8 {l:List Tk} (hw:∀t∈l,1≤t.weight∧t.weight≤65536):0≤loadN l c∧loadN l c≤65536*l.length:=by
 induction l with
 |nil=>exact ⟨Int.le_refl _,Int.le_refl _⟩
 |cons t r ih=>
  have h1:=ih fun x hx=>hw x (List.mem_cons_of_mem _ hx)
  have h2:=hw t (List.mem_cons_self ..)
  have e:loadN (t::r) c=(if t.ready&&decide (t.cpu=(c:Int)) then t.weight else (0:Int))+loadN r c:=rfl
  rw [e,List.length_cons]
  split<;>omega
theorem qij {l:List Tk} (hw:∀t∈l,1≤t.weight∧t.weight≤65536) (k:Nat):0≤loadN (l.take k) c∧loadN (l.take k) c≤65536*l.length:=by
 have h1:=qg8 (c:=c) (l:=l.take k) fun t ht=>hw t (List.mem_of_mem_take ht)
 rw [List.length_take] at h1
 have:min k l.length≤l.length:=Nat.min_le_right ..
 omega
theorem qqo {l:List Nat} {k:Nat} (h:k<l.length):wakeS s (l.take (k+1)) c=wake1 c (wakeS s (l.take k) c) (l.getD k 0):=by
 unfold wakeS
 rw [qeq 0 h,List.foldl_append]
 rfl
end
def SpsOk (gs:List Gr) (cp:Int) (rs:List Rw):Prop:=∀g,g<rs.length→((rs.getD g Rw.zero).l.length:Int)=cp∧∀z∈(rs.getD g Rw.zero).l,z.Ok∧entOk z.v z.r (gs.getD g Gr.zero).weight=true
section
variable {x:Stm} {ng nl nu nt ns g c:Nat}
theorem MdOk.spots (h:MdOk x ng nl nu nt ns):SpsOk x.gs x.cpus x.rs:=fun g hg=>by
 have h1:=qgs hg (h.sh.row g hg)
 refine ⟨h1.1,fun z hz=>?_⟩
 obtain ⟨c,hc,rfl⟩:=List.getElem_of_mem hz
 have e:(x.rs.getD g Rw.zero).l.getD c Sp.zero=(x.rs.getD g Rw.zero).l[c]:=by rw [List.getD_eq_getElem?_getD,List.getElem?_eq_getElem hc];rfl
 refine ⟨h.ok.sp _ (by rw [←rs_at hg];exact qd [] (by rw [zh];exact hg)) _ (List.getElem_mem hc),?_⟩
 have h2:=h1.2 c hc
 rw [e] at h2
 unfold spOk at h2
 rw [Bool.and_eq_true] at h2
 exact h2.1
theorem SpsOk.put {gs:List Gr} {cp:Int} {rs:List Rw} (h:SpsOk gs cp rs) (z:Sp) (hz:z.Ok) (he:entOk z.v z.r (gs.getD g Gr.zero).weight=true):SpsOk gs cp (rsPut rs g c z):=fun k hk=>by
 rw [qt] at hk
 by_cases hg:g=k
 ·subst hg
  rw [qdp hk]
  refine ⟨by show (((rs.getD g Rw.zero).l.set c z).length:Int)=cp;rw [List.length_set];exact (h g hk).1,fun y hy=>?_⟩
  rcases List.mem_or_eq_of_mem_set hy with h1|rfl
  ·exact (h g hk).2 y h1
  ·exact ⟨hz,he⟩
 ·rw [qev hg];exact h k hk
theorem qne {z:Sp} (hg:g<x.rs.length):({x with rs:=rsPut x.rs g c z}:Stm).sta=x.sta.qhx g c z:=by
 unfold Stm.sta Sta.qhx
 simp only [q0o hg]
theorem qca {yA:Option Addr} {yc:Nat} {yl:List Sp} {z:Sp} (hg:g<x.rs.length) (hy:x.rs.getD g Rw.zero=⟨yA,yc,yl⟩) (hz:yl[c]?=some z):x.sta.spot g c=z:=by
 rw [qm3 hg,hy,List.getD_eq_getElem?_getD,hz]
 rfl
theorem qg9 {rs:List Rw} {yA:Option Addr} {yc:Nat} {yl:List Sp} {z:Sp} (hg:g<rs.length) (hy:rs.getD g Rw.zero=⟨yA,yc,yl⟩):(rsPut rs g c z).getD g Rw.zero=⟨yA,yc,yl.set c z⟩:=by rw [qdp hg,hy]
theorem qtr {p wt:Nat} {z pz:Sp} {yA pA:Option Addr} {yc pc:Nat} {yl pl:List Sp} {e:En} (hg:g<x.rs.length) (hy:x.rs.getD g Rw.zero=⟨yA,yc,yl⟩) (hz:yl[c]?=some z) (hp:(x.gs.getD g Gr.zero).parent=(p:Int)) (hpl:p<x.rs.length) (hpy:x.rs.getD p Rw.zero=⟨pA,pc,pl⟩) (hpz:pl[c]?=some pz) (hw:(x.gs.getD g Gr.zero).weight=(wt:Int)) (he:(⟨z.v,z.r,wt⟩:En).woken pz.floor x.credit=e):
  ({x with rs:=rsPut x.rs g c {z with v:=e.v,r:=e.r}}:Stm).sta=wake1 c x.sta g:=by
 rw [qne hg]
 unfold wake1 Sta.qhy
 have e1:x.sta.spEn g c=⟨z.v,z.r,wt⟩:=by
  unfold Sta.spEn
  rw [qca hg hy hz,show (x.sta.gs.getD g Gr.zero).weight=(wt:Int) from hw]
  rfl
 have e2:(x.sta.par g).toNat=p:=by rw [show x.sta.par g=(p:Int) from hp];rfl
 rw [e1,e2,qca hg hy hz,qca hpl hpy hpz,show x.sta.credit=x.credit from rfl,he]
theorem qnf {wt d:Nat} {z:Sp} {yA:Option Addr} {yc:Nat} {yl:List Sp} {e:En} (hg:g<x.rs.length) (hy:x.rs.getD g Rw.zero=⟨yA,yc,yl⟩) (hz:yl[c]?=some z) (hw:(x.gs.getD g Gr.zero).weight=(wt:Int)) (he:(⟨z.v,z.r,wt⟩:En).add d=e):
  ({x with rs:=rsPut x.rs g c {z with v:=e.v,r:=e.r}}:Stm).sta=x.sta.qhy g c ((x.sta.spEn g c).add d):=by
 rw [qne hg]
 unfold Sta.qhy
 have e1:x.sta.spEn g c=⟨z.v,z.r,wt⟩:=by
  unfold Sta.spEn
  rw [qca hg hy hz,show (x.sta.gs.getD g Gr.zero).weight=(wt:Int) from hw]
  rfl
 rw [e1,qca hg hy hz,he]
theorem En.qpy {e:En} (h:e.Ok) (d:Nat):(e.add d).Ok∧(e.add d).w=e.w:=by
 have h1:1≤e.w∧e.w≤65536∧e.r<e.w∧(e.v<18446744073709551615∨e.r=0):=by
  have:=h.1
  unfold entOk at this
  rw [decide_eq_true_eq] at this
  omega
 have hv:=h.2
 have hm:=Nat.mod_lt (d*1048576+e.r) (show e.w>0 by omega)
 unfold En.add
 have hE:endV=18446744073709551615:=rfl
 split
 ·refine ⟨⟨?_,by show endV<_;omega⟩,rfl⟩
  unfold entOk;rw [decide_eq_true_eq]
  exact ⟨by show (1:Int)≤(e.w:Int);omega,by show (e.w:Int)≤_;omega,by show ((0:Nat):Int)<(e.w:Int);omega,.inr rfl⟩
 ·refine ⟨⟨?_,by show e.v+_<_;omega⟩,rfl⟩
  unfold entOk;rw [decide_eq_true_eq]
  exact ⟨by show (1:Int)≤(e.w:Int);omega,by show (e.w:Int)≤_;omega,by show (((d*1048576+e.r)%e.w:Nat):Int)<(e.w:Int);omega,.inl (by show e.v+_<_;omega)⟩
theorem En.qgb {e:En} (h:e.Ok) (fl cr:Nat) (hf:fl<18446744073709551616):(e.woken fl cr).Ok∧(e.woken fl cr).w=e.w:=by
 unfold En.woken
 split
 ·refine ⟨⟨?_,by show fl-cr<_;omega⟩,rfl⟩
  have h1:=h.1
  unfold entOk at h1⊢
  rw [decide_eq_true_eq] at h1⊢
  exact ⟨h1.1,h1.2.1,by show ((0:Nat):Int)<(e.w:Int);omega,.inr rfl⟩
 ·exact ⟨h,rfl⟩
theorem En.qpz {e:En} (h:e.Ok) (fr to:Nat) (hto:to<18446744073709551616):(e.moved fr to).Ok∧(e.moved fr to).w=e.w:=by
 have h1:=h.1
 unfold entOk at h1
 rw [decide_eq_true_eq] at h1
 have hv:=h.2
 have hE:endV=18446744073709551615:=rfl
 have hm:qci e.v fr to<18446744073709551616:=by
  unfold qci
  split
  ·have:min (e.v-fr) (endV-to)≤endV-to:=Nat.min_le_right ..
   omega
  ·omega
 refine ⟨⟨?_,hm⟩,rfl⟩
 unfold entOk
 rw [decide_eq_true_eq]
 show (1:Int)≤(e.w:Int)∧(e.w:Int)≤65536∧(((if qci e.v fr to=endV then 0 else e.r:Nat):Int))<(e.w:Int)∧(qci e.v fr to<18446744073709551615∨(if qci e.v fr to=endV then 0 else e.r)=0)
 split
 ·exact ⟨h1.1,h1.2.1,by omega,.inr rfl⟩
 ·exact ⟨h1.1,h1.2.1,h1.2.2.1,.inl om⟩
theorem qck {l:List Gr} (h:gsOk l=true) (hg:g<l.length):∃w:Nat,(l.getD g Gr.zero).weight=(w:Int)∧1≤w∧w≤65536:=by
 have:=wt_at h hg
 exact ⟨(l.getD g Gr.zero).weight.toNat,by omega,by omega,by omega⟩
end
theorem qik {s s':Sta} {c:Nat} (ht:s.ts=s'.ts) (hg:s.gs=s'.gs) (hl:s.sp.length=s'.sp.length) (hv:∀h,(s.spot h c).v=(s'.spot h c).v) (g:Nat):memS s g c=memS s' g c:=by
 have key:∀f g,memF s c f g=memF s' c f g:=by
  intro f
  induction f with
  |zero=>intro g;show s.ts.filterMap _=s'.ts.filterMap _;rw [ht]
  |succ f ih=>
   intro g
   rw [memF,memF,ht,hl]
   congr 1
   refine qa0 fun h _=>?_
   unfold grpM
   rw [ih h,hv h,show s.par h=s'.par h by unfold Sta.par;rw [hg]]
 unfold memS
 rw [hl]
 exact key _ g
section
variable {x:Stm} {ng nl nu nt ns g c h d:Nat} {rs2:List Rw}
def Risen (x:Stm) (rs2:List Rw) (g c:Nat):Prop:=rs2.length=x.rs.length∧(∀h,(rs2.getD h Rw.zero).l.length=(x.rs.getD h Rw.zero).l.length)∧∀h d,h<x.rs.length→d<(x.rs.getD h Rw.zero).l.length→(rs2.getD h Rw.zero).l.getD d Sp.zero=if h<g∨h=g∧d<c then rise1 x.sta h d ((x.rs.getD h Rw.zero).l.getD d Sp.zero) else (x.rs.getD h Rw.zero).l.getD d Sp.zero
theorem qqp:Risen x x.rs 0 0:=⟨rfl,fun _=>rfl,fun h d _ _=>by rw [if_neg om]⟩
theorem qts (s:Sta) (g c:Nat) (z:Sp):(rise1 s g c z).v=z.v∧(rise1 s g c z).r=z.r:=by
 unfold rise1
 split<;>exact ⟨rfl,rfl⟩
theorem qoy (y:Stm) (h d:Nat):y.sta.spot h d=(y.rs.getD h Rw.zero).l.getD d Sp.zero:=by
 rcases Nat.lt_or_ge h y.rs.length with h1|h1
 ·exact qm3 h1
 ·unfold Sta.spot
  have e1:y.sta.sp.getD h []=[]:=by rw [List.getD_eq_getElem?_getD,List.getElem?_eq_none (by rw [zh];exact h1)];rfl
  have e2:y.rs.getD h Rw.zero=Rw.zero:=by rw [List.getD_eq_getElem?_getD,List.getElem?_eq_none h1];rfl
  rw [e1,e2]
  rfl
theorem q0p (hR:Risen x rs2 g c) (h d:Nat):(({x with rs:=rs2}:Stm).sta.spot h d).v=(x.sta.spot h d).v:=by
 rw [qoy,qoy]
 show ((rs2.getD h Rw.zero).l.getD d Sp.zero).v=_
 rcases Nat.lt_or_ge h x.rs.length with h1|h1
 ·rcases Nat.lt_or_ge d (x.rs.getD h Rw.zero).l.length with h2|h2
  ·rw [hR.2.2 h d h1 h2]
   split
   ·exact (qts ..).1
   ·rfl
  ·have h3:=hR.2.1 h
   rw [List.getD_eq_getElem?_getD,List.getElem?_eq_none om,List.getD_eq_getElem?_getD,List.getElem?_eq_none h2]
 ·have e1:rs2.getD h Rw.zero=Rw.zero:=by rw [List.getD_eq_getElem?_getD,List.getElem?_eq_none (by rw [hR.1];exact h1)];rfl
  have e2:x.rs.getD h Rw.zero=Rw.zero:=by rw [List.getD_eq_getElem?_getD,List.getElem?_eq_none h1];rfl
  rw [e1,e2]
theorem qtt (hR:Risen x rs2 g c) (h d:Nat):memS ({x with rs:=rs2}:Stm).sta h d=memS x.sta h d:=
 qik (s:=({x with rs:=rs2}:Stm).sta) (s':=x.sta) rfl rfl (by rw [zh,zh];exact hR.1) (fun k=>q0p hR k d) h
theorem zy {α:Type} {l:List α} {k:Nat} {u:α} (d:α) (h:l[k]?=some u):l.getD k d=u:=by rw [List.getD_eq_getElem?_getD,h];rfl
theorem qqq (hR:Risen x rs2 g c) (hg:g<x.rs.length) (hc:c<(x.rs.getD g Rw.zero).l.length) {z z':Sp} (hz:(rs2.getD g Rw.zero).l[c]?=some z) (hz':rise1 x.sta g c z=z'):Risen x (rsPut rs2 g c z') g (c+1):=by
 have h0:=hR.2.2 g c hg hc
 rw [if_neg om,zy Sp.zero hz] at h0
 refine ⟨by rw [qt];exact hR.1,fun h=>?_,fun h d hh hd=>?_⟩
 ·by_cases e:g=h
  ·subst e
   rw [qdp (by rw [hR.1];exact hg)]
   show ((rs2.getD g Rw.zero).l.set c z').length=_
   rw [List.length_set];exact hR.2.1 g
  ·rw [qev e];exact hR.2.1 h
 ·by_cases e:g=h
  ·subst e
   rw [qdp (by rw [hR.1];exact hg)]
   show ((rs2.getD g Rw.zero).l.set c z').getD d Sp.zero=_
   by_cases e2:c=d
   ·subst e2
    rw [qi _ _ (by rw [hR.2.1 g];exact hc),if_pos om,←h0,hz']
   ·rw [getD_set_ne _ _ e2,hR.2.2 g d hh hd]
    by_cases e3:d<c
    ·rw [if_pos om,if_pos om]
    ·rw [if_neg om,if_neg om]
  ·rw [qev e,hR.2.2 h d hh hd]
   by_cases e3:h<g
   ·rw [if_pos om,if_pos om]
   ·rw [if_neg om,if_neg om]
theorem qqr (hR:Risen x rs2 g c) (hm:memS x.sta g c=[]):Risen x rs2 g (c+1):=by
 refine ⟨hR.1,hR.2.1,fun h d hh hd=>?_⟩
 rw [hR.2.2 h d hh hd]
 by_cases e:h<g∨h=g∧d<c
 ·rw [if_pos e,if_pos om]
 ·rw [if_neg e]
  by_cases e2:h=g∧d=c
  ·rw [if_pos om,e2.1,e2.2]
   unfold rise1
   rw [if_pos (by rw [hm];rfl)]
  ·rw [if_neg om]
theorem qtu (hR:Risen x rs2 g c) (hc:(x.rs.getD g Rw.zero).l.length≤c):Risen x rs2 (g+1) 0:=by
 refine ⟨hR.1,hR.2.1,fun h d hh hd=>?_⟩
 rw [hR.2.2 h d hh hd]
 by_cases e:h<g∨h=g∧d<c
 ·rw [if_pos e,if_pos om]
 ·have:h≠g:=fun e2=>e (by subst e2;exact .inr ⟨rfl,by omega⟩)
  rw [if_neg e,if_neg om]
theorem qtv (hR:Risen x rs2 g 0) (hg:x.rs.length≤g):({x with rs:=rs2}:Stm).sta=riseS x.sta:=by
 have h1:rs2.map Rw.l=(x.rs.map Rw.l).mapIdx fun g l=>l.mapIdx fun c z=>rise1 x.sta g c z:=by
  apply List.ext_getElem
  ·rw [List.length_map,List.length_mapIdx,List.length_map,hR.1]
  ·intro h h2 h3
   rw [List.length_map] at h2
   have hx:h<x.rs.length:=by rw [←hR.1];exact h2
   rw [List.getElem_map,List.getElem_mapIdx,List.getElem_map]
   have e1:rs2.getD h Rw.zero=rs2[h]:=by rw [List.getD_eq_getElem?_getD,List.getElem?_eq_getElem h2];rfl
   have e2:x.rs.getD h Rw.zero=x.rs[h]:=by rw [List.getD_eq_getElem?_getD,List.getElem?_eq_getElem hx];rfl
   have hl:=hR.2.1 h
   rw [e1,e2] at hl
   apply List.ext_getElem
   ·rw [List.length_mapIdx,hl]
   ·intro d h4 h5
    have hd:d<x.rs[h].l.length:=by rw [←hl];exact h4
    rw [List.getElem_mapIdx]
    have h6:=hR.2.2 h d hx (by rw [e2];exact hd)
    rw [if_pos om,e1,e2,List.getD_eq_getElem?_getD,List.getElem?_eq_getElem h4,List.getD_eq_getElem?_getD,List.getElem?_eq_getElem hd] at h6
    exact h6
 show (⟨x.cpus,x.credit,x.gs,x.cl,x.cu,x.ts,rs2.map Rw.l⟩:Sta)=_
 rw [h1]
 rfl
theorem q0q (hf:StFew x) (z:Sp):StFew ({x with rs:=rsPut x.rs g c z}:Stm):=by
 refine ⟨hf.g,hf.l,hf.u,hf.t,by show (rsPut x.rs g c z).length≤_;rw [qt];exact hf.s,fun y hy=>?_⟩
 rcases Nat.lt_or_ge g x.rs.length with hg|hg
 ·rcases List.mem_or_eq_of_mem_set hy with h1|rfl
  ·exact hf.r y h1
  ·show ((x.rs.getD g Rw.zero).l.set c z).length≤_
   rw [List.length_set]
   exact hf.r _ (qd Rw.zero hg)
 ·have e:rsPut x.rs g c z=x.rs:=by unfold rsPut;exact List.set_eq_of_length_le hg
  have hy':y∈rsPut x.rs g c z:=hy
  rw [e] at hy'
  exact hf.r y hy'
theorem MdOk.put (h:MdOk x ng nl nu nt ns) (hg:g<x.rs.length) (z:Sp) (hz:z.Ok) (hs:spOk x.sta g z=true):MdOk ({x with rs:=rsPut x.rs g c z}:Stm) ng nl nu nt ns:=by
 have hst:=qne (x:=x) (c:=c) (z:=z) hg
 have hspl:({x with rs:=rsPut x.rs g c z}:Stm).sta.sp.length=x.sta.sp.length:=by rw [zh,zh];exact qt ..
 refine ⟨⟨h.ok.cpus,h.ok.credit,h.ok.gs,h.ok.cl,h.ok.cu,h.ok.ts,fun l hl y hy=>?_⟩,q0q h.few z,⟨h.sh.cfg,h.sh.cl,h.sh.cu,by show (rsPut x.rs g c z).length=_;rw [qt];exact h.sh.rs,h.sh.cls,fun k hk=>?_,fun i hi=>?_⟩,⟨h.ln.g,h.ln.l,h.ln.u,h.ln.t,by show (rsPut x.rs g c z).length=_;rw [qt];exact h.ln.s⟩⟩
 ·rw [hst] at hl
  rcases List.mem_or_eq_of_mem_set (show l∈x.sta.sp.set g ((x.sta.sp.getD g []).set c z) from hl) with h1|rfl
  ·exact h.ok.sp l h1 y hy
  ·rcases List.mem_or_eq_of_mem_set hy with h2|rfl
   ·exact h.ok.sp _ (qd [] (by rw [zh];exact hg)) y h2
   ·exact hz
 ·have hk':k<x.rs.length:=by have h1:k<(rsPut x.rs g c z).length:=hk;rwa [qt] at h1
  have h1:=qgs hk' (h.sh.row k hk')
  refine qs1 hk ?_ fun d hd=>?_
  ·show (((rsPut x.rs g c z).getD k Rw.zero).l.length:Int)=x.cpus
   by_cases e2:g=k
   ·subst e2
    rw [qdp hk']
    show (((x.rs.getD g Rw.zero).l.set c z).length:Int)=_
    rw [List.length_set];exact h1.1
   ·rw [qev e2];exact h1.1
  ·have hd':d<((rsPut x.rs g c z).getD k Rw.zero).l.length:=hd
   show spOk x.sta k (((rsPut x.rs g c z).getD k Rw.zero).l.getD d Sp.zero)=true
   by_cases e2:g=k
   ·subst e2
    rw [qdp hk'] at hd'⊢
    have hd2:d<((x.rs.getD g Rw.zero).l.set c z).length:=hd'
    rw [List.length_set] at hd2
    show spOk x.sta g (((x.rs.getD g Rw.zero).l.set c z).getD d Sp.zero)=true
    by_cases e3:c=d
    ·subst e3;rw [qi _ _ hd2];exact hs
    ·rw [getD_set_ne _ _ e3];exact h1.2 d hd2
   ·rw [qev e2] at hd'⊢;exact h1.2 d hd'
 ·have h1:=h.sh.tk i hi
  unfold tkAt tkOk1 at h1⊢
  rw [hspl]
  exact h1
end
theorem qfv {v r w:Nat} (h:entOk v r w=true):1≤w∧w≤65536∧r<w∧(v<18446744073709551615∨r=0):=by
 unfold entOk at h
 rw [decide_eq_true_eq] at h
 omega
theorem q21 {v r w:Nat} (h:1≤w∧w≤65536∧r<w∧(v<18446744073709551615∨r=0)):entOk v r w=true:=by
 unfold entOk
 rw [decide_eq_true_eq]
 omega
theorem qtw {fl z:Nat} (hf:fl<18446744073709551616) (hz:1≤z∧z≤65536):(⟨fl,0,z⟩:En).Ok:=⟨q21 ⟨hz.1,hz.2,by show 0<z;omega,.inr rfl⟩,hf⟩
theorem qcl (x:En) (hx:x.Ok) (w:World):Calls Tryz.prog 124 #[.agg x.cells] w (Is w (.bool true)):=by
 have h1:=qfv hx.1
 have h2:=qfe x.v x.r x.w hx.2 om om w
 rw [hx.1] at h2
 exact h2
theorem qqs (z:Nat) (hz:1≤z∧z≤65536) (w:World):Calls Tryz.prog 145 #[vI z] w (Is w (.bool true)):=by
 have h2:=qft z w
 rw [decide_eq_true om] at h2
 exact h2
theorem qtx (x:En) (hx:x.Ok) (d:Nat) (hd:d≤4294967295) (w:World):
    Calls Tryz.prog 144 #[.agg x.cells,vI d] w (Is w (.agg (x.add d).cells)):=by
 have hxo:=qfv hx.1
 have hxv:=hx.2
 have hq1:=Nat.div_le_self (d*1048576+x.r) x.w
 have hq2:=Nat.mod_lt (d*1048576+x.r) (show x.w>0 by omega)
 refine (JN2 Tryz.func144 42) ?_
 refine (JP∘JE) fun w2 g2=>(JA #[vQ 0,vW 0,vW 0]) fun w4 g4=>(Jr∘Jp 1∘Jw .u64∘Jp 1∘Jo (vQ (d*1048576:Nat)) (by exact qe9 om om)∘Jg 1 O1∘Jw .u64∘Ja∘Jp 1∘Jd6∘Jj) fun a Z I=>?_
 refine wp_seq ?_
 refine Jb Z I ((Vs .n []) fun wd2=>(Vp [0]∘Vf 1 2∘Vp [5]∘Vf 6 2∘Vc 2 O1∘Vw 3 .u64∘Vy 4 (v:=vQ ((d*1048576+x.r)/x.w:Nat)) (h:=by exact Yl.quoN (m:=(d*1048576+x.r)) (n:=x.w) rfl rfl rfl om (by show _≤18446744073709551615;omega))∘Vp [10]∘Vc 7 O1∘Vw 8 .u64∘Vy 9 (v:=vQ ((d*1048576+x.r)%x.w:Nat)) (h:=by exact Yl.remN (m:=(d*1048576+x.r)) (n:=x.w) rfl rfl rfl om)∘Vp [11]∘Vd∘Jd3∘JQ∘JP∘Jp 1∘Jg 0 O1∘Jp 1∘Jo (vQ (18446744073709551615-x.v:Nat)) (by exact qe9 om om)∘Jp 1∘Jd3∘Jj) (Ji (fun hd29=>?_) fun hd29=>?_))
 ·
  refine (JT∘JP∘Jg 2 O1∘Jy (v:= .agg #[vQ 18446744073709551615,vW 0,vW x.w]) (h:=by exact Yl.build (vs:=[(0,vQ 18446744073709551615),(1,vW 0),(2,vW x.w)]) rfl kr kr)∘JV qk O0') fun w4_3=>(Jt2∘Jj∘JZ) fun a Z I=>?_
  exact ret1 rfl Z (.cellS (i:=0) Z I rfl rfl qk rfl) (⟨by rw [show x.add d=⟨endV,0,x.w⟩ from if_pos (by show 18446744073709551615-x.v≤_;omega)];rfl,I.below⟩)
 refine (JF∘JS'∘JP∘Jg 0 O1∘Jp 1∘Ja∘Jp 1∘Jv 1 [(38,vW (IntKind.u32.wrap (((d*1048576+x.r)%x.w:Nat):Int)))]∘Jo (vW ((d*1048576+x.r)%x.w:Nat)) (by exact qd2 rfl om)∘Jg 2 O1∘Jy (v:= .agg #[vQ (x.v+((d*1048576+x.r)/x.w):Nat),vW ((d*1048576+x.r)%x.w:Nat),vW x.w]) (h:=by exact Yl.build (vs:=[(0,vQ (x.v+((d*1048576+x.r)/x.w):Nat)),(1,vW ((d*1048576+x.r)%x.w:Nat)),(2,vW x.w)]) rfl kr kr)∘JV qk O0') fun w5_9=>(Jt6∘Jj∘JZ) fun a Z I=>?_
 exact ret1 rfl Z (.cellS (i:=0) Z I rfl rfl qk rfl) (⟨by rw [show x.add d=⟨x.v+(d*1048576+x.r)/x.w,(d*1048576+x.r)%x.w,x.w⟩ from if_neg (by show ¬18446744073709551615-x.v≤_;omega)];rfl,I.below⟩)
theorem qqt (d:Int) (w:World):Calls Tryz.prog 143 #[vI d] w (Is w (.bool (decide (0≤d∧d≤4294967295)))):=by
 refine (JN1 Tryz.func143 9) ?_
 refine (JP∘Jp 1∘Jr∘Jp 3) (Ji (fun hd5=>?_) fun hd5=>?_)
 ·
  exact (Jp 4∘Jd6∘Jj∘JZ∘Jz1) fun I=>qfs om I.below
 exact (Jp 4∘Jd6∘Jj∘JZ∘Jz1) fun I=>is_no om I.below
theorem qqu (d:Nat) (hd:d≤4294967295) (w:World):Calls Tryz.prog 143 #[vI d] w (Is w (.bool true)):=by
 have h2:=qqt d w
 rw [decide_eq_true om] at h2
 exact h2
theorem qw1 (x:En) (hx:x.Ok) (d:Nat) (hd:d≤4294967295) (w:World):
    Calls Tryz.prog 114 #[.agg x.cells,vI d] w (Is w (.tuple #[.agg (x.add d).cells,vI 0])):=by
 refine (JN2 Tryz.func114 18) ?_
 refine (JP∘JE) fun w2 g2=>(JA #[vQ 0,vW 0,vW 0]) fun w4 g4=>(Jp 1∘Jj∘JQ∘JP∘Jy (v:= .agg x.cells) (h:=by exact Yl.loadS rfl rfl qk rfl (fun _ h=>qa (h.blk (i:=1) rfl)))∘JI (h:=by exact fun I=>qcl x hx _)) fun w7 hbw=>(Jp 3∘JI (h:=by exact fun I=>qqu d hd _)) fun w11 hbw=>(Jp 2∘Jd6∘Jj∘JF∘JS'∘JP∘Jy (v:= .agg x.cells) (h:=by exact Yl.loadS rfl rfl qk rfl (fun _ h=>qa (h.blk (i:=1) rfl)))∘Jp 1∘JI (h:=by exact fun I=>qtx x hx d hd _)) fun w17 hbw=>(JV qk O0' (h1:=by exact zk (x.add d))) fun w3_3=>(Jp 1∘Jd3∘Jj∘JZ) fun a Z I=>?_
 exact ret2 rfl Z (.cellS (i:=0) Z I rfl rfl qk rfl) (.tmp Z rfl) (⟨rfl,I.below⟩)
theorem qcm (x:En) (hx:x.Ok) (z:Nat) (hz:1≤z∧z≤65536) (w:World):
    Calls Tryz.prog 116 #[.agg x.cells,vI z] w (Is w (.tuple #[.agg (⟨x.v,0,z⟩:En).cells,vI 0])):=by
 refine (JN2 Tryz.func116 20) ?_
 refine (JP∘JE) fun w2 g2=>(JA #[vQ 0,vW 0,vW 0]) fun w4 g4=>(Jp 1∘Jj∘JQ∘JP∘Jy (v:= .agg x.cells) (h:=by exact Yl.loadS rfl rfl qk rfl (fun _ h=>qa (h.blk (i:=1) rfl)))∘JI (h:=by exact fun I=>qcl x hx _)) fun w7 hbw=>(Jp 3∘JI (h:=by exact fun I=>qqs z hz _)) fun w11 hbw=>(Jp 2∘Jd6∘Jj∘JF∘JS'∘JP∘Jg 0 O1∘Jp 1∘Jv 1 [(18,vW (IntKind.u32.wrap (z:Int)))]∘Jo (vW z) (by exact qd2 rfl om)∘Jy (v:= .agg #[vQ x.v,vW 0,vW z]) (h:=by exact Yl.build (vs:=[(0,vQ x.v),(1,vW 0),(2,vW z)]) rfl kr kr)∘JV qk O0') fun w3_5=>(Jp 1∘Jd4∘Jj∘JZ) fun a Z I=>?_
 exact ret2 rfl Z (.cellS (i:=0) Z I rfl rfl qk rfl) (.tmp Z rfl) (⟨rfl,I.below⟩)
theorem qoz (a_ b_:Nat) (ha:a_<18446744073709551616) (hb:b_<18446744073709551616) (w:World):
    Calls Tryz.prog 142 #[vQ a_,vQ b_] w (Is w (vQ ((a_-b_:Nat):Int))):=by
 refine (JN2 Tryz.func142 10) ?_
 exact (JP∘Jp 1∘Jr∘Jp 3∘Jy (v:=vQ (if (b_:Int)<(a_:Int) then (b_:Int) else (a_:Int))) (h:=by exact Yl.min rfl rfl rfl)∘Jp 1∘Jo (vQ (a_-b_:Nat)) (by split<;>exact (qe9 (m:=a_-b_) om om))∘Jp 1∘Jd5∘Jj∘JZ) JY1
theorem q0r (a_ b_:Nat) (ha:a_<18446744073709551616) (hb:b_<18446744073709551616) (w:World):
    Calls Tryz.prog 156 #[vQ a_,vQ b_] w (Is w (vQ ((a_+min b_ (18446744073709551615-a_):Nat):Int))):=by
 refine (JN2 Tryz.func156 11) ?_
 exact (JP∘Jp 1∘Jr∘Jp 4∘Jo (vQ (18446744073709551615-a_:Nat)) (by exact qe9 om om)∘Jy (v:=vQ (if ((18446744073709551615-a_:Nat):Int)<(b_:Int) then ((18446744073709551615-a_:Nat):Int) else (b_:Int))) (h:=by exact Yl.min rfl rfl rfl)∘Jo (vQ (min b_ (18446744073709551615-a_):Nat)) (by rw [Nat.min_def];split<;>split<;>first|rfl|(congr 1;omega))∘Jp 1∘Jo (vQ (a_+min b_ (18446744073709551615-a_):Nat)) (by exact qe9 om om)∘Jp 1∘Jd6∘Jj∘JZ) JY1
theorem qo0 (fl z:Nat) (hf:fl<18446744073709551616) (hz:1≤z∧z≤65536) (w:World):
    Calls Tryz.prog 105 #[vQ fl,vI z] w (Is w (.tuple #[.agg (⟨fl,0,z⟩:En).cells,vI 0])):=by
 refine (JN2 Tryz.func105 23) ?_
 refine (JP∘JA #[vQ 0,vW 0,vW 0]) fun w4 g4=>(Jp 1∘Jr∘Jp 2∘Jv 1 [(9,vW (IntKind.u32.wrap (z:Int)))]∘Jo (vW z) (by exact qd2 rfl om)∘Jy (v:= .agg #[vQ fl,vW 0,vW z]) (h:=by exact Yl.build (vs:=[(0,vQ fl),(2,vW z)]) rfl kr kr)∘JA #[vQ 0,vW 0,vW 0]) fun w6 g6=>(JV qk O0') fun w1_5=>(Jd4∘Jj∘JQ∘JP∘Jg 2 O0∘Jw .i64∘Jp 2∘Jo (.bool false) (by simp)∘Jp 1∘Jy (v:= .agg #[vQ fl,vW 0,vW z]) (h:=by exact Yl.loadS rfl rfl qk rfl (fun _ h=>qa (h.blk (i:=0) rfl)))∘JI (h:=by exact fun I=>qcl (⟨fl,0,z⟩:En) (qtw hf hz) _)) fun w18 hbw=>(Jp 2∘Jd6∘Jj∘JF∘JS'∘JP∘Jy (v:= .agg #[vQ fl,vW 0,vW z]) (h:=by exact Yl.loadS rfl rfl qk rfl (fun _ h=>qa (h.blk (i:=0) rfl)))∘JV qk O1') fun w4_1=>(Jp 1∘Jd1∘Jj∘JZ) fun a Z I=>?_
 exact ret2 rfl Z (.cellS (i:=1) Z I rfl rfl qk rfl) (.tmp Z rfl) (⟨rfl,I.below⟩)
theorem qty (x:En) (hx:x.Ok) (fl cr:Nat) (hf:fl<18446744073709551616) (hc:cr<18446744073709551616) (w:World):
    Calls Tryz.prog 111 #[.agg x.cells,vQ fl,vQ cr] w (Is w (.tuple #[.agg (x.woken fl cr).cells,vI 0])):=by
 have hxv:=hx.2
 refine (JN3 Tryz.func111 25) ?_
 refine (JP∘JE) fun w3 g3=>(JA #[vQ 0,vW 0,vW 0]) fun w6 g6=>(Jp 1∘Jj∘JQ∘JP∘Jy (v:= .agg x.cells) (h:=by exact Yl.loadS rfl rfl qk rfl (fun _ h=>qa (h.blk (i:=1) rfl)))∘JI (h:=by exact fun I=>qcl x hx _)) fun w10 hbw=>(Jp 1∘Jd2∘Jj∘JF∘JS'∘JQ∘JP∘Jp 2∘JI (h:=by exact fun I=>qoz fl cr hf hc _)) fun w15 hbw=>(Jp 1∘Jd3∘Jr∘Jp 1∘Jg 0 O1∘Jp 1∘Jd2∘Jj) (Ji (fun hd19=>?_) fun hd19=>?_)
 ·
  refine (JT∘JP∘Jp 1∘Jg 2 O1∘Jy (v:= .agg #[vQ (fl-cr:Nat),vW 0,vW x.w]) (h:=by exact Yl.build (vs:=[(0,vQ (fl-cr:Nat)),(2,vW x.w)]) rfl kr kr)∘JV qk O0') fun w5_4=>(Jp 1∘Jd3∘Jj∘JZ) fun a Z I=>?_
  exact ret2 rfl Z (.cellS (i:=0) Z I rfl rfl qk rfl) (.tmp Z rfl) (⟨by rw [show x.woken fl cr=⟨fl-cr,0,x.w⟩ from if_pos om];rfl,I.below⟩)
 refine (JF∘JS'∘JP∘Jy (v:= .agg x.cells) (h:=by exact Yl.loadS rfl rfl qk rfl (fun _ h=>qa (h.blk (i:=1) rfl)))∘JV qk O0' (h1:=by exact zk x)) fun w6_1=>(Jp 1∘Jd1∘Jj∘JZ) fun a Z I=>?_
 exact ret2 rfl Z (.cellS (i:=0) Z I rfl rfl qk rfl) (.tmp Z rfl) (⟨by rw [show x.woken fl cr=x from if_neg om],I.below⟩)
theorem qtz (x:En) (hx:x.Ok) (fr to:Nat) (hfr:fr<18446744073709551616) (hto:to<18446744073709551616) (w:World):
    Calls Tryz.prog 147 #[.agg x.cells,vQ fr,vQ to] w (Is w (.tuple #[.agg (x.moved fr to).cells,vI 0])):=by
 have hxv:=hx.2
 refine (JN3 Tryz.func147 35) ?_
 refine (JP∘JE) fun w3 g3=>(JA #[vQ 0,vW 0,vW 0]) fun w6 g6=>(Jp 1∘Jj∘JQ∘JP∘Jy (v:= .agg x.cells) (h:=by exact Yl.loadS rfl rfl qk rfl (fun _ h=>qa (h.blk (i:=1) rfl)))∘JI (h:=by exact fun I=>qcl x hx _)) fun w9 hbw=>(Jp 1∘Jd2∘Jj∘JF∘JS'∘JQ∘JP∘Jg 0 O1∘Jp 2∘Jd2∘Jj) (Ju (fun hb15=>?_) fun hb15=>?_)
 ·
  intro a Z I
  have hd15:=of_decide_eq_true hb15
  have hmv:qci x.v fr to=to+min (x.v-fr) (18446744073709551615-to):=if_pos om
  refine Jb Z I ((JT∘JR∘Jp 1∘Jg 0 O1∘Jp 1∘Js∘JI (h:=by exact fun I=>q0r to (x.v-fr) hto om _)) fun w21 hbw=>(Jf 0) fun a Z I=>?_)
  refine fo Z 7 rfl rfl ?_
  refine qb3 Z I (i:=1) rfl rfl rfl rfl kr rfl rfl (by simp [En.cells]) ?_
  clear I;intro w4_7 I
  refine Jb Z I ((Jt6∘Jj∘JQ∘JP∘Jg 0 O1∘Jp 1∘Jd1∘Jj) (Je (fun hd32=>?_) fun hd32=>?_))
  ·
   refine (JT∘JR∘Jf 1∘JW O1' O1') fun w7_1=>(Jt1∘Jr∘Jy (v:= .agg #[vQ (to+min (x.v-fr) (18446744073709551615-to):Nat),vW 0,vW x.w]) (h:=by exact Yl.loadS rfl rfl qk rfl (fun _ h=>qa (h.blk (i:=1) rfl)))∘JV qk O0') fun w8_1=>(Jp 1∘Jd1∘Jj∘JZ) fun a Z I=>?_
   exact ret2 rfl Z (.cellS (i:=0) Z I rfl rfl qk rfl) (.tmp Z rfl) (⟨by rw [show x.moved fr to=⟨qci x.v fr to,0,x.w⟩ from congrArg (fun r=>(⟨_,r,_⟩:En)) (if_pos (by rw [hmv];show _=18446744073709551615;omega)),hmv];rfl,I.below⟩)
  refine (JF∘JS'∘JP∘Jy (v:= .agg #[vQ (to+min (x.v-fr) (18446744073709551615-to):Nat),vW x.r,vW x.w]) (h:=by exact Yl.loadS rfl rfl qk rfl (fun _ h=>qa (h.blk (i:=1) rfl)))∘JV qk O0') fun w8_1=>(Jp 1∘Jd1∘Jj∘JZ) fun a Z I=>?_
  exact ret2 rfl Z (.cellS (i:=0) Z I rfl rfl qk rfl) (.tmp Z rfl) (⟨by rw [show x.moved fr to=⟨qci x.v fr to,x.r,x.w⟩ from congrArg (fun r=>(⟨_,r,_⟩:En)) (if_neg (by rw [hmv];show ¬_=18446744073709551615;omega)),hmv];rfl,I.below⟩)
 intro a Z I
 have hd15:=of_decide_eq_false hb15
 have hmv:qci x.v fr to=to- (fr-x.v):=(if_neg om).trans om
 refine Jb Z I ((JF∘JR∘Jp 2∘Jg 0 O1∘Js∘JI (h:=by exact fun I=>qoz to (fr-x.v) hto om _)) fun w28 hbw=>(Jf 0) fun a Z I=>?_)
 refine fo Z 7 rfl rfl ?_
 refine qb3 Z I (i:=1) rfl rfl rfl rfl kr rfl rfl (by simp [En.cells]) ?_
 clear I;intro w5_7 I
 refine Jb Z I ((Jt6∘Jj∘JQ∘JP∘Jg 0 O1∘Jp 1∘Jd1∘Jj) (Je (fun hd32=>?_) fun hd32=>?_))
 ·
  refine (JT∘JR∘Jf 1∘JW O1' O1') fun w7_1=>(Jt1∘Jr∘Jy (v:= .agg #[vQ (to- (fr-x.v):Nat),vW 0,vW x.w]) (h:=by exact Yl.loadS rfl rfl qk rfl (fun _ h=>qa (h.blk (i:=1) rfl)))∘JV qk O0') fun w8_1=>(Jp 1∘Jd1∘Jj∘JZ) fun a Z I=>?_
  exact ret2 rfl Z (.cellS (i:=0) Z I rfl rfl qk rfl) (.tmp Z rfl) (⟨by rw [show x.moved fr to=⟨qci x.v fr to,0,x.w⟩ from congrArg (fun r=>(⟨_,r,_⟩:En)) (if_pos (by rw [hmv];show _=18446744073709551615;omega)),hmv];rfl,I.below⟩)
 refine (JF∘JS'∘JP∘Jy (v:= .agg #[vQ (to- (fr-x.v):Nat),vW x.r,vW x.w]) (h:=by exact Yl.loadS rfl rfl qk rfl (fun _ h=>qa (h.blk (i:=1) rfl)))∘JV qk O0') fun w8_1=>(Jp 1∘Jd1∘Jj∘JZ) fun a Z I=>?_
 exact ret2 rfl Z (.cellS (i:=0) Z I rfl rfl qk rfl) (.tmp Z rfl) (⟨by rw [show x.moved fr to=⟨qci x.v fr to,x.r,x.w⟩ from congrArg (fun r=>(⟨_,r,_⟩:En)) (if_neg (by rw [hmv];show ¬_=18446744073709551615;omega)),hmv];rfl,I.below⟩)
theorem qc0 {α:Type} {l:List α} {i:Nat} {t u:α} (h:l[i]?=some t):(l.set i u)[i]?=some u:=List.getElem?_set_self (List.getElem?_eq_some_iff.1 h).1
theorem Upd.split {α:Type} {a b:α} {l m:List α} (h:Upd a b l m):∃p q,l=p++a::q∧m=p++b::q:=by
 induction h with
 |z=>exact ⟨[],_,rfl,rfl⟩
 |s _ ih=>obtain ⟨p,q,rfl,rfl⟩:=ih;exact ⟨_::p,q,rfl,rfl⟩
theorem qt0 (W w:World) (g nt tc i:Nat) (ts:List Tk) (t:Tk) (ht:ts[i]?=some t) (hn:ts.length=nt) (x:En) (hx:x.Ok) (fs:List Fact) (I:Mem W w (fT (some ⟨g,0,none⟩) nt tc ts::fs)):
    Calls Tryz.prog 106 #[.pointer (some ⟨g,i*8,none⟩),.agg x.cells] w (fun r w'=>r= .returned (.tuple #[])∧Mem W w' (fT (some ⟨g,0,none⟩) nt tc (ts.set i (t.put x))::fs)):=by
 have hil:=(List.getElem?_eq_some_iff.1 ht).1
 have hxo:=qfv hx.1
 refine (Jin2 I Tryz.func106 20) ?_
 refine (JP∘JE) fun w3 g3=>(Jj∘Vs (.t (.f .n)) [18]) fun wd1=>(Vp [0,1,2]∘Vf 3 0∘Vf 5 1∘Vf 7 2∘Vc 4 O0∘Vc 6 O0∘Vc 8 O0∘Vw 9 .i64∘Vn 10∘Vf 11 6) fun a Z I HS=>?_
 refine s_on Z 12 rfl ?_
 refine q4 Z I (i:=1) rfl rfl rfl rfl kr rfl rfl (by rw [zt tkL 8 qf];omega) ?_
 clear I;intro w1_12 I
 replace I:=I.asRow (i:=1) (ys:=(ts.set i ({t with v:=x.v})).flatMap tkL) rfl (zu tkL 8 qf ts i t ({t with v:=x.v}) ht 6 de _ rfl)
 refine keepS (I.pt 2 [0]) (fun HS=>?_)
 refine Vb Z I HS ((Vn 13∘Vf 14 7) fun a Z I HS=>?_)
 refine s_on Z 15 rfl ?_
 refine q4 Z I (i:=1) rfl rfl rfl rfl kr rfl rfl (by rw [zt tkL 8 qf,List.length_set];omega) ?_
 clear I;intro w1_15 I
 replace I:=I.asRow (i:=1) (ys:=(ts.set i ({t with v:=x.v,r:=x.r})).flatMap tkL) rfl ((zu tkL 8 qf (ts.set i ({t with v:=x.v})) i ({t with v:=x.v}) ({t with v:=x.v,r:=x.r}) (qc0 ht) 7 de _ rfl).trans (by rw [List.set_set]))
 refine keepS (I.pt 2 [0]) (fun HS=>?_)
 refine Vb Z I HS ((Vn 16∘Vf 17 2) fun a Z I HS=>?_)
 refine s_on Z 18 rfl ?_
 refine q4 Z I (i:=1) rfl rfl rfl rfl kr rfl rfl (by rw [zt tkL 8 qf,List.length_set];omega) ?_
 clear I;intro w1_18 I
 replace I:=I.asRow (i:=1) (ys:=(ts.set i (t.put x)).flatMap tkL) rfl ((zu tkL 8 qf (ts.set i ({t with v:=x.v,r:=x.r})) i ({t with v:=x.v,r:=x.r}) (t.put x) (qc0 ht) 2 de _ rfl).trans (by rw [List.set_set]))
 refine noS kr ?_
 refine qb kr ?_
 exact norm0 rfl Z ⟨rfl,I.pt 2 [1]⟩
theorem qo1 {W w:World} {g nt tc i:Nat} {ts:List Tk} {F F':List Fact} (t:Tk) (x:En) (O:Upd (fT (some ⟨g,0,none⟩) nt tc ts) (fT (some ⟨g,0,none⟩) nt tc (ts.set i (t.put x))) F F') (I:Mem W w F) (ht:ts[i]?=some t) (hn:ts.length=nt) (hx:x.Ok):
  Calls Tryz.prog 106 #[.pointer (some ⟨g,i*8,none⟩),.agg x.cells] w (fun r w'=>r= .returned (.tuple #[])∧Mem W w' F'):=by
 obtain ⟨p,q,rfl,rfl⟩:=O.split
 exact (qt0 W w g nt tc i ts t ht hn x hx (p++q) (I.perm List.perm_middle)).mono fun r w' h=>⟨h.1,h.2.perm List.perm_middle.symm⟩
theorem qqv (W w:World) (g:Nat) (t:Tk) (x:En) (hx:x.Ok) (fs:List Fact) (I:Mem W w (.blk g t.cells 61::fs)):
    Calls Tryz.prog 106 #[vP g 0,.agg x.cells] w (fun r w'=>r= .returned (.tuple #[])∧Mem W w' (.blk g (t.put x).cells 61::fs)):=by
 have hxo:=qfv hx.1
 replace I:Mem W w (.blk g #[vI t.id,vI t.group,vI t.weight,vI t.cpu,vQ t.mask,.bool t.ready,vQ t.v,vW t.r] 61::fs):=I
 refine (Jin2 I Tryz.func106 20) ?_
 refine (JP∘JE) fun w3 g3=>(Jj∘Vs (.t (.f .n)) [18]) fun wd1=>(Vp [0,1,2]∘Vf 3 0∘Vf 5 1∘Vf 7 2∘Vc 4 O0∘Vc 6 O0∘Vc 8 O0∘Vw 9 .i64∘Vn 10∘Vf 11 6) fun a Z I HS=>?_
 refine s_on Z 12 rfl (s_es Z I 1 ?_)
 clear I;intro w1_12 I
 refine keepS (I.pt 2 [0]) (fun HS=>?_)
 refine Vb Z I HS ((Vn 13∘Vf 14 7) fun a Z I HS=>?_)
 refine s_on Z 15 rfl (s_es Z I 1 ?_)
 clear I;intro w1_15 I
 refine keepS (I.pt 2 [0]) (fun HS=>?_)
 refine Vb Z I HS ((Vn 16∘Vf 17 2) fun a Z I HS=>?_)
 refine s_on Z 18 rfl (s_es Z I 1 ?_)
 clear I;intro w1_18 I
 refine noS kr ?_
 refine qb kr ?_
 exact norm0 rfl Z ⟨rfl,I.pt 2 [1]⟩
theorem q0s {W w:World} {g:Nat} {F F':List Fact} (t:Tk) (x:En) (O:Upd (.blk g t.cells 61) (.blk g (t.put x).cells 61) F F') (I:Mem W w F) (hx:x.Ok):
  Calls Tryz.prog 106 #[vP g 0,.agg x.cells] w (fun r w'=>r= .returned (.tuple #[])∧Mem W w' F'):=by
 obtain ⟨p,q,rfl,rfl⟩:=O.split
 exact (qqv W w g t x hx (p++q) (I.perm List.perm_middle)).mono fun r w' h=>⟨h.1,h.2.perm List.perm_middle.symm⟩
theorem qf5 (id:Int) (w:World):Calls Tryz.prog 101 #[vI id] w (Is w (.bool (decide (1≤id∧id≤65535)))):=by
 refine (JN1 Tryz.func101 9) ?_
 refine (JP∘Jp 1∘Jr∘Jp 3) (Ji (fun hd5=>?_) fun hd5=>?_)
 ·
  exact (Jp 4∘Jd6∘Jj∘JZ∘Jz1) fun I=>qfs om I.below
 exact (Jp 4∘Jd6∘Jj∘JZ∘Jz1) fun I=>is_no om I.below
theorem q0t (gm:Nat) (cp:Int) (cr:Nat) (gA:Option Addr) (ng gc:Nat) (lA:Option Addr) (nl lc:Nat) (uA:Option Addr) (nu uc:Nat) (tA:Option Addr) (nt tc:Nat) (sA:Option Addr) (ns sc:Nat) (c:Int) (w:World)
    (hm:w.heap[gm]?=some (.cells #[vI cp,vQ cr,.slice gA ng gc,.slice lA nl lc,.slice uA nu uc,.slice tA nt tc,.slice sA ns sc,.bool true] 138 (0,0))):
    Calls Tryz.prog 100 #[vP gm 0,vI c] w (Is w (.bool (decide (0≤c∧c<cp)))):=by
 refine (JN2 Tryz.func100 17) ?_
 refine (JP∘Jp 1∘Jr∘Jp 3) (Ji (fun hd7=>?_) fun hd7=>?_)
 ·
  exact (Jp 2∘Jn∘Jf 0∘Jf 0∘Jf 0∘Jy (v:=vI cp) (h:=by exact Yl.qe rfl rfl kr (fun _ h=>h.qcc hm rfl))∘Jp 3∘Jd6∘Jj∘JZ∘Jz1) fun I=>qfs om I.below
 exact (Jv 10 [(4,.bool false)]∘Jd3∘Jj∘JZ∘Jz1) fun I=>is_no om I.below
theorem qil {W w:World} {F T:List Fact} {x:Stm} {ng nl nu nt ns gm:Nat} (n:Nat) (I:Mem W w F) (he:F.drop n=mdA gm x ng nl nu nt ns++T) (_:MdOk x ng nl nu nt ns) (c:Int):Calls Tryz.prog 100 #[vP gm 0,vI c] w (Is w (.bool (decide (0≤c∧c<x.cpus)))):=by
 have h1:fM gm x.cpus x.credit x.gA ng x.gc x.lA nl x.lc x.uA nu x.uc x.tA nt x.tc x.sA ns x.sc∈F:=List.mem_of_mem_drop (i:=n) (by rw [he];exact List.mem_cons_self ..)
 exact q0t gm x.cpus x.credit x.gA ng x.gc x.lA nl x.lc x.uA nu x.uc x.tA nt x.tc x.sA ns x.sc c w (I.holds _ h1).2
def mdB (gm:Nat) (x:Stm):List Fact:=mdA gm x x.gs.length x.cl.length x.cu.length x.ts.length x.rs.length
def OpIs (W:World) (gm:Nat) (T:List Fact) (out:Out30) (r:Ending) (w':World):Prop:=∃y:Stm,r= .returned (.tuple #[.int .i64 out.2.1,.int .i64 (out.2.2:Int)])∧y.sta=out.1∧Mem W w' (mdB gm y++T)
section
variable {W w w':World} {F A T fs:List Fact} {x y:Stm} {ng nl nu nt ns gm g c n:Nat}
theorem Mem.dropN (n:Nat) (h:Mem W w F) (he:F.drop n=A):Mem W w A:=he▸h.subl (List.drop_sublist ..)
theorem Mem.toB (h:Mem W w (mdA gm y ng nl nu nt ns++T)) (hl:Lns y ng nl nu nt ns):Mem W w (mdB gm y++T):=by
 obtain ⟨rfl,rfl,rfl,rfl,rfl⟩:=hl
 exact h
theorem qr {out:Out30} {got:Int} {e:Nat} (n:Nat) (I:Mem W w F) (he:F.drop n=mdA gm y ng nl nu nt ns++T) (hl:Lns y ng nl nu nt ns) (hout:out=(y.sta,got,e)):OpIs W gm T out (.returned (.tuple #[.int .i64 got,.int .i64 (e:Int)])) w:=by
 subst hout
 exact ⟨y,rfl,rfl,(I.dropN n he).toB hl⟩
structure TkGood (t:Tk) (cp:Int) (ns:Nat):Prop where
 id:1≤t.id∧t.id≤65535
 group:0≤t.group∧t.group<ns
 cpu:0≤t.cpu∧t.cpu<cp
 weight:1≤t.weight∧t.weight≤65536
 mask:qdw t.mask cp=false
 bit:t.mask/2^t.cpu.toNat%2=1
 ent:entOk t.v t.r t.weight=true
theorem qha {s:Sta} {t:Tk}:tkOk1 s t=true↔TkGood t s.cpus s.sp.length:=by
 unfold tkOk1 wOk
 simp only [Bool.and_eq_true,decide_eq_true_eq,Bool.not_eq_true']
 constructor
 ·rintro ⟨⟨h1,h2,h3,h4,h5,h6⟩,h7,h8,h9,h10⟩
  exact ⟨⟨h1,h2⟩,⟨h3,h4⟩,⟨h5,h6⟩,h7,h8,h9,h10⟩
 ·intro h
  exact ⟨⟨h.id.1,h.id.2,h.group.1,h.group.2,h.cpu.1,h.cpu.2⟩,h.weight,h.mask,h.bit,h.ent⟩
theorem MdOk.task (h:MdOk x ng nl nu nt ns) {k:Nat} {t:Tk} (ht:x.ts[k]?=some t):TkGood t x.cpus ns∧t.Ok:=by
 obtain ⟨hk,rfl⟩:=List.getElem?_eq_some_iff.1 ht
 have h1:=(qgt (h.sh.tk k hk)).2
 rw [List.getD_eq_getElem?_getD,List.getElem?_eq_getElem hk] at h1
 have h2:=qha.1 h1
 rw [zh,h.ln.s] at h2
 exact ⟨h2,h.ok.ts _ (List.getElem_mem hk)⟩
theorem qhb {l:List Tk} {id:Int} (h:¬fidx l id<0):∃(k:Nat) (t:Tk),fidx l id=(k:Int)∧l[k]?=some t∧k<l.length∧t.id=id:=by
 obtain ⟨k,h1,_,h3,h4⟩:=qow h
 exact ⟨k,l.getD k Tk.zero,h1,getD_at Tk.zero h3,h3,h4⟩
theorem qcb {s:Sta} {id:Int} {k:Nat} {t:Tk} (h:fidx s.ts id=(k:Int)) (ht:s.ts[k]?=some t):tkOf s id=t:=by
 unfold tkOf
 rw [h]
 exact zy Tk.zero ht
theorem En.qh6 {v r w:Nat} {wi:Int} (h:entOk v r wi=true) (hw:wi=(w:Int)) (hv:v<18446744073709551616):(⟨v,r,w⟩:En).Ok:=⟨by rw [hw] at h;exact h,hv⟩
theorem tk_en {t:Tk} {w:Nat} (h:t.weight=(w:Int)):t.en=⟨t.v,t.r,w⟩:=by unfold Tk.en;rw [h];rfl
theorem qim {x:Stm} {ts':List Tk} (h:Lns x ng nl nu nt ns) (ht:ts'.length=nt):Lns {x with ts:=ts'} ng nl nu nt ns:=⟨h.g,h.l,h.u,ht,h.s⟩
theorem qo2 {x:Stm} {rs':List Rw} (h:Lns x ng nl nu nt ns) (ht:rs'.length=ns):Lns {x with rs:=rs'} ng nl nu nt ns:=⟨h.g,h.l,h.u,h.t,ht⟩
end
theorem nf {b:Bool} (h:b=true):¬b=false:=by rw [h];decide
theorem nt' {b:Bool} (h:b=false):¬b=true:=by rw [h];decide
section
variable {x:Stm} {o:Op30} {k gt ct wt c d g:Nat} {t:Tk} {e:En} {z:Sp} {em:List Nat}
theorem qlb (h1:idOk o.task=true) (h2:wOk o.weight=true) (hk:fidx x.ts o.task=(k:Int)) (ht:x.ts[k]?=some t) (hw:o.weight=(wt:Int)):qan x.sta o=(({x with ts:=x.ts.set k (t.put ⟨t.v,0,wt⟩)}:Stm).sta,0,0):=by
 unfold qan
 rw [if_neg (nf h1),if_neg (nf h2),if_neg (by rw [show x.sta.ts=x.ts from rfl,hk];omega),qcb (s:=x.sta) hk ht,show x.sta.ts=x.ts from rfl,hk,Int.toNat_natCast,hw]
 rfl
theorem qt1 (h1:idOk o.task=true) (hk:fidx x.ts o.task=(k:Int)) (ht:x.ts[k]?=some t) (hr:t.ready=false) (hg:t.group=(gt:Int)) (hc:t.cpu=(ct:Int)) (hw:t.weight=(wt:Int)) (hz:x.sta.spot gt ct=z) (he:(⟨t.v,t.r,wt⟩:En).woken z.floor x.credit=e) (hem:zf x.sta gt ct=em):
  qen x.sta o=(wakeS ({x with ts:=x.ts.set k {t.put e with ready:=true}}:Stm).sta em ct,0,0):=by
 unfold qen
 rw [if_neg (nf h1),if_neg (by rw [show x.sta.ts=x.ts from rfl,hk];omega),qcb (s:=x.sta) hk ht,if_neg (by rw [hr];decide)]
 show (wakeS (x.sta.setT (fidx x.ts o.task).toNat {t.put (t.en.woken (x.sta.spot t.group.toNat t.cpu.toNat).floor x.credit) with ready:=true}) (zf x.sta t.group.toNat t.cpu.toNat) t.cpu.toNat,(0:Int),0)=_
 rw [hk,Int.toNat_natCast,hg,hc,Int.toNat_natCast,Int.toNat_natCast,hz,tk_en hw,he,hem]
 rfl
theorem qw2 (hc:o.cpu=(c:Int)) (hok:x.sta.qdf o.cpu=true):pickS x.sta o=(({x with cu:=x.cu.set c (z9 x.sta c)}:Stm).sta,(z9 x.sta c:Int),0):=by
 unfold pickS
 rw [if_neg (nf hok),hc,Int.toNat_natCast]
 rfl
def qfh (c d g:Nat) (s:Sta):Sta:=zr c d g g s
theorem qlc {c d g f:Nat} {s:Sta} (hp:∀i,0<i→i≤g→ParB s.gs i) (h:g≤f):zr c d f g s=zr c d g g s:=by
 have key:∀(g f f':Nat) (s:Sta),(∀i,0<i→i≤g→ParB s.gs i)→g≤f→g≤f'→zr c d f g s=zr c d f' g s:=by
  intro g
  induction g using Nat.strongRecOn with
  | _ g ih =>
   intro f f' s hp h1 h2
   by_cases h0:g=0
   ·subst h0
    cases f<;>cases f'<;>simp [zr]
   ·obtain ⟨f,rfl⟩:∃k,f=k+1:=⟨f-1,by omega⟩
    obtain ⟨f',rfl⟩:∃k,f'=k+1:=⟨f'-1,by omega⟩
    have hg:=hp g om (Nat.le_refl _)
    unfold ParB at hg
    have e:(s.par g).toNat<g:=by show (s.gs.getD g Gr.zero).parent.toNat<g;omega
    rw [zr,zr,if_neg h0,if_neg h0]
    exact ih (s.par g).toNat e f f' _ (fun i hi hl=>hp i hi om) om om
 exact key g f g s hp h (Nat.le_refl _)
theorem qld {s:Sta} (hp:∀i,0<i→i≤g→ParB s.gs i) (h0:0<g) {p:Nat} (hpp:(s.gs.getD g Gr.zero).parent=(p:Int)):qfh c d g s=qfh c d p (s.qhy g c ((s.spEn g c).add d)):=by
 obtain ⟨k,rfl⟩:∃k,g=k+1:=⟨g-1,by omega⟩
 have hg:=hp (k+1) h0 (Nat.le_refl _)
 unfold ParB at hg
 show zr c d (k+1) (k+1) s=_
 rw [zr,if_neg om]
 have e:(s.par (k+1)).toNat=p:=by show (s.gs.getD (k+1) Gr.zero).parent.toNat=p;rw [hpp];rfl
 rw [e]
 exact qlc (s:=s.qhy (k+1) c ((s.spEn (k+1) c).add d)) (fun i hi hl=>hp i hi om) om
theorem qt2 (hok:x.sta.qdf o.cpu=true) (h1:1≤o.ticks∧o.ticks≤4294967295) (hc:o.cpu=(c:Int)) {v:Int} (hv:x.cl.getD c 0=v) (h2:¬281474976710656<v+o.ticks) (hcu:x.cu.getD c 0=0):tickS x.sta o=(({x with cl:=x.cl.set c (v+o.ticks)}:Stm).sta,0,0):=by
 unfold tickS
 rw [if_neg (nf hok),if_neg om,hc,Int.toNat_natCast,show x.sta.cl=x.cl from rfl,hv,if_neg h2]
 dsimp only
 rw [show x.sta.cu=x.cu from rfl,if_pos hcu]
 rfl
theorem qw3 (hok:x.sta.qdf o.cpu=true) (h1:1≤o.ticks∧o.ticks≤4294967295) (hc:o.cpu=(c:Int)) (hd:o.ticks=(d:Int)) {v id:Int} (hv:x.cl.getD c 0=v) (h2:¬281474976710656<v+o.ticks) (hcu:x.cu.getD c 0=id) (hid:id≠0)
  (hk:fidx x.ts id=(k:Int)) (ht:x.ts[k]?=some t) (hg:t.group=(gt:Int)) (hw:t.weight=(wt:Int)) (he:(⟨t.v,t.r,wt⟩:En).add d=e):
  tickS x.sta o=(qfh c d gt ({x with cl:=x.cl.set c (v+d),ts:=x.ts.set k (t.put e)}:Stm).sta,id,0):=by
 unfold tickS
 rw [if_neg (nf hok),if_neg om,hc,Int.toNat_natCast,show x.sta.cl=x.cl from rfl,hv,if_neg h2]
 dsimp only
 rw [show x.sta.cu=x.cu from rfl,hcu,if_neg hid,qcb (s:=x.sta) hk ht,hg,show x.sta.ts=x.ts from rfl,hk,Int.toNat_natCast,Int.toNat_natCast,hd,Int.toNat_natCast,tk_en hw,he]
 rfl
def upd {α:Type} (f:α→α) (l:List α) (k:Nat):List α:=(l.take k).map f++l.drop k
theorem q0u {α:Type} (f:α→α) (l:List α) (k:Nat):(upd f l k).length=l.length:=by
 unfold upd
 rw [List.length_append,List.length_map,List.length_take,List.length_drop]
 omega
theorem qw4 {α:Type} (f:α→α) (l:List α):upd f l 0=l:=rfl
theorem q0v {α:Type} (f:α→α) (l:List α) {k:Nat} (h:l.length≤k):upd f l k=l.map f:=by
 unfold upd
 rw [List.take_of_length_le h,List.drop_of_length_le h,List.append_nil]
theorem q0w {α:Type} (f:α→α) {l:List α} {k j:Nat} (h:k≤j):(upd f l k)[j]?=l[j]?:=by
 unfold upd
 rcases Nat.lt_or_ge j l.length with h1|h1
 ·rw [List.getElem?_append_right (by rw [List.length_map,List.length_take];omega),List.length_map,List.length_take,List.getElem?_drop]
  congr 1
  omega
 ·rw [List.getElem?_eq_none (by rw [List.length_append,List.length_map,List.length_take,List.length_drop];omega),List.getElem?_eq_none h1]
theorem q0x {α:Type} (f:α→α) {l:List α} {k:Nat} {z:α} (h:l[k]?=some z):(upd f l k).set k (f z)=upd f l (k+1):=by
 obtain ⟨hk,rfl⟩:=List.getElem?_eq_some_iff.1 h
 unfold upd
 have h1:((l.take k).map f).length=k:=by rw [List.length_map,List.length_take];omega
 rw [List.set_append,if_neg (by rw [h1];omega),h1,Nat.sub_self,List.drop_eq_getElem_cons hk,List.set_cons_zero,List.take_succ_eq_append_getElem hk,List.map_append,List.append_assoc]
 rfl
def r0 (z:Sp):Sp:={z with r:=0}
theorem qng (hg:o.group=(g:Int)) (h1:1≤o.group∧o.group<x.rs.length) (h2:wOk o.weight=true) {yA:Option Addr} {yc:Nat} {yl:List Sp} (hy:x.rs.getD g Rw.zero=⟨yA,yc,yl⟩) {gr:Gr} (hgr:x.gs.getD g Gr.zero=gr):
  qbd x.sta o=(({x with rs:=x.rs.set g ⟨yA,yc,yl.map r0⟩,gs:=x.gs.set g {gr with weight:=o.weight}}:Stm).sta,0,0):=by
 have hgl:g<x.rs.length:=by omega
 unfold qbd
 rw [if_neg (by rw [zh];omega),if_neg (nf h2),hg,Int.toNat_natCast]
 unfold Stm.sta
 simp only [List.map_set]
 rw [qbj hgl,hy,hgr]
 rfl
theorem qw5 {to:Nat} {z1 z2:Sp} (ht:x.ts[k]?=some t) (hg:t.group=(gt:Int)) (hc:t.cpu=(ct:Int)) (hw:t.weight=(wt:Int)) (hz1:x.sta.spot gt ct=z1) (hz2:x.sta.spot gt to=z2) (he:(⟨t.v,t.r,wt⟩:En).moved z1.floor z2.floor=e) (hem:zf x.sta gt to=em):
  moveS x.sta k (to:Int)=if t.ready=true then wakeS ({x with ts:=x.ts.set k {t.put e with cpu:=(to:Int)}}:Stm).sta em to else ({x with ts:=x.ts.set k {t.put e with cpu:=(to:Int)}}:Stm).sta:=by
 have e1:x.sta.ts.getD k Tk.zero=t:=zy Tk.zero ht
 unfold moveS
 rw [e1]
 dsimp only
 rw [hg,hc,Int.toNat_natCast,Int.toNat_natCast,Int.toNat_natCast,hz1,hz2,tk_en hw,he,hem]
 rfl
end
def StIs (W:World) (gm:Nat) (T:List Fact) (s:Sta) (r:Ending) (w':World):Prop:=∃y:Stm,r= .returned (.tuple #[])∧y.sta=s∧Mem W w' (mdB gm y++T)
section
variable {W w w':World} {F A T fs:List Fact} {x y:Stm} {ng nl nu nt ns gm g c n:Nat}
theorem qt3 {s:Sta} (n:Nat) (I:Mem W w F) (he:F.drop n=mdA gm y ng nl nu nt ns++T) (hl:Lns y ng nl nu nt ns) (hs:y.sta=s):StIs W gm T s (.returned (.tuple #[])) w:=⟨y,rfl,hs,(I.dropN n he).toB hl⟩
theorem qy7 {out:Out30} {got:Int} {e:Nat} (n:Nat) (I:Mem W w F) (he:F.drop n=mdB gm y++T) (hout:out=(y.sta,got,e)):OpIs W gm T out (.returned (.tuple #[.int .i64 got,.int .i64 (e:Int)])) w:=by
 subst hout
 exact ⟨y,rfl,rfl,I.dropN n he⟩
theorem qt4 {rs rs2:List Rw} {yA:Option Addr} {yc:Nat} {yl:List Sp} {z:Sp} (hg:g<rs.length) (hz:yl[c]?=some z) (hr:rs2=rs.set g ⟨yA,yc,upd r0 yl c⟩):rsPut rs2 g c (r0 z)=rs.set g ⟨yA,yc,upd r0 yl (c+1)⟩:=by
 subst hr
 unfold rsPut
 rw [qi _ _ hg,List.set_set]
 show rs.set g ⟨yA,yc,(upd r0 yl c).set c (r0 z)⟩=_
 rw [q0x r0 hz]
end
def bestI:Option Nat→Int
 |none=> -1
 |some b=>(b:Int)
def qey (s:Sta) (o:Op30) (be:Int) (t:Tk):Bool:=mayB s o t&& (decide (be<0)||decide ((s.ts.getD be.toNat Tk.zero).weight<t.weight))
section
variable {s:Sta} {o:Op30} {n:Nat}
theorem qf6:∀{n b:Nat},bestF s o n=some b→b<n
 |0,b,h=>by cases h
 | n + 1, b, h => by
  rw [bestF] at h
  split at h
  ·split at h
   ·injection h with h;omega
   ·rename_i b' hb
    split at h
    ·injection h with h;omega
    ·injection h with h;have:=qf6 hb;omega
  ·have:=qf6 h;omega
theorem qle {be:Int} (hb:bestI (bestF s o n)=be):bestI (bestF s o (n+1))=if qey s o be (s.ts.getD n Tk.zero) then (n:Int) else be:=by
 subst hb
 rw [bestF]
 unfold qey
 cases hm:mayB s o (s.ts.getD n Tk.zero) with
 |false=>rw [if_neg de,Bool.false_and,if_neg de]
 | true =>
  rw [if_pos rfl,Bool.true_and]
  cases hbf:bestF s o n with
  |none=>simp [bestI]
  |some b=>
   have e1:bestI (some b)=(b:Int):=rfl
   rw [e1,show decide ((b:Int)<0)=false from decide_eq_false om,Bool.false_or,Int.toNat_natCast]
   dsimp only
   by_cases h:(s.ts.getD b Tk.zero).weight<(s.ts.getD n Tk.zero).weight
   ·rw [if_pos h,if_pos (by rw [decide_eq_true h])];rfl
   ·rw [if_neg h,if_neg (by rw [decide_eq_false h];decide)];rfl
theorem qhc {be:Int} (hb:bestI (bestF s o n)=be): -1≤be∧be<n:=by
 subst hb
 cases h:bestF s o n with
 |none=>exact ⟨by decide,by show (-1:Int)<n;omega⟩
 |some b=>have:=qf6 h;exact ⟨by show (-1:Int)≤(b:Int);omega,by show (b:Int)<n;omega⟩
theorem qin {cpu:Int} {M:Int} (hM:∀c,loadS s c≤M∧0≤loadS s c) (h0:0≤M):∀n:Nat,-1≤(busyF s cpu n).1∧(busyF s cpu n).1<n∧ -1≤(busyF s cpu n).2∧(busyF s cpu n).2≤M
 |0=>⟨by show (-1:Int)≤ -1;decide,by show (-1:Int)<0;decide,by show (-1:Int)≤ -1;decide,by show (-1:Int)≤M;omega⟩
 |n+1=>by
  have ih:=qin (cpu:=cpu) hM h0 n
  have hn:=hM n
  rw [busyF]
  split
  ·exact ⟨by show (-1:Int)≤(n:Int);omega,by show (n:Int)<(n+1:Nat);omega,by show (-1:Int)≤loadS s n;omega,hn.1⟩
  ·exact ⟨ih.1,by have:=ih.2.1;omega,ih.2.2⟩
theorem qhd {cpu fr mo:Int} (hb:busyF s cpu n=(fr,mo)):busyF s cpu (n+1)=if (n:Int)≠cpu∧mo<loadS s n then ((n:Int),loadS s n) else (fr,mo):=by
 rw [busyF,hb]
theorem qlf {x:Stm} {o:Op30} (hok:x.sta.qdf o.cpu=true) (hb:bestI (bestF x.sta o x.ts.length)= -1):qao x.sta o=(x.sta,0,6):=by
 unfold qao
 rw [if_neg (nf hok),show x.sta.ts=x.ts from rfl]
 cases h:bestF x.sta o x.ts.length with
 |none=>rfl
 |some b=>rw [h] at hb;exact absurd hb (by show ((b:Nat):Int)≠ -1;omega)
theorem qlg {x:Stm} {o:Op30} {k:Nat} {t:Tk} (hok:x.sta.qdf o.cpu=true) (hb:bestI (bestF x.sta o x.ts.length)=(k:Int)) (ht:x.ts[k]?=some t):qao x.sta o=(moveS x.sta k o.cpu,t.id,0):=by
 unfold qao
 rw [if_neg (nf hok),show x.sta.ts=x.ts from rfl]
 cases h:bestF x.sta o x.ts.length with
 |none=>rw [h] at hb;exact absurd hb (by show (-1:Int)≠(k:Int);omega)
 |some b=>
  rw [h] at hb
  have e:b=k:=by have h1:(b:Int)=(k:Int):=hb;omega
  subst e
  dsimp only
  rw [zy Tk.zero ht]
theorem qnh {x:Stm} {o:Op30} {k:Nat} {t:Tk} (h1:x.sta.qdf o.to=true) (h2:idOk o.task=true) (hk:fidx x.ts o.task=(k:Int)) (ht:x.ts[k]?=some t) (h3:o.task∉x.cu) (h4:t.cpu≠o.to) (h5:bitOn t.mask o.to=true):qbe x.sta o=(moveS x.sta k o.to,0,0):=by
 unfold qbe
 rw [if_neg (nf h1),if_neg (nf h2),if_neg (by rw [show x.sta.ts=x.ts from rfl,hk];omega),if_neg (show ¬o.task∈x.sta.cu from h3),qcb (s:=x.sta) hk ht,if_neg h4,if_neg (nf h5),show x.sta.ts=x.ts from rfl,hk,Int.toNat_natCast]
end
theorem qjq (t:Tk):∀u∈tkL t,u.oneCell'=true:=by simp [tkL,Value.oneCell']
theorem qt5 (l:List Tk) (t:Tk):l.flatMap tkL++tkL t=(l++[t]).flatMap tkL:=by simp
theorem q9 (l:List Tk):(l.flatMap tkL).length=l.length*8:=zt tkL 8 qf l
def zT (m:Nat):List Value:=(Builtin.zeroCells (Value.agg Tk.zero.cells).cells m).toList
theorem qo3 (m:Nat):(zT m).length=m*8:=by unfold zT;rw [Array.length_toList,size_zeroCells];rfl
theorem q22 (m:Nat):∀v∈zT m,v.oneCell'=true:=by
 intro v hv
 unfold zT Builtin.zeroCells at hv
 simp only [Array.toList_map,List.mem_map] at hv
 obtain ⟨k,_,rfl⟩:=hv
 have hs:(Value.agg Tk.zero.cells).cells.size=8:=rfl
 have hk:k% (Value.agg Tk.zero.cells).cells.size<8:=by rw [hs];exact Nat.mod_lt _ de
 generalize k% (Value.agg Tk.zero.cells).cells.size=j at hk
 have:∀j,j<8→((Value.agg Tk.zero.cells).cells[j]!).oneCell'=true:=by decide
 exact this j hk
theorem Mem.tkCells {W w:World} {fs:List Fact} (h:Mem W w fs) {j g n c a:Nat} {l q:List Tk} {ys:List Value} (hi:fs[j]?=some (.row (.slice (some ⟨g,0,none⟩) n c) n (l.flatMap tkL++ys) 61 8)) (hq:∃b,(l.drop a).take b=q) (ha:a≤l.length):∀k v,(q.flatMap tkL)[k]?=some v→w.cell? ((⟨g,a*8,none⟩:Addr).add k)=some v:=by
 obtain ⟨b,rfl⟩:=hq
 intro k v hv
 rw [Addr.add_mid]
 refine h.qga hi (a*8) (ys:=((l.drop a).take b).flatMap tkL) (fun k v hv=>?_) k v hv
 have h1:l.flatMap tkL=(l.take a).flatMap tkL++(((l.drop a).take b).flatMap tkL++((l.drop a).drop b).flatMap tkL):=by
  rw [←List.flatMap_append,List.take_append_drop,←List.flatMap_append,List.take_append_drop]
 have h2:((l.take a).flatMap tkL).length=a*8:=by rw [q9,List.length_take];omega
 have h3:=(List.getElem?_eq_some_iff.1 hv).1
 rw [h1,List.append_assoc,←h2,List.getElem?_append_right (Nat.le_add_right _ _),Nat.add_sub_cancel_left,List.append_assoc,List.getElem?_append_left h3]
 exact hv
def qdc (l:List Tk) (id:Int):Nat:=(l.takeWhile fun t=>decide (t.id≤id)).length
theorem qlh (l:List Tk) (id:Int):qdc l id≤l.length:=(List.takeWhile_sublist _).length_le
theorem qio (l:List Tk) (id:Int):l.take (qdc l id)=(l.takeWhile fun t=>decide (t.id≤id))∧l.drop (qdc l id)=(l.dropWhile fun t=>decide (t.id≤id)):=by
 have h1:=List.take_left (l₁:=l.takeWhile fun t=>decide (t.id≤id)) (l₂:=l.dropWhile fun t=>decide (t.id≤id))
 have h2:=List.drop_left (l₁:=l.takeWhile fun t=>decide (t.id≤id)) (l₂:=l.dropWhile fun t=>decide (t.id≤id))
 rw [List.takeWhile_append_dropWhile] at h1 h2
 exact ⟨h1,h2⟩
theorem qli {l:List Tk} {id:Int} {k:Nat} (hk:k≤l.length) (h:∀j,j<k→(l.getD j Tk.zero).id≤id) (hs:k=l.length∨id<(l.getD k Tk.zero).id):qdc l id=k:=by
 induction l generalizing k with
 |nil=>simp at hk;subst hk;rfl
 | cons t r ih =>
  unfold qdc at*
  cases k with
  | zero =>
   rcases hs with h1|h1
   ·simp at h1
   ·have h2:¬t.id≤id:=by have h3:id<t.id:=h1;omega
    rw [List.takeWhile_cons,if_neg (by rw [decide_eq_true_eq];exact h2)]
    rfl
  | succ k =>
   have h0:t.id≤id:=h 0 om
   rw [List.takeWhile_cons,if_pos (by rw [decide_eq_true_eq];exact h0),List.length_cons]
   rw [ih (k:=k) (by simpa using hk) (fun j hj=>h (j+1) om) (by
    rcases hs with h1|h1
    ·exact .inl (by simpa using h1)
    ·exact .inr h1)]
def InsIs (w:World) (l:List Tk) (id:Int) (r:Ending) (w':World):Prop:=(∃i:Int,r= .returned (.int .i64 i)∧(if i<0 then l.length else i.toNat)=qdc l id∧ -1≤i∧i≤l.length)∧Below w.heap.size w w'
theorem qqw {w w':World} {l:List Tk} {id:Int} {k:Nat} (hk:k<l.length) (h:∀j,j<k→(l.getD j Tk.zero).id≤id) (hs:id<(l.getD k Tk.zero).id) (hb:Below w.heap.size w w'):InsIs w l id (.returned (.int .i64 (k:Int))) w':=
 ⟨⟨k,rfl,by rw [if_neg om,qli om h (.inr hs)];rfl,by omega,by omega⟩,hb⟩
theorem qqx {w w':World} {l:List Tk} {id:Int} (h:∀j,j<l.length→(l.getD j Tk.zero).id≤id) (hb:Below w.heap.size w w'):InsIs w l id (.returned (.int .i64 (-1))) w':=
 ⟨⟨-1,rfl,by rw [if_pos de,qli (Nat.le_refl _) h (.inl rfl)],by omega,by omega⟩,hb⟩
theorem qqy {l:List Tk} {id:Int} {k:Nat} (h:∀j,j<k→(l.getD j Tk.zero).id≤id) (hk:(l.getD k Tk.zero).id≤id):∀j,j<k+1→(l.getD j Tk.zero).id≤id:=fun j hj=>by
 rcases Nat.lt_or_ge j k with h1|h1
 ·exact h j h1
 ·obtain rfl:j=k:=by omega
  exact hk
def insT (l:List Tk) (i:Nat) (t:Tk):List Tk:=l.take i++t::l.drop i
theorem qlj (l:List Tk) (i:Nat) (t:Tk):(insT l i t).flatMap tkL=(l.take i).flatMap tkL++(tkL t++(l.drop i).flatMap tkL):=by
 unfold insT
 rw [List.flatMap_append,List.flatMap_cons]
theorem qf7 {l:List Tk} {i:Nat} {t:Tk} (h:i≤l.length):(insT l i t).length=l.length+1:=by
 unfold insT
 rw [List.length_append,List.length_cons,List.length_take,List.length_drop]
 omega
theorem qw6 {l:List Tk} {i:Nat} {t:Tk} (h:i=l.length):l++[t]=insT l i t:=by
 subst h
 unfold insT
 rw [List.take_length,List.drop_length]
theorem qw7 {l:List Tk} {i:Nat} {t:Tk} (h:i≤l.length):putAt (putAt ((l.take i).flatMap tkL++zT (l.length+1-i)) (i*8) (tkL t)) ((i+1)*8) ((l.drop i).flatMap tkL)=(insT l i t).flatMap tkL:=by
 have h1:((l.take i).flatMap tkL).length=i*8:=by rw [q9,List.length_take];omega
 have h2:((l.take i).flatMap tkL++tkL t).length=(i+1)*8:=by rw [List.length_append,h1,qf];omega
 have e:((zT (l.length+1-i)).drop (tkL t).length).drop ((l.drop i).flatMap tkL).length=[]:=List.drop_of_length_le (by rw [List.length_drop,qo3,qf,q9,List.length_drop];omega)
 rw [←h1,qej,←h2,qej,qlj,e,List.append_nil,List.append_assoc]
theorem qt6 {l:List Tk} {i:Nat} {t:Tk} {ys:List Value} (h:i≤l.length) (hy:ys.length=8):putAt (putAt (l.flatMap tkL++ys) ((i+1)*8) ((l.drop i).flatMap tkL)) (i*8) (tkL t)=(insT l i t).flatMap tkL:=by
 have h1:((l.take i).flatMap tkL).length=i*8:=by rw [q9,List.length_take];omega
 have h3:((l.drop i).flatMap tkL).length=(l.length-i)*8:=by rw [q9,List.length_drop]
 have h2:l.flatMap tkL++ys=(l.take i).flatMap tkL++((l.drop i).flatMap tkL++ys):=by
  rw [←List.append_assoc,←List.flatMap_append,List.take_append_drop]
 rw [h2,show (i+1)*8=((l.take i).flatMap tkL).length+8 by rw [h1];omega,qp2,←h1,qej,qlj,List.append_assoc]
 congr 2
 rw [qf]
 unfold putAt
 have e:((l.drop i).flatMap tkL++ys).drop (8+((l.drop i).flatMap tkL).length)=[]:=List.drop_of_length_le (by rw [List.length_append,h3,hy];omega)
 rw [List.append_assoc,List.drop_left' (by rw [List.length_take,List.length_append,h3,hy];omega),e,List.append_nil]
theorem qw8 {l:List Tk} {i:Nat} (h:i<l.length):(l.take i).flatMap tkL++(l.drop (i+1)).flatMap tkL=(l.eraseIdx i).flatMap tkL:=by
 rw [←List.flatMap_append,List.eraseIdx_eq_take_drop_succ]
section
variable {x:Stm} {o:Op30} {k g c z:Nat} {t t1:Tk} {em:List Nat} {id:Int}
theorem qqz (hok:x.sta.qdf o.cpu=true) (hc:o.cpu=(c:Int)) (hcu:x.cu.getD c 0=id) (hid:id≠0) (hk:fidx x.ts id=(k:Int)) (ht:x.ts[k]?=some t) (hkd:o.kind≠4):qby x.sta o=(({x with cu:=x.cu.set c 0,ts:=x.ts.set k {t with ready:=false}}:Stm).sta,id,0):=by
 unfold qby
 rw [if_neg (nf hok),hc,Int.toNat_natCast,show x.sta.cu=x.cu from rfl,hcu,if_neg hid]
 dsimp only
 rw [show x.sta.ts=x.ts from rfl,hk,Int.toNat_natCast,zy Tk.zero ht,if_neg hkd]
 rfl
theorem qw9 (hok:x.sta.qdf o.cpu=true) (hc:o.cpu=(c:Int)) (hcu:x.cu.getD c 0=id) (hid:id≠0) (hk:fidx x.ts id=(k:Int)) (ht:x.ts[k]?=some t) (hkd:o.kind=4):qby x.sta o=(({x with cu:=x.cu.set c 0,ts:=(x.ts.set k {t with ready:=false}).eraseIdx k}:Stm).sta,id,0):=by
 unfold qby
 rw [if_neg (nf hok),hc,Int.toNat_natCast,show x.sta.cu=x.cu from rfl,hcu,if_neg hid]
 dsimp only
 rw [show x.sta.ts=x.ts from rfl,hk,Int.toNat_natCast,zy Tk.zero ht,if_pos hkd]
 rfl
theorem qlk (hok:x.sta.qdf o.cpu=true) (h1:idOk o.task=true) (h2:0≤o.group∧o.group<x.rs.length) (h3:¬(wOk o.weight=false∨o.mask=0∨qdw o.mask x.cpus=true)) (h4:fidx x.ts o.task<0) (h5:bitOn o.mask o.cpu=true) (hg:o.group=(g:Int)) (hc:o.cpu=(c:Int)) {fl:Nat} (hz:(x.sta.spot g c).floor=fl)
  (ht:(⟨o.task,o.group,o.weight,o.cpu,o.mask,true,fl,0⟩:Tk)=t1) (hem:zf x.sta g c=em):qem x.sta o=(wakeS ({x with ts:=insT x.ts (qdc x.ts o.task) t1}:Stm).sta em c,0,0):=by
 unfold qem
 rw [if_neg (nf hok),if_neg (nf h1),if_neg (by rw [zh];omega),if_neg (show ¬(wOk o.weight=false∨o.mask=0∨qdw o.mask x.sta.cpus=true) from h3),if_neg (by rw [show x.sta.ts=x.ts from rfl];omega),if_neg (nf h5),hg,hc,Int.toNat_natCast,Int.toNat_natCast,hem,hz]
 rw [hg,hc] at ht
 rw [show x.sta.ts=x.ts from rfl,ht]
 unfold insT
 rw [(qio x.ts o.task).1,(qio x.ts o.task).2]
 rfl
end
structure Shp (s:Sta):Prop where
 ok:s.Ok
 cpus:1≤s.cpus∧s.cpus≤64
 credit:s.credit≤1099511627776
 gs:gsOk s.gs=true
 cl:(s.cl.length:Int)=s.cpus
 cu:(s.cu.length:Int)=s.cpus
 sp:s.sp.length=s.gs.length
 cls:∀c,c<s.cl.length→clOk (s.cl.getD c 0)=true
 rows:∀g,g<s.sp.length→((s.sp.getD g []).length:Int)=s.cpus
 spots:∀(g c:Nat),g<s.sp.length→(c:Int)<s.cpus→spOk s g (s.spot g c)=true
 sort:SortT s.ts
 tasks:∀t∈s.ts,TkGood t s.cpus s.sp.length
def CurS (s:Sta):Prop:=∀c,c<s.cu.length→s.cu.getD c 0=0∨∃t∈s.ts,t.id=s.cu.getD c 0∧t.ready=true∧t.cpu=(c:Int)
structure GoodS (s:Sta):Prop where
 sh:Shp s
 cur:CurS s
theorem qo4 {s:Sta}:(∀i,i<s.ts.length→(i=0∨(s.ts.getD (i-1) Tk.zero).id<(s.ts.getD i Tk.zero).id))↔SortT s.ts:=by
 constructor
 ·intro h i j hij
  induction j with
  |zero=>omega
  | succ j ih =>
   intro hj
   have h1:=h (j+1) hj
   rw [Nat.add_sub_cancel] at h1
   rcases Nat.lt_or_ge i j with h2|h2
   ·have:=ih h2 om;omega
   ·obtain rfl:i=j:=by omega
    omega
 ·intro h i hi
  rcases Nat.eq_zero_or_pos i with h0|h0
  ·exact .inl h0
  ·exact .inr (h (i-1) i om hi)
theorem qaf {α:Type} {l:List α} {x:α} (d:α) (h:x∈l):∃i,i<l.length∧l.getD i d=x:=by
 obtain ⟨i,hi,rfl⟩:=List.getElem_of_mem h
 exact ⟨i,hi,by rw [List.getD_eq_getElem?_getD,List.getElem?_eq_getElem hi];rfl⟩
theorem qjr {s:Sta} (hok:s.Ok):zd s=true↔Shp s:=by
 unfold zd cfgOk qoe
 simp only [Bool.and_eq_true,decide_eq_true_eq]
 constructor
 ·rintro ⟨⟨⟨⟨h1,h2,h3⟩,h4⟩,h5,h6,h7⟩,h8,h9,h10⟩
  have hr:∀g,g<s.sp.length→((s.sp.getD g []).length:Int)=s.cpus∧∀c,c<(s.sp.getD g []).length→spOk s g (s.spot g c)=true:=fun g hg=>by
   have:=qbn h9 hg
   unfold rowOk at this
   rw [Bool.and_eq_true,decide_eq_true_eq] at this
   exact ⟨this.1,fun c hc=>qbn this.2 hc⟩
  have ht:∀i,i<s.ts.length→(i=0∨(s.ts.getD (i-1) Tk.zero).id<(s.ts.getD i Tk.zero).id)∧tkOk1 s (s.ts.getD i Tk.zero)=true:=fun i hi=>by
   have:=qbn h10 hi
   unfold tkAt at this
   rw [Bool.and_eq_true,Bool.or_eq_true,beq_iff_eq,decide_eq_true_eq] at this
   exact this
  refine ⟨hok,⟨h1,h2⟩,h3,h4,h5,h6,h7,fun c hc=>qbn h8 hc,fun g hg=>(hr g hg).1,fun g c hg hc=>(hr g hg).2 c (by have:=(hr g hg).1;omega),qo4.1 fun i hi=>(ht i hi).1,fun t ht'=>?_⟩
  obtain ⟨i,hi,rfl⟩:=qaf Tk.zero ht'
  exact qha.1 (ht i hi).2
 ·intro h
  refine ⟨⟨⟨⟨h.cpus.1,h.cpus.2,h.credit⟩,h.gs⟩,h.cl,h.cu,h.sp⟩,qbm h.cls,qbm fun g hg=>?_,qbm fun i hi=>?_⟩
  ·unfold rowOk
   rw [Bool.and_eq_true,decide_eq_true_eq]
   exact ⟨h.rows g hg,qbm fun c hc=>h.spots g c hg (by have:=h.rows g hg;omega)⟩
  ·unfold tkAt
   rw [Bool.and_eq_true,Bool.or_eq_true,beq_iff_eq,decide_eq_true_eq]
   exact ⟨qo4.2 h.sort i hi,qha.2 (h.tasks _ (qd Tk.zero hi))⟩
theorem qt7 {l:List Tk} (hs:SortT l) (h1:∀t∈l,1≤t.id):∀i:Nat,i<l.length→((i:Nat):Int)+1≤(l.getD i Tk.zero).id
 |0,h=>by have:=h1 _ (qd Tk.zero h);omega
 |i+1,h=>by
  have:=qt7 hs h1 i om
  have:=hs i (i+1) om h
  omega
theorem Shp.few {s:Sta} (h:Shp s):s.ts.length≤65535:=by
 rcases Nat.eq_zero_or_pos s.ts.length with h0|h0
 ·omega
 ·have h1:=qt7 h.sort (fun t ht=>(h.tasks t ht).id.1) (s.ts.length-1) om
  have h2:=(h.tasks _ (qd Tk.zero (show s.ts.length-1<s.ts.length by omega))).id.2
  omega
theorem q0y {l:List Tk} (hs:SortT l) {t u:Tk} (ht:t∈l) (hu:u∈l) (h:t.id=u.id):t=u:=by
 obtain ⟨i,hi,rfl⟩:=qaf Tk.zero ht
 obtain ⟨j,hj,rfl⟩:=qaf Tk.zero hu
 rcases Nat.lt_or_ge i j with h1|h1
 ·have:=hs i j h1 hj;omega
 ·rcases Nat.lt_or_ge j i with h2|h2
  ·have:=hs j i h2 hi;omega
  ·rw [show i=j by omega]
theorem qt8 {l:List Tk} (hs:SortT l) {i:Nat} (hi:i<l.length):fidx l (l.getD i Tk.zero).id=(i:Int):=by
 unfold fidx
 rw [qgu hi rfl (fun k hk=>by have:=hs k i hk hi;omega)]
theorem qjs {s:Sta} (hs:SortT s.ts):(∀c,c<s.cu.length→curOk s c=true)↔CurS s:=by
 have key:∀c,curOk s c=true↔(s.cu.getD c 0=0∨∃t∈s.ts,t.id=s.cu.getD c 0∧t.ready=true∧t.cpu=(c:Int)):=by
  intro c
  unfold curOk
  rw [Bool.or_eq_true,decide_eq_true_eq]
  refine or_congr Iff.rfl ?_
  constructor
  ·intro h
   split at h
   ·rename_i i hi
    rw [Bool.and_eq_true,decide_eq_true_eq] at h
    have:=qs6 hi
    exact ⟨_,qd Tk.zero this.1,this.2,h.1,h.2⟩
   ·cases h
  ·rintro ⟨t,ht,h1,h2,h3⟩
   obtain ⟨i,hi,rfl⟩:=qaf Tk.zero ht
   rw [←h1,qgu hi rfl (fun k hk=>by have:=hs k i hk hi;omega)]
   dsimp only
   rw [h2,h3,decide_eq_true rfl]
   rfl
 exact ⟨fun h c hc=>(key c).1 (h c hc),fun h c hc=>(key c).2 (h c hc)⟩
theorem qjt {y:Stm} (h:Shp y.sta):MdOk y y.gs.length y.cl.length y.cu.length y.ts.length y.rs.length:=by
 have h1:=(qq h.gs).2.1
 have hg:y.gs.length≤256:=h1
 have h2:y.rs.length=y.gs.length:=by rw [←zh];exact h.sp
 have h3:(y.cl.length:Int)=y.cpus:=h.cl
 have h4:(y.cu.length:Int)=y.cpus:=h.cu
 have h5:1≤y.cpus∧y.cpus≤64:=h.cpus
 have h6:y.ts.length≤65535:=h.few
 refine ⟨h.ok,⟨by omega,by omega,by omega,by omega,by omega,fun r hr=>?_⟩,sh_at ((qjr h.ok).2 h),⟨rfl,rfl,rfl,rfl,rfl⟩⟩
 obtain ⟨g,hg,rfl⟩:=qaf Rw.zero hr
 have h7:=h.rows g (by rw [zh];exact hg)
 rw [rs_at hg] at h7
 have h8:((y.rs.getD g Rw.zero).l.length:Int)=y.cpus:=h7
 omega
section
variable {s:Sta} {g c i:Nat} {z:Sp} {t t':Tk}
theorem qxa (hg:g<s.sp.length) (hc:c<(s.sp.getD g []).length):∀g' c',(s.qhx g c z).spot g' c'=if g'=g∧c'=c then z else s.spot g' c':=by
 intro g' c'
 unfold Sta.spot Sta.qhx
 dsimp only
 by_cases e:g=g'
 ·subst e
  rw [qi _ _ hg]
  by_cases e2:c=c'
  ·subst e2;rw [qi _ _ hc,if_pos ⟨rfl,rfl⟩]
  ·rw [getD_set_ne _ _ e2,if_neg (fun h=>e2 h.2.symm)]
 ·rw [getD_set_ne _ _ e,if_neg (fun h=>e h.1.symm)]
theorem qcn:(s.qhx g c z).sp.length=s.sp.length:=List.length_set ..
theorem qll (g':Nat):((s.qhx g c z).sp.getD g' []).length=(s.sp.getD g' []).length:=by
 unfold Sta.qhx
 dsimp only
 by_cases e:g=g'
 ·subst e
  rcases Nat.lt_or_ge g s.sp.length with h|h
  ·rw [qi _ _ h,List.length_set]
  ·rw [List.set_eq_of_length_le h]
 ·rw [getD_set_ne _ _ e]
theorem Shp.spot (h:Shp s) (hg:g<s.sp.length) (hc:(c:Int)<s.cpus) (hz:z.Ok) (hs:spOk s g z=true):Shp (s.qhx g c z):=by
 have hrow:=h.rows g hg
 have hsp:=qxa (z:=z) hg (show c<(s.sp.getD g []).length by omega)
 refine ⟨⟨h.ok.cpus,h.ok.credit,h.ok.gs,h.ok.cl,h.ok.cu,h.ok.ts,fun l hl y hy=>?_⟩,h.cpus,h.credit,h.gs,h.cl,h.cu,qcn.trans h.sp,h.cls,fun g' hg'=>?_,fun g' c' hg' hc'=>?_,h.sort,fun u hu=>?_⟩
 ·rcases List.mem_or_eq_of_mem_set (show l∈s.sp.set g ((s.sp.getD g []).set c z) from hl) with h1|rfl
  ·exact h.ok.sp l h1 y hy
  ·rcases List.mem_or_eq_of_mem_set hy with h2|rfl
   ·exact h.ok.sp _ (qd [] hg) y h2
   ·exact hz
 ·rw [qll];exact h.rows g' (by rwa [qcn] at hg')
 ·rw [hsp]
  rw [qcn] at hg'
  split
  ·rename_i e;rw [e.1];exact hs
  ·exact h.spots g' c' hg' hc'
 ·rw [qcn];exact h.tasks u hu
theorem qxb {l:List Tk} (hs:SortT l) (ht:l[i]?=some t) (hid:t'.id=t.id):SortT (l.set i t'):=by
 have key:∀k,((l.set i t').getD k Tk.zero).id=(l.getD k Tk.zero).id:=by
  intro k
  have hi:=(List.getElem?_eq_some_iff.1 ht).1
  by_cases e:i=k
  ·subst e;rw [qi _ _ hi,zy Tk.zero ht,hid]
  ·rw [getD_set_ne _ _ e]
 intro a b hab hb
 rw [List.length_set] at hb
 rw [key,key]
 exact hs a b hab hb
theorem Shp.task (h:Shp s) (ht:s.ts[i]?=some t) (hid:t'.id=t.id) (ho:t'.Ok) (hg:TkGood t' s.cpus s.sp.length):Shp (s.setT i t'):=by
 refine ⟨⟨h.ok.cpus,h.ok.credit,h.ok.gs,h.ok.cl,h.ok.cu,fun u hu=>?_,h.ok.sp⟩,h.cpus,h.credit,h.gs,h.cl,h.cu,h.sp,h.cls,h.rows,h.spots,qxb h.sort ht hid,fun u hu=>?_⟩
 ·rcases List.mem_or_eq_of_mem_set hu with h1|rfl
  ·exact h.ok.ts u h1
  ·exact ho
 ·rcases List.mem_or_eq_of_mem_set hu with h1|rfl
  ·exact h.tasks u h1
  ·exact hg
theorem CurS.task (h:CurS s) (hs:SortT s.ts) (ht:s.ts[i]?=some t) (hid:t'.id=t.id) (hr:t.ready=true→(∃c,c<s.cu.length∧s.cu.getD c 0=t.id∧t.cpu=(c:Int))→t'.ready=true∧t'.cpu=t.cpu):CurS (s.setT i t'):=by
 intro c hc
 rcases h c hc with h1|⟨u,hu,h1,h2,h3⟩
 ·exact .inl h1
 ·refine .inr ?_
  have hi:=(List.getElem?_eq_some_iff.1 ht).1
  have htm:t∈s.ts:=List.mem_of_getElem? ht
  by_cases e:u.id=t.id
  ·have e2:=q0y hs hu htm e
   subst e2
   obtain ⟨h4,h5⟩:=hr h2 ⟨c,hc,h1.symm,h3⟩
   exact ⟨t',List.mem_of_getElem? (List.getElem?_set_self hi),hid.trans h1,h4,h5.trans h3⟩
  ·obtain ⟨j,hj,rfl⟩:=qaf Tk.zero hu
   have hij:i≠j:=fun e2=>e (by subst e2;rw [zy Tk.zero ht])
   refine ⟨s.ts.getD j Tk.zero,?_,h1,h2,h3⟩
   have h6:(s.ts.set i t')[j]?=some (s.ts.getD j Tk.zero):=by rw [List.getElem?_set_ne hij];exact getD_at Tk.zero hj
   exact List.mem_of_getElem? h6
theorem CurS.spot (h:CurS s):CurS (s.qhx g c z):=h
end
section
variable {s:Sta} {g c i d:Nat} {z:Sp} {t t':Tk} {e:En} {o:Op30}
theorem qt9 (h:Shp s) (hg:g<s.gs.length):∃w:Nat,(s.gs.getD g Gr.zero).weight=(w:Int)∧1≤w∧w≤65536:=qck h.gs hg
theorem qxc (h0:0<g) (h:entOk z.v z.r (s.gs.getD g Gr.zero).weight=true):spOk s g z=true:=by
 unfold spOk
 rw [h,show (g !=0)=true from bne_iff_ne.2 om]
 rfl
theorem qxd (h:Shp s) (hg:g<s.sp.length) (hc:(c:Int)<s.cpus):entOk (s.spot g c).v (s.spot g c).r (s.gs.getD g Gr.zero).weight=true:=by
 have:=h.spots g c hg hc
 unfold spOk at this
 rw [Bool.and_eq_true] at this
 exact this.1
theorem qua (h:Shp s) (hg:g<s.sp.length) (hc:(c:Int)<s.cpus):(s.spEn g c).Ok∧((s.spEn g c).w:Int)=(s.gs.getD g Gr.zero).weight:=by
 obtain ⟨w,hw,_⟩:=qt9 h (g:=g) (by rw [←h.sp];exact hg)
 have h1:=qxd h hg hc
 have e:s.spEn g c=⟨(s.spot g c).v,(s.spot g c).r,w⟩:=by unfold Sta.spEn;rw [hw];rfl
 rw [e]
 exact ⟨En.qh6 h1 hw (qcx h.ok g c).v,hw.symm⟩
theorem ent_r {v r w:Nat} (h:entOk v r w=true):r<65536:=by
 unfold entOk at h
 rw [decide_eq_true_eq] at h
 omega
theorem Shp.run (h:Shp s) (h0:0<g) (hg:g<s.sp.length) (hc:(c:Int)<s.cpus) (he:e.Ok) (hw:(e.w:Int)=(s.gs.getD g Gr.zero).weight):Shp (s.qhy g c e):=by
 refine h.spot hg hc ⟨he.2,?_,(qcx h.ok g c).floor⟩ (qxc h0 ?_)
 ·show e.r<_
  have:=ent_r he.1
  omega
 ·show entOk e.v e.r _=true
  rw [←hw];exact he.1
theorem qub:(s.qhy g c e).sp.length=s.sp.length:=qcn
theorem Shp.wake (h:Shp s) (hc:(c:Int)<s.cpus):∀(l:List Nat),(∀g∈l,0<g∧g<s.sp.length)→Shp (wakeS s l c):=by
 intro l
 induction l generalizing s with
 |nil=>intro _;exact h
 |cons g r ih=>
  intro hl
  have hg:=hl g (List.mem_cons_self ..)
  have h1:=qua h hg.2 hc
  have h2:=En.qgb h1.1 (s.spot (s.par g).toNat c).floor s.credit (qcx h.ok _ _).floor
  have h3:Shp (wake1 c s g):=h.run hg.1 hg.2 hc h2.1 (by rw [h2.2];exact h1.2)
  exact ih (s:=wake1 c s g) h3 hc fun g' hg'=>⟨(hl g' (List.mem_cons_of_mem _ hg')).1,by rw [show (wake1 c s g).sp.length=s.sp.length from qub];exact (hl g' (List.mem_cons_of_mem _ hg')).2⟩
structure SameBut (s s':Sta):Prop where
 cpus:s'.cpus=s.cpus
 credit:s'.credit=s.credit
 gs:s'.gs=s.gs
 cl:s'.cl=s.cl
 cu:s'.cu=s.cu
 ts:s'.ts=s.ts
 len:s'.sp.length=s.sp.length
 row:∀g,(s'.sp.getD g []).length=(s.sp.getD g []).length
theorem SameBut.refl (s:Sta):SameBut s s:=⟨rfl,rfl,rfl,rfl,rfl,rfl,rfl,fun _=>rfl⟩
theorem SameBut.trans {a b c:Sta} (h:SameBut a b) (k:SameBut b c):SameBut a c:=⟨k.cpus.trans h.cpus,k.credit.trans h.credit,k.gs.trans h.gs,k.cl.trans h.cl,k.cu.trans h.cu,k.ts.trans h.ts,k.len.trans h.len,fun g=>(k.row g).trans (h.row g)⟩
theorem SameBut.spot:SameBut s (s.qhx g c z):=⟨rfl,rfl,rfl,rfl,rfl,rfl,qcn,qll⟩
theorem qbp (c:Nat):∀(l:List Nat) (s:Sta),SameBut s (wakeS s l c)
 |[],s=>SameBut.refl s
 |g::r,s=>(SameBut.spot (s:=s)).trans (qbp c r (wake1 c s g))
theorem qd4 (c d:Nat):∀(f g:Nat) (s:Sta),SameBut s (zr c d f g s)
 |0,_,s=>SameBut.refl s
 |f+1,g,s=>by
  rw [zr]
  split
  ·exact SameBut.refl s
  ·exact (SameBut.spot (s:=s)).trans (qd4 c d f _ _)
theorem Shp.charge (h:Shp s) (hc:(c:Int)<s.cpus) (d:Nat):∀(f g:Nat),g<s.sp.length→Shp (zr c d f g s):=by
 intro f
 induction f generalizing s with
 |zero=>intro g _;exact h
 | succ f ih =>
  intro g hg
  rw [zr]
  split
  ·exact h
  ·rename_i h0
   have h1:=qua h hg hc
   have h2:=En.qpy h1.1 d
   have h3:Shp (s.qhy g c ((s.spEn g c).add d)):=h.run om hg hc h2.1 (by rw [h2.2];exact h1.2)
   have hp:=qam h.gs (g:=g) (by rw [←h.sp];exact hg) g om (Nat.le_refl _)
   unfold ParB at hp
   exact ih (s:=s.qhy g c ((s.spEn g c).add d)) h3 hc _ (by rw [qub];show (s.gs.getD g Gr.zero).parent.toNat<_;omega)
theorem qju (hg:g<s.sp.length):(riseS s).sp.getD g []=(s.sp.getD g []).mapIdx fun c x=>rise1 s g c x:=by
 unfold riseS
 dsimp only
 rw [List.getD_eq_getElem?_getD,List.getElem?_mapIdx,List.getElem?_eq_getElem hg,List.getD_eq_getElem?_getD,List.getElem?_eq_getElem hg]
 rfl
theorem qbg:(riseS s).sp.length=s.sp.length:=by unfold riseS;dsimp only;rw [List.length_mapIdx]
theorem qo5 (g:Nat):((riseS s).sp.getD g []).length=(s.sp.getD g []).length:=by
 rcases Nat.lt_or_ge g s.sp.length with h|h
 ·rw [qju h,List.length_mapIdx]
 ·rw [List.getD_eq_getElem?_getD,List.getElem?_eq_none (by rw [qbg];exact h),List.getD_eq_getElem?_getD,List.getElem?_eq_none h]
theorem qlm (hg:g<s.sp.length) (hc:c<(s.sp.getD g []).length):(riseS s).spot g c=rise1 s g c (s.spot g c):=by
 unfold Sta.spot
 rw [qju hg,List.getD_eq_getElem?_getD (l:=List.mapIdx _ _),List.getElem?_mapIdx,List.getElem?_eq_getElem hc,List.getD_eq_getElem?_getD (l:=s.sp.getD g []),List.getElem?_eq_getElem hc]
 rfl
theorem qni (g c:Nat):((riseS s).spot g c).v=(s.spot g c).v∧((riseS s).spot g c).r=(s.spot g c).r:=by
 rcases Nat.lt_or_ge g s.sp.length with hg|hg
 ·rcases Nat.lt_or_ge c (s.sp.getD g []).length with hc|hc
  ·rw [qlm hg hc];exact qts ..
  ·unfold Sta.spot
   rw [List.getD_eq_getElem?_getD (l:=(riseS s).sp.getD g []),List.getElem?_eq_none (by rw [qo5];exact hc),List.getD_eq_getElem?_getD (l:=s.sp.getD g []),List.getElem?_eq_none hc]
   exact ⟨rfl,rfl⟩
 ·unfold Sta.spot
  rw [List.getD_eq_getElem?_getD (l:=(riseS s).sp),List.getElem?_eq_none (by rw [qbg];exact hg),List.getD_eq_getElem?_getD (l:=s.sp),List.getElem?_eq_none hg]
  exact ⟨rfl,rfl⟩
theorem qxe (g c:Nat):memS (riseS s) g c=memS s g c:=qik (s:=riseS s) (s':=s) rfl rfl qbg (fun h=>(qni h c).1) g
theorem q23 (hok:s.Ok) (hn:memS s g c≠[]):(bestM topM (memS s g c)).v<18446744073709551616:=by
 rcases qdq (qnc hok hn) with ⟨t,ht,_,h2⟩|⟨h,_,_,_,_,h5⟩
 ·rw [h2];exact (hok.ts t ht).v
 ·rw [h5];exact (qcx hok h c).v
theorem qxf (hok:s.Ok) (hz:z.Ok):(rise1 s g c z).Ok:=by
 unfold rise1
 split
 ·exact hz
 ·rename_i hn
  have:=q23 hok (show memS s g c≠[] by simpa using hn)
  refine ⟨hz.v,hz.r,?_⟩
  show max z.floor (bestM topM (memS s g c)).v<_
  have:=hz.floor
  rw [Nat.max_def]
  split<;>omega
theorem q0z {s s':Sta} (hgs:s'.gs=s.gs) {z z':Sp} (hv:z'.v=z.v) (hr:z'.r=z.r):spOk s' g z'=spOk s g z:=by
 unfold spOk
 rw [hgs,hv,hr]
theorem Shp.rise (h:Shp s):Shp (riseS s):=by
 refine ⟨⟨h.ok.cpus,h.ok.credit,h.ok.gs,h.ok.cl,h.ok.cu,h.ok.ts,fun l hl y hy=>?_⟩,h.cpus,h.credit,h.gs,h.cl,h.cu,qbg.trans h.sp,h.cls,fun g hg=>?_,fun g c hg hc=>?_,h.sort,fun u hu=>?_⟩
 ·obtain ⟨g,hg,rfl⟩:=qaf [] hl
  rw [qbg] at hg
  rw [qju hg] at hy
  obtain ⟨c,hc,rfl⟩:=List.getElem_of_mem hy
  rw [List.getElem_mapIdx]
  exact qxf h.ok (h.ok.sp _ (qd [] hg) _ (List.getElem_mem _))
 ·rw [qo5];exact h.rows g (by rwa [qbg] at hg)
 ·rw [qbg] at hg
  have e:=q0z (s:=s) (s':=riseS s) (g:=g) rfl (qni (s:=s) g c).1 (qni (s:=s) g c).2
  rw [e]
  exact h.spots g c hg hc
 ·rw [qbg];exact h.tasks u hu
theorem GoodS.rise (h:GoodS s):GoodS (riseS s):=⟨h.sh.rise,h.cur⟩
theorem qq0 (h:GoodS s):zg (riseS s)=true:=by
 have hr:=h.rise
 unfold zg
 rw [(qjr hr.sh.ok).2 hr.sh,Bool.true_and]
 refine qbm fun c hc=>?_
 rw [(qjs hr.sh.sort).2 hr.cur c hc,Bool.true_and]
 refine qbm fun g hg=>?_
 rw [qbg] at hg
 have hcl:(c:Int)<s.cpus:=by have h1:=h.sh.cu;have h2:c<s.cu.length:=hc;omega
 have hc2:c<(s.sp.getD g []).length:=by have:=h.sh.rows g hg;omega
 unfold lowS
 rw [decide_eq_true_eq,qxe,qlm hg hc2]
 by_cases hm:memS s g c=[]
 ·exact .inl hm
 ·refine .inr ?_
  unfold rise1
  rw [if_neg (by simpa using hm)]
  exact Nat.le_max_right ..
theorem qfi (hok:s.Ok) (h:zg s=true):GoodS s:=by
 unfold zg at h
 rw [Bool.and_eq_true] at h
 have h1:=(qjr hok).1 h.1
 refine ⟨h1,(qjs h1.sort).1 fun c hc=>?_⟩
 have:=qbn h.2 hc
 rw [Bool.and_eq_true] at this
 exact this.1
theorem qhe (h:Shp s) (ht:s.ts[i]?=some t):TkGood t s.cpus s.sp.length∧t.Ok:=⟨h.tasks t (List.mem_of_getElem? ht),h.ok.ts t (List.mem_of_getElem? ht)⟩
theorem qf8 (hg:TkGood t s.cpus s.sp.length) (ho:t.Ok) (he:e.Ok):TkGood (t.put e) s.cpus s.sp.length∧(t.put e).Ok:=by
 have h1:=he.1
 unfold entOk at h1
 rw [decide_eq_true_eq] at h1
 refine ⟨⟨hg.id,hg.group,hg.cpu,⟨h1.1,h1.2.1⟩,hg.mask,hg.bit,he.1⟩,⟨ho.id,ho.group,?_,ho.cpu,ho.mask,he.2,?_⟩⟩
 ·show I64 ((e.w:Nat):Int);unfold I64;omega
 ·show e.r<_;omega
theorem qip (hg:TkGood t s.cpus s.sp.length) (ho:t.Ok) (b:Bool):TkGood {t with ready:=b} s.cpus s.sp.length∧({t with ready:=b}:Tk).Ok:=⟨⟨hg.id,hg.group,hg.cpu,hg.weight,hg.mask,hg.bit,hg.ent⟩,⟨ho.id,ho.group,ho.weight,ho.cpu,ho.mask,ho.v,ho.r⟩⟩
theorem qjv (hg:TkGood t s.cpus s.sp.length) (ho:t.Ok):t.en.Ok∧(t.en.w:Int)=t.weight:=by
 have h1:=hg.weight
 have e:t.en=⟨t.v,t.r,t.weight.toNat⟩:=rfl
 rw [e]
 exact ⟨En.qh6 hg.ent om ho.v,by show ((t.weight.toNat:Nat):Int)=t.weight;omega⟩
theorem qjw {id:Int} (h:¬fidx s.ts id<0):∃(k:Nat) (t:Tk),fidx s.ts id=(k:Int)∧s.ts[k]?=some t∧t.id=id∧tkOf s id=t:=by
 obtain ⟨k,t,h1,h2,_,h3⟩:=qhb h
 exact ⟨k,t,h1,h2,h3,qcb h1 h2⟩
theorem qfj (h:Shp s) (hg:g<s.sp.length):∀k∈zf s g c,0<k∧k<s.sp.length:=fun k hk=>by
 have:=qii (s:=s) (c:=c) (g:=g) (qam h.gs (by rw [←h.sp];exact hg)) k hk
 exact ⟨this.1,by omega⟩
theorem CurS.but {s s':Sta} (h:CurS s) (hb:SameBut s s'):CurS s':=by
 unfold CurS
 rw [hb.cu,hb.ts]
 exact h
theorem qq1 (h:GoodS s) (he:(qen s o).2.2=0):GoodS (qen s o).1:=by
 unfold qen at he⊢
 split at he
 ·cases he
 ·split at he
  ·cases he
  ·rename_i h1 h2
   rw [if_neg h1,if_neg h2]
   split at he
   ·cases he
   ·rename_i h3
    rw [if_neg h3]
    obtain ⟨k,t,hk,ht,hid,htk⟩:=qjw h2
    rw [htk] at h3
    simp only [htk,hk,Int.toNat_natCast]
    obtain ⟨hg,ho⟩:=qhe h.sh ht
    have hgl:t.group.toNat<s.sp.length:=by have:=hg.group;omega
    have hen:=qjv hg ho
    have hw:=En.qgb hen.1 (s.spot t.group.toNat t.cpu.toNat).floor s.credit (qcx h.sh.ok _ _).floor
    have hp:=qf8 hg ho hw.1
    have hr:=qip hp.1 hp.2 true
    have hs1:Shp (s.setT k {t.put (t.en.woken (s.spot t.group.toNat t.cpu.toNat).floor s.credit) with ready:=true}):=h.sh.task ht rfl hr.2 hr.1
    have hc1:CurS (s.setT k {t.put (t.en.woken (s.spot t.group.toNat t.cpu.toNat).floor s.credit) with ready:=true}):=h.cur.task h.sh.sort ht rfl fun hh _=>absurd hh h3
    exact ⟨hs1.wake (by show ((t.cpu.toNat:Nat):Int)<s.cpus;have:=hg.cpu;omega) _ (qfj h.sh hgl),hc1.but (qbp ..)⟩
theorem qjx (h:GoodS s) (he:(qan s o).2.2=0):GoodS (qan s o).1:=by
 unfold qan at he⊢
 split at he
 ·cases he
 ·split at he
  ·cases he
  ·rename_i h1 h2
   rw [if_neg h1,if_neg h2]
   split at he
   ·cases he
   ·rename_i h3
    rw [if_neg h3]
    obtain ⟨k,t,hk,ht,hid,htk⟩:=qjw h3
    simp only [htk,hk,Int.toNat_natCast]
    obtain ⟨hg,ho⟩:=qhe h.sh ht
    have hw:1≤o.weight∧o.weight≤65536:=by simpa [wOk] using h2
    obtain ⟨z,hz⟩:∃z:Nat,o.weight=(z:Int):=⟨o.weight.toNat,by omega⟩
    have hp:=qf8 hg ho (e:=⟨t.v,0,z⟩) ⟨by unfold entOk;rw [decide_eq_true_eq];exact ⟨by show (1:Int)≤(z:Int);omega,by show (z:Int)≤_;omega,by show ((0:Nat):Int)<(z:Int);omega,.inr rfl⟩,ho.v⟩
    have e:({t with r:=0,weight:=o.weight}:Tk)=t.put ⟨t.v,0,z⟩:=by rw [hz];rfl
    rw [e]
    exact ⟨h.sh.task ht rfl hp.2 hp.1,h.cur.task h.sh.sort ht rfl fun hh _=>⟨hh,rfl⟩⟩
theorem q00 (h:Shp s) {v:Int} (hv:0≤v∧v≤281474976710656):Shp {s with cl:=s.cl.set c v}:=by
 refine ⟨⟨h.ok.cpus,h.ok.credit,h.ok.gs,fun z hz=>?_,h.ok.cu,h.ok.ts,h.ok.sp⟩,h.cpus,h.credit,h.gs,by show ((s.cl.set c v).length:Int)=_;rw [List.length_set];exact h.cl,h.cu,h.sp,fun d hd=>?_,h.rows,h.spots,h.sort,h.tasks⟩
 ·rcases List.mem_or_eq_of_mem_set hz with h1|rfl
  ·exact h.ok.cl z h1
  ·unfold I64;omega
 ·have hd':d<(s.cl.set c v).length:=hd
  show clOk ((s.cl.set c v).getD d 0)=true
  rw [List.length_set] at hd'
  by_cases e:c=d
  ·subst e
   rw [qi _ _ hd']
   unfold clOk
   rw [decide_eq_true hv]
  ·rw [getD_set_ne _ _ e]
   exact h.cls d hd'
theorem quc (h:Shp s) {v:Int} (hv:I64 v):Shp {s with cu:=s.cu.set c v}:=by
 refine ⟨⟨h.ok.cpus,h.ok.credit,h.ok.gs,h.ok.cl,fun z hz=>?_,h.ok.ts,h.ok.sp⟩,h.cpus,h.credit,h.gs,h.cl,by show ((s.cu.set c v).length:Int)=_;rw [List.length_set];exact h.cu,h.sp,h.cls,h.rows,h.spots,h.sort,h.tasks⟩
 rcases List.mem_or_eq_of_mem_set hz with h1|rfl
 ·exact h.ok.cu z h1
 ·exact hv
theorem qiq {x:Int} (h:¬s.qdf x=false):0≤x∧x<s.cpus:=by
 unfold Sta.qdf at h
 simpa using h
theorem qud (h:GoodS s) (he:(tickS s o).2.2=0):GoodS (tickS s o).1:=by
 unfold tickS at he⊢
 split at he
 ·cases he
 ·split at he
  ·cases he
  ·rename_i h1 h2
   rw [if_neg h1,if_neg h2]
   split at he
   ·cases he
   ·rename_i h3
    rw [if_neg h3]
    have hc:=qiq h1
    have hcl:=h.sh.cls o.cpu.toNat (by have:=h.sh.cl;omega)
    have hcl2:0≤s.cl.getD o.cpu.toNat 0∧s.cl.getD o.cpu.toNat 0≤281474976710656:=by unfold clOk at hcl;simpa using hcl
    have hs1:Shp {s with cl:=s.cl.set o.cpu.toNat (s.cl.getD o.cpu.toNat 0+o.ticks)}:=q00 h.sh ⟨by omega,by omega⟩
    dsimp only at he⊢
    by_cases h4:s.cu.getD o.cpu.toNat 0=0
    ·rw [if_pos h4];exact ⟨hs1,h.cur⟩
    ·rw [if_neg h4]
     rcases h.cur o.cpu.toNat (by have:=h.sh.cu;omega) with h5|⟨t,htm,hid,hr,hcp⟩
     ·exact absurd h5 h4
     ·obtain ⟨k,hk,rfl⟩:=qaf Tk.zero htm
      have hf:=qt8 h.sh.sort hk
      have ht:=getD_at Tk.zero hk
      obtain ⟨t,hte⟩:∃t,s.ts.getD k Tk.zero=t:=⟨_,rfl⟩
      rw [hte] at hid hr hcp hf ht
      rw [←hid,hf,qcb hf ht,Int.toNat_natCast]
      obtain ⟨hg,ho⟩:=qhe h.sh ht
      have hen:=qjv hg ho
      have ha:=En.qpy hen.1 o.ticks.toNat
      have hp:=qf8 hg ho ha.1
      have hs2:Shp ({s with cl:=s.cl.set o.cpu.toNat (s.cl.getD o.cpu.toNat 0+o.ticks)}.setT k (t.put (t.en.add o.ticks.toNat))):=hs1.task ht rfl hp.2 hp.1
      have hc2:CurS ({s with cl:=s.cl.set o.cpu.toNat (s.cl.getD o.cpu.toNat 0+o.ticks)}.setT k (t.put (t.en.add o.ticks.toNat))):=CurS.task (s:={s with cl:=s.cl.set o.cpu.toNat (s.cl.getD o.cpu.toNat 0+o.ticks)}) h.cur h.sh.sort ht rfl fun hh _=>⟨hh,rfl⟩
      exact ⟨hs2.charge (by show ((o.cpu.toNat:Nat):Int)<s.cpus;omega) _ _ _ (by show t.group.toNat<s.sp.length;have:=hg.group;omega),hc2.but (qd4 ..)⟩
theorem qxg (hok:s.Ok):∀(n g:Nat),g<s.sp.length→s.sp.length-g≤n→qdb s c g=0∨∃t∈s.ts,t.ready=true∧t.cpu=(c:Int)∧qdb s c g=t.id.toNat:=by
 intro n
 induction n with
 |zero=>intro g hg hn;omega
 | succ n ih =>
  intro g hg hn
  by_cases hm:memS s g c=[]
  ·exact .inl (qg5 hg hm)
  ·rcases qdr hok hm with ⟨h0,t,ht,hh,hb⟩|⟨h1,k,hk,h2,h3,_⟩
   ·refine .inr ⟨t,ht,?_⟩
    unfold Tk.here at hh
    rw [Bool.and_eq_true,Bool.and_eq_true,decide_eq_true_eq,decide_eq_true_eq] at hh
    refine ⟨hh.1,hh.2.2,?_⟩
    rw [qg6 hg hm h0,hb]
   ·rw [(qg7 hok hg hm om).1,hk]
    exact ih k h3 om
theorem que (h:GoodS s) (he:(pickS s o).2.2=0):GoodS (pickS s o).1:=by
 unfold pickS at he⊢
 split at he
 ·cases he
 ·rename_i h1
  rw [if_neg h1]
  have hc:=qiq h1
  have hgl:=(qq h.sh.gs).1
  have hf:=qxg (c:=o.cpu.toNat) h.sh.ok s.sp.length 0 (by rw [h.sh.sp];omega) om
  rw [←qtq] at hf
  have hb:I64 ((z9 s o.cpu.toNat:Nat):Int):=by
   unfold I64
   rcases hf with h2|⟨t,ht,_,_,h2⟩
   ·omega
   ·have:=(h.sh.tasks t ht).id;omega
  refine ⟨quc h.sh hb,fun d hd=>?_⟩
  have hd':d<s.cu.length:=by have h3:d<(s.cu.set o.cpu.toNat (z9 s o.cpu.toNat:Int)).length:=hd;rwa [List.length_set] at h3
  show (s.cu.set o.cpu.toNat (z9 s o.cpu.toNat:Int)).getD d 0=0∨_
  by_cases e:o.cpu.toNat=d
  ·have e2:(s.cu.set o.cpu.toNat (z9 s o.cpu.toNat:Int)).getD d 0=(z9 s o.cpu.toNat:Int):=by rw [←e];exact qi _ _ (by rw [e];exact hd')
   show (s.cu.set o.cpu.toNat (z9 s o.cpu.toNat:Int)).getD d 0=0∨∃t∈s.ts,t.id=(s.cu.set o.cpu.toNat (z9 s o.cpu.toNat:Int)).getD d 0∧_
   rw [e2]
   rcases hf with h2|⟨t,ht,h3,h4,h2⟩
   ·exact .inl om
   ·exact .inr ⟨t,ht,by have:=(h.sh.tasks t ht).id;omega,h3,by rw [h4,e]⟩
  ·show (s.cu.set o.cpu.toNat (z9 s o.cpu.toNat:Int)).getD d 0=0∨∃t∈s.ts,t.id=(s.cu.set o.cpu.toNat (z9 s o.cpu.toNat:Int)).getD d 0∧_
   rw [getD_set_ne _ _ e]
   exact h.cur d hd'
end
section
variable {s:Sta} {g c i d:Nat} {t t':Tk} {o:Op30}
theorem qir {l l':List Gr} (h:∀g,(l.getD g Gr.zero).parent=(l'.getD g Gr.zero).parent):∀f g,depF l f g=depF l' f g
 |0,_=>rfl
 |f+1,g=>by rw [depF,depF,h g,qir h f]
theorem qxh {l:List Gr} {w:Int} (h:gsOk l=true) (h0:0<g) (hg:g<l.length) (hw:wOk w=true):gsOk (l.set g {l.getD g Gr.zero with weight:=w})=true:=by
 obtain ⟨h1,h2,h3,h4⟩:=qq h
 have hp:∀k,((l.set g {l.getD g Gr.zero with weight:=w}).getD k Gr.zero).parent=(l.getD k Gr.zero).parent:=fun k=>by
  by_cases e:g=k
  ·subst e;rw [qi _ _ hg]
  ·rw [getD_set_ne _ _ e]
 unfold gsOk
 rw [List.length_set,getD_set_ne _ _ om,decide_eq_true ⟨h1,h2,h3⟩,Bool.true_and]
 refine qbm fun k hk=>?_
 have:=h4 k hk
 unfold gOk depG at this⊢
 rw [hp,qir hp]
 by_cases e:g=k
 ·subst e
  rw [qi _ _ hg]
  rw [Bool.or_eq_true,beq_iff_eq,decide_eq_true_eq] at this⊢
  rcases this with h5|h5
  ·exact .inl h5
  ·exact .inr ⟨h5.1,h5.2.1,hw,h5.2.2.2⟩
 ·rw [getD_set_ne _ _ e];exact this
theorem qln (h:GoodS s) (he:(qbd s o).2.2=0):GoodS (qbd s o).1:=by
 unfold qbd at he⊢
 split at he
 ·cases he
 ·split at he
  ·cases he
  ·rename_i h1 h2
   rw [if_neg h1,if_neg h2]
   obtain ⟨g,hg⟩:∃g:Nat,o.group=(g:Int):=⟨o.group.toNat,by omega⟩
   rw [hg,Int.toNat_natCast]
   have hw:wOk o.weight=true:=by simpa using h2
   have hw2:1≤o.weight∧o.weight≤65536:=by simpa [wOk] using h2
   have hgl:g<s.sp.length:=by omega
   have hgg:g<s.gs.length:=by rw [←h.sh.sp];exact hgl
   have hgr:=h.sh.ok.gs _ (qd Gr.zero hgg)
   have hlen:(s.sp.set g ((s.sp.getD g []).map fun x=>{x with r:=0})).length=s.sp.length:=List.length_set ..
   have hsp:∀k e:Nat,((s.sp.set g ((s.sp.getD g []).map fun x=>{x with r:=0})).getD k []).getD e Sp.zero=if k=g then r0 (s.spot k e) else s.spot k e:=fun k e=>by
    by_cases hk:g=k
    ·subst hk
     rw [qi _ _ hgl,if_pos rfl]
     show _=r0 ((s.sp.getD g []).getD e Sp.zero)
     rw [List.getD_eq_getElem?_getD,List.getElem?_map,List.getD_eq_getElem?_getD (l:=s.sp.getD g [])]
     cases (s.sp.getD g [])[e]?<;>rfl
    ·rw [getD_set_ne _ _ hk,if_neg (fun h=>hk h.symm)];rfl
   refine ⟨⟨⟨h.sh.ok.cpus,h.sh.ok.credit,fun x hx=>?_,h.sh.ok.cl,h.sh.ok.cu,h.sh.ok.ts,fun l hl y hy=>?_⟩,h.sh.cpus,h.sh.credit,qxh h.sh.gs om hgg hw,h.sh.cl,h.sh.cu,?_,h.sh.cls,fun k hk=>?_,fun k e hk he=>?_,h.sh.sort,fun u hu=>?_⟩,h.cur⟩
   ·rcases List.mem_or_eq_of_mem_set hx with h3|rfl
    ·exact h.sh.ok.gs x h3
    ·exact ⟨hgr.parent,by show I64 o.weight;unfold I64;omega⟩
   ·rcases List.mem_or_eq_of_mem_set hl with h3|rfl
    ·exact h.sh.ok.sp l h3 y hy
    ·obtain ⟨z,hz,rfl⟩:=List.mem_map.1 hy
     have:=h.sh.ok.sp _ (qd [] hgl) z hz
     exact ⟨this.v,by show 0<_;omega,this.floor⟩
   ·rw [hlen,List.length_set];exact h.sh.sp
   ·have hk':k<s.sp.length:=by rw [←hlen];exact hk
    have:=h.sh.rows k hk'
    show (((s.sp.set g ((s.sp.getD g []).map fun x=>{x with r:=0})).getD k []).length:Int)=s.cpus
    by_cases e:g=k
    ·subst e;rw [qi _ _ hgl,List.length_map];exact this
    ·rw [getD_set_ne _ _ e];exact this
   ·have hk':k<s.sp.length:=by rw [←hlen];exact hk
    have h3:=h.sh.spots k e hk' he
    unfold spOk at h3⊢
    have e1:=hsp k e
    unfold Sta.spot at h3⊢e1
    dsimp only at h3⊢e1
    rw [e1]
    by_cases e2:g=k
    ·subst e2
     rw [if_pos rfl,qi _ _ hgg]
     rw [Bool.and_eq_true] at h3⊢
     have h4:=h3.1
     unfold entOk at h4⊢
     rw [decide_eq_true_eq] at h4⊢
     refine ⟨⟨hw2.1,hw2.2,by show ((0:Nat):Int)<o.weight;omega,.inr rfl⟩,?_⟩
     rw [show (g !=0)=true from bne_iff_ne.2 om]
     rfl
    ·rw [if_neg (fun h=>e2 h.symm),getD_set_ne _ _ e2];exact h3
   ·show TkGood u s.cpus (s.sp.set g _).length
    rw [hlen]
    exact h.sh.tasks u hu
theorem qlo (h:GoodS s) (ht:s.ts[i]?=some t) {to:Nat} (hto:(to:Int)<s.cpus) (hb:t.mask/2^to%2=1) (hn:∀d,d<s.cu.length→s.cu.getD d 0=t.id→t.cpu=(d:Int)→False):GoodS (moveS s i (to:Int)):=by
 unfold moveS
 rw [zy Tk.zero ht]
 dsimp only
 rw [Int.toNat_natCast]
 obtain ⟨hg,ho⟩:=qhe h.sh ht
 have hen:=qjv hg ho
 have hm:=En.qpz hen.1 (s.spot t.group.toNat t.cpu.toNat).floor (s.spot t.group.toNat to).floor (qcx h.sh.ok _ _).floor
 have hp:=qf8 hg ho hm.1
 have hI:I64 (to:Int):=by have:=h.sh.cpus;unfold I64;omega
 have hs1:Shp (s.setT i {t.put (t.en.moved (s.spot t.group.toNat t.cpu.toNat).floor (s.spot t.group.toNat to).floor) with cpu:=(to:Int)}):=
  h.sh.task ht rfl ⟨hp.2.id,hp.2.group,hp.2.weight,hI,hp.2.mask,hp.2.v,hp.2.r⟩ ⟨hp.1.id,hp.1.group,⟨by show (0:Int)≤(to:Int);omega,hto⟩,hp.1.weight,hp.1.mask,by show t.mask/2^ ((to:Int)).toNat%2=1;rw [Int.toNat_natCast];exact hb,hp.1.ent⟩
 have hc1:CurS (s.setT i {t.put (t.en.moved (s.spot t.group.toNat t.cpu.toNat).floor (s.spot t.group.toNat to).floor) with cpu:=(to:Int)}):=
  h.cur.task h.sh.sort ht rfl fun _ ⟨d,h1,h2,h3⟩=>(hn d h1 h2 h3).elim
 have hgl:t.group.toNat<s.sp.length:=by have:=hg.group;omega
 split
 ·exact ⟨hs1.wake hto _ (qfj h.sh hgl),hc1.but (qbp ..)⟩
 ·exact ⟨hs1,hc1⟩
theorem quf {m:Nat} {x:Int} (h:bitOn m x=true):m/2^x.toNat%2=1:=of_decide_eq_true h
theorem qlp (h:GoodS s) (he:(qbe s o).2.2=0):GoodS (qbe s o).1:=by
 unfold qbe at he⊢
 split at he
 ·cases he
 ·split at he
  ·cases he
  ·split at he
   ·cases he
   ·split at he
    ·cases he
    ·split at he
     ·cases he
     ·split at he
      ·cases he
      ·rename_i h1 h2 h3 h4 h5 h6
       rw [if_neg h1,if_neg h2,if_neg h3,if_neg h4,if_neg h5,if_neg h6]
       obtain ⟨k,t,hk,ht,hid,htk⟩:=qjw h3
       have hto:=qiq h1
       rw [htk] at h6
       rw [hk,Int.toNat_natCast]
       have hb:=quf (by simpa using h6:bitOn t.mask o.to=true)
       obtain ⟨to,hte⟩:∃to:Nat,o.to=(to:Int):=⟨o.to.toNat,by omega⟩
       rw [hte] at hto hb⊢
       rw [Int.toNat_natCast] at hb
       refine qlo h ht hto.2 hb fun d hd hcu _=>h4 ?_
       rw [←hid,←hcu]
       exact qd 0 hd
theorem qjy:∀{n b:Nat},bestF s o n=some b→mayB s o (s.ts.getD b Tk.zero)=true
 |0,b,h=>by cases h
 | n + 1, b, h => by
  rw [bestF] at h
  split at h
  ·rename_i hm
   split at h
   ·injection h with h;subst h;exact hm
   ·rename_i b' hb
    split at h
    ·injection h with h;subst h;exact hm
    ·injection h with h;subst h;exact qjy hb
  ·exact qjy h
theorem qlq (h:GoodS s) (he:(qao s o).2.2=0):GoodS (qao s o).1:=by
 unfold qao at he⊢
 split at he
 ·cases he
 ·rename_i h1
  rw [if_neg h1]
  cases hb:bestF s o s.ts.length with
  |none=>rw [hb] at he;cases he
  |some b=>
   dsimp only
   have hl:=qf6 hb
   have hm:=qjy hb
   have ht:=getD_at Tk.zero hl
   have hto:=qiq h1
   unfold mayB at hm
   simp only [Bool.and_eq_true,decide_eq_true_eq] at hm
   obtain ⟨_,h3,h4,h5,_⟩:=hm
   obtain ⟨to,hte⟩:∃to:Nat,o.cpu=(to:Int):=⟨o.cpu.toNat,by omega⟩
   rw [hte] at hto h4⊢
   have h6:=quf h4
   rw [Int.toNat_natCast] at h6
   refine qlo h ht hto.2 h6 fun d hd hcu hc=>h5 ?_
   rw [hc,Int.toNat_natCast]
   exact hcu
theorem qhf {l:List Tk}:SortT l↔l.Pairwise fun a b=>a.id<b.id:=by
 rw [List.pairwise_iff_getElem]
 constructor
 ·intro h i j hi hj hij
  have:=h i j hij hj
  rw [List.getD_eq_getElem?_getD,List.getElem?_eq_getElem hi,List.getD_eq_getElem?_getD,List.getElem?_eq_getElem hj] at this
  exact this
 ·intro h i j hij hj
  have:=h i j om hj hij
  rw [List.getD_eq_getElem?_getD,List.getElem?_eq_getElem om,List.getD_eq_getElem?_getD,List.getElem?_eq_getElem hj]
  exact this
theorem Shp.ts (h:Shp s) {l:List Tk} (hs:SortT l) (hg:∀u∈l,TkGood u s.cpus s.sp.length∧u.Ok):Shp {s with ts:=l}:=
 ⟨⟨h.ok.cpus,h.ok.credit,h.ok.gs,h.ok.cl,h.ok.cu,fun u hu=>(hg u hu).2,h.ok.sp⟩,h.cpus,h.credit,h.gs,h.cl,h.cu,h.sp,h.cls,h.rows,h.spots,hs,fun u hu=>(hg u hu).1⟩
theorem qug {l:List Tk} {id:Int} (h:¬0≤fidx l id):∀t∈l,t.id≠id:=by
 rcases qfc l id with ⟨_,h2⟩|⟨i,h2,_⟩
 ·intro t ht hid
  obtain ⟨k,hk,rfl⟩:=qaf Tk.zero ht
  unfold findS at h2
  have:=List.findIdx?_eq_none_iff.1 h2 _ (qd Tk.zero hk)
  rw [hid,beq_self_eq_true] at this
  cases this
 ·omega
theorem qdz {α:Type} {p:α→Bool}:∀{l:List α} {u:α},u∈l.takeWhile p→p u=true
 |[],u,h=>by cases h
 | a :: r, u, h => by
  rw [List.takeWhile_cons] at h
  split at h
  ·rename_i ha
   rcases List.mem_cons.1 h with rfl|h
   ·exact ha
   ·exact qdz h
  ·cases h
theorem qdd {α:Type} {p:α→Bool}:∀{l:List α} {a:α} {r:List α},l.dropWhile p=a::r→p a=false
 |[],_,_,h=>by cases h
 | b :: q, a, r, h => by
  rw [List.dropWhile_cons] at h
  split at h
  ·exact qdd h
  ·rename_i hb
   injection h with h1 h2
   subst h1
   simpa using hb
theorem qxi {l:List Tk} {id:Int} (hs:SortT l) (hn:∀t∈l,t.id≠id) (ht:t.id=id):SortT ((l.takeWhile fun t=>decide (t.id≤id))++t::(l.dropWhile fun t=>decide (t.id≤id))):=by
 rw [qhf] at hs⊢
 have hlow:∀u∈l.takeWhile (fun t=>decide (t.id≤id)),u.id<id:=fun u hu=>by
  have h1:=qdz hu
  rw [decide_eq_true_eq] at h1
  have:=hn u ((List.takeWhile_sublist _).subset hu)
  omega
 have hd:=hs.sublist (List.dropWhile_sublist fun t=>decide (t.id≤id))
 have hhi:∀u∈l.dropWhile (fun t=>decide (t.id≤id)),id<u.id:=fun u hu=>by
  cases hdr:l.dropWhile (fun t=>decide (t.id≤id)) with
  |nil=>rw [hdr] at hu;cases hu
  | cons a r =>
   have h1:¬decide (a.id≤id)=true:=by
    have:=qdd hdr
    rw [this];decide
   rw [decide_eq_true_eq] at h1
   rw [hdr] at hu hd
   rcases List.mem_cons.1 hu with rfl|hu
   ·omega
   ·have:=(List.pairwise_cons.1 hd).1 u hu;omega
 rw [List.pairwise_append]
 refine ⟨hs.sublist (List.takeWhile_sublist _),List.pairwise_cons.2 ⟨fun u hu=>?_,hd⟩,fun a ha b hb=>?_⟩
 ·have:=hhi u hu;omega
 ·have h1:=hlow a ha
  rcases List.mem_cons.1 hb with rfl|hb
  ·omega
  ·have:=hhi b hb;omega
theorem quh {l:List Tk} {p:Tk→Bool} {u:Tk}:u∈l.takeWhile p++t::l.dropWhile p↔u=t∨u∈l:=by
 conv=>rhs;rw [←List.takeWhile_append_dropWhile (p:=p) (l:=l)]
 simp only [List.mem_append,List.mem_cons]
 constructor
 ·rintro (h|rfl|h)
  ·exact .inr (.inl h)
  ·exact .inl rfl
  ·exact .inr (.inr h)
 ·rintro (rfl|h|h)
  ·exact .inr (.inl rfl)
  ·exact .inl h
  ·exact .inr (.inr h)
theorem qq2 (ho : o.Ok) (h : GoodS s) (he : (qem s o).2.2 = 0) : GoodS (qem s o).1 := by
 unfold qem at he⊢
 split at he
 ·cases he
 ·split at he
  ·cases he
  ·split at he
   ·cases he
   ·split at he
    ·cases he
    ·split at he
     ·cases he
     ·split at he
      ·cases he
      ·rename_i h1 h2 h3 h4 h5 h6
       rw [if_neg h1,if_neg h2,if_neg h3,if_neg h4,if_neg h5,if_neg h6]
       have hc:=qiq h1
       have hgl:o.group.toNat<s.sp.length:=by omega
       have hid:1≤o.task∧o.task≤65535:=by simpa [idOk] using h2
       have hg3:0≤o.group∧o.group<s.sp.length:=Classical.not_not.1 h3
       have hw:1≤o.weight∧o.weight≤65536:=by have:=fun h=>h4 (.inl h);simpa [wOk] using this
       have hm:qdw o.mask s.cpus=false:=by have:=fun h=>h4 (.inr (.inr h));simpa using this
       have hb:o.mask/2^o.cpu.toNat%2=1:=quf (by simpa using h6)
       have hf:=(qcx h.sh.ok o.group.toNat o.cpu.toNat).floor
       have htg:TkGood (⟨o.task,o.group,o.weight,o.cpu,o.mask,true,(s.spot o.group.toNat o.cpu.toNat).floor,0⟩:Tk) s.cpus s.sp.length:=⟨hid,hg3,hc,hw,hm,hb,by unfold entOk;rw [decide_eq_true_eq];exact ⟨hw.1,hw.2,by show ((0:Nat):Int)<o.weight;omega,.inr rfl⟩⟩
       have hto:(⟨o.task,o.group,o.weight,o.cpu,o.mask,true,(s.spot o.group.toNat o.cpu.toNat).floor,0⟩:Tk).Ok:=⟨ho.task,ho.group,ho.weight,ho.cpu,ho.mask,hf,by show 0<_;omega⟩
       have hs1:=h.sh.ts (qxi h.sh.sort (qug h5) (t:=⟨o.task,o.group,o.weight,o.cpu,o.mask,true,(s.spot o.group.toNat o.cpu.toNat).floor,0⟩) rfl) (fun u hu=>by
        rcases quh.1 hu with rfl|hu
        ·exact ⟨htg,hto⟩
        ·exact ⟨h.sh.tasks u hu,h.sh.ok.ts u hu⟩)
       have hc1:CurS {s with ts:=(s.ts.takeWhile fun t=>decide (t.id≤o.task))++(⟨o.task,o.group,o.weight,o.cpu,o.mask,true,(s.spot o.group.toNat o.cpu.toNat).floor,0⟩::(s.ts.dropWhile fun t=>decide (t.id≤o.task)))}:=fun d hd=>by
        rcases h.cur d hd with h7|⟨u,hu,h7⟩
        ·exact .inl h7
        ·exact .inr ⟨u,quh.2 (.inr hu),h7⟩
       exact ⟨hs1.wake (by show ((o.cpu.toNat:Nat):Int)<s.cpus;omega) _ (qfj h.sh hgl),hc1.but (qbp ..)⟩
theorem qis (h:GoodS s) (he:(qby s o).2.2=0):GoodS (qby s o).1:=by
 unfold qby at he⊢
 split at he
 ·cases he
 ·split at he
  ·cases he
  ·rename_i h1 h2
   rw [if_neg h1,if_neg h2]
   have hc:=qiq h1
   dsimp only
   rcases h.cur o.cpu.toNat (by have:=h.sh.cu;omega) with h5|⟨t,htm,hid,hr,hcp⟩
   ·exact absurd h5 h2
   ·obtain ⟨k,hk,rfl⟩:=qaf Tk.zero htm
    have hf:=qt8 h.sh.sort hk
    have ht:=getD_at Tk.zero hk
    obtain ⟨t,hte⟩:∃t,s.ts.getD k Tk.zero=t:=⟨_,rfl⟩
    rw [hte] at hid hr hcp hf ht
    rw [←hid,hf,Int.toNat_natCast,hte]
    obtain ⟨hg,hto⟩:=qhe h.sh ht
    have hr2:=qip hg hto false
    have hs1:Shp {s with cu:=s.cu.set o.cpu.toNat 0}:=quc h.sh (by unfold I64;omega)
    have hs2:Shp {s with cu:=s.cu.set o.cpu.toNat 0,ts:=s.ts.set k {t with ready:=false}}:=hs1.task (s:={s with cu:=s.cu.set o.cpu.toNat 0}) ht rfl hr2.2 hr2.1
    have hcur:∀d,d<(s.cu.set o.cpu.toNat 0).length→(s.cu.set o.cpu.toNat 0).getD d 0=0∨∃j u,s.ts[j]?=some u∧j≠k∧u.id=(s.cu.set o.cpu.toNat 0).getD d 0∧u.ready=true∧u.cpu=(d:Int):=fun d hd=>by
     rw [List.length_set] at hd
     by_cases e:o.cpu.toNat=d
     ·subst e;rw [qi _ _ hd];exact .inl rfl
     ·rw [getD_set_ne _ _ e]
      rcases h.cur d hd with h6|⟨u,hu,h6,h7,h8⟩
      ·exact .inl h6
      ·obtain ⟨j,hj,rfl⟩:=qaf Tk.zero hu
       refine .inr ⟨j,_,getD_at Tk.zero hj,fun e2=>?_,h6,h7,h8⟩
       subst e2
       rw [hte,hcp] at h8
       exact e om
    split
    ·refine ⟨hs2.ts (s:={s with cu:=s.cu.set o.cpu.toNat 0,ts:=s.ts.set k {t with ready:=false}}) (l:=(s.ts.set k {t with ready:=false}).eraseIdx k) (qhf.2 ((qhf.1 hs2.sort).sublist (List.eraseIdx_sublist ..))) (fun u hu=>?_),fun d hd=>?_⟩
     ·have hu2:=(List.eraseIdx_sublist ..).subset hu
      exact ⟨hs2.tasks u hu2,hs2.ok.ts u hu2⟩
     ·rcases hcur d hd with h6|⟨j,u,hj,hjk,h6⟩
      ·exact .inl h6
      ·refine .inr ⟨u,?_,h6⟩
       have h7:(s.ts.set k {t with ready:=false})[j]?=some u:=by rw [List.getElem?_set_ne (fun e=>hjk e.symm)];exact hj
       exact List.mem_eraseIdx_iff_getElem?.2 ⟨j,hjk,h7⟩
    ·refine ⟨hs2,fun d hd=>?_⟩
     rcases hcur d hd with h6|⟨j,u,hj,hjk,h6⟩
     ·exact .inl h6
     ·refine .inr ⟨u,?_,h6⟩
      have h7:(s.ts.set k {t with ready:=false})[j]?=some u:=by rw [List.getElem?_set_ne (fun e=>hjk e.symm)];exact hj
      exact List.mem_of_getElem? h7
theorem qhg (ho:o.Ok) (h:GoodS s) (he:(stepS s o).2.2=0):GoodS (stepS s o).1:=by
 unfold stepS at he⊢
 split at he
 ·exact qq2 ho h he
 ·exact qq1 h he
 ·exact qis h he
 ·exact qis h he
 ·exact qud h he
 ·exact que h he
 ·exact qjx h he
 ·exact qln h he
 ·exact qlp h he
 ·exact qlq h he
 ·cases he
end
def qo6 (w:World) (R:List Nat) (r:Ending) (w':World):Prop:=
 (∃A c,r= .returned (.slice A R.length c)∧w'.ownsRow w.heap.size 3 1 (.slice A R.length c) R.length (R.map I64v)∧R.length≤c)∧Below w.heap.size w w'
theorem qy8 {w w':World} {q R:List Nat} {A:Option Addr} {c:Nat} (hq:q=R) (ho:w'.ownsRow w.heap.size 3 1 (.slice A q.length c) q.length (q.map I64v)) (hc:q.length≤c) (hb:Below w.heap.size w w'):qo6 w R (.returned (.slice A q.length c)) w':=by
 subst hq
 exact ⟨⟨A,c,rfl,ho,hc⟩,hb⟩
theorem q01 {x:Stm} {g c:Nat} (hok:x.sta.Ok) (hsh:ShAt x) (hn:memS x.sta g c≠[]):(bestM topM (memS x.sta g c)).id≤1000000:=by
 rcases qdr hok hn with ⟨_,t,ht,_,h2⟩|⟨_,h,h3,_,h5,_⟩
 ·obtain ⟨i,hi,rfl⟩:=List.getElem_of_mem ht
  have h4:=tk_id (hsh.tk i hi)
  rw [List.getD_eq_getElem?_getD,List.getElem?_eq_getElem (l:=x.ts) hi] at h4
  have h5:1≤(x.sta.ts[i]).id∧(x.sta.ts[i]).id≤65535:=h4
  rw [h2]
  show (x.sta.ts[i]).id.toNat≤1000000
  omega
 ·rw [h3]
  rw [zh,hsh.rs] at h5
  obtain ⟨_,_,_,hgs⟩:=zq hsh.cfg
  have:=(qq hgs).2.1
  omega
theorem qit {x:Stm} (hsh:ShAt x):∀t∈x.ts,1≤t.weight∧t.weight≤65536:=by
 intro t ht
 obtain ⟨i,hi,rfl⟩:=List.getElem_of_mem ht
 have h1:=(qgt (hsh.tk i hi)).2
 rw [List.getD_eq_getElem?_getD,List.getElem?_eq_getElem hi] at h1
 unfold tkOk1 wOk at h1
 simp only [Bool.and_eq_true,decide_eq_true_eq,Option.getD_some] at h1
 exact h1.2.1
theorem qui (x:Stm) (gm g c:Nat) (w:World) (hok:x.sta.Ok) (hf:StFew x) (hsh:ShAt x) (hx:StRd w x) (hm:w.heap[gm]?=some (.cells #[vI x.cpus,vQ x.credit,.slice x.gA x.gs.length x.gc,.slice x.lA x.cl.length x.lc,.slice x.uA x.cu.length x.uc,.slice x.tA x.ts.length x.tc,.slice x.sA x.rs.length x.sc,.bool true] 138 (0,0))) (hc:(c:Int)<x.cpus) (hg:g<x.rs.length):
    Calls Tryz.prog 104 #[vP gm 0,vI g,vI c] w (qo6 w (zf x.sta g c)):=by
 have hfs_:=hf.s;have hft_:=hf.t;have hfg_:=hf.g;have hrl:=hsh.rs
 obtain ⟨hc1,hc2,_,hgs⟩:=zq hsh.cfg
 refine (JN3 Tryz.func104 35) ?_
 refine (JP∘Jp 1∘Jq) fun a Z I=>?_
 replace I:=I.nil 3 1
 refine Jb Z I ((JG∘JP∘Jp 1∘Jj∘JQ∘JB) fun a Z I=>?_)
 refine qj (fun mS aS wS=>∃(k:Nat) (q:List Nat) (X:Option Addr) (xc:Nat),(k≤g)∧(q++zf x.sta k c=zf x.sta g c)∧(q.length≤g-k)∧(q.length≤xc)∧mS=0+k∧Fr aS 35 [] [(7,.slice X q.length xc),(6,vN),(0,vP gm 0),(1,vI k),(2,vI c)]∧Mem w wS [.row (.slice X q.length xc) q.length (q.map I64v) 3 1]) (m:=0+g) ⟨g,[],none,0,Nat.le_refl _,rfl,Nat.zero_le _,Nat.le_refl _,rfl,Z.sub kr,I.pk [0]⟩ ?_
 clear Z I;rintro mS a w_ ⟨k,q,X,xc,hk,hq,hql,hXc,rfl,Z,I⟩
 refine Jb Z I ((JQ∘JP∘Jp 2∘Jd1∘Jj) (Ju (fun hb11=>?_) fun hb11=>?_))
 ·
  intro a Z I
  have hd11:=of_decide_eq_true hb11
  have hk0:0<k:=by omega
  have hpk:=qam hgs (g:=k) om k hk0 (Nat.le_refl _)
  unfold ParB at hpk
  obtain ⟨y,hy⟩:∃y:Nat,(x.gs.getD k Gr.zero).parent=(y:Int):=⟨(x.gs.getD k Gr.zero).parent.toNat,by omega⟩
  refine Jb Z I ((JT∘JS'∘JQ∘JB∘JQ∘JP∘Jp 3∘JL (h:=by exact fun I=>qes x hok hf hsh gm c om _ k (Nat.le_refl _) om _ (hx.old I) (I.oldBlk hm))) ?_)
  rintro I _ w26 ⟨rfl,hbw⟩
  refine ⟨_,rfl,_,I.call hbw,?_⟩
  refine (Jp 1∘Jx∘Jx∘JA #[vQ 0,vQ 0,vQ 0]) fun w8 g8=>(JV qcj O0' (h1:=by exact qgv (bestM topM (memS x.sta k c)))) fun w4_8=>(Jp 1∘Jd6∘Jr∘Jp 1∘Jj) (Ju (fun hb29=>?_) fun hb29=>?_)
  ·
   intro a Z I
   have hqm:q=zf x.sta g c:=by rw [←hq,qg4 (by simpa using hb29),List.append_nil]
   exact Jb Z I ((JT∘JX∘JG∘JP∘Jp 2∘Jd1∘Jj∘JZ∘Jz1) fun I=>qy8 hqm (I.own (i:=1) rfl) hXc I.below)
  intro a Z I
  have hme:memS x.sta k c=[]:=by simpa using hb29
  have hst:=qg3 (s:=x.sta) (c:=c) (g:=k) (qam hgs om) hk0 hme
  replace hst:zf x.sta k c=k::zf x.sta (x.gs.getD k Gr.zero).parent.toNat c:=hst
  rw [hy,Int.toNat_natCast] at hst
  refine Jb Z I ((JF∘JS'∘JR∘Jp 2∘JU ze #[vI k]) fun w32 g32=>(JD ([k].map I64v) 2 (fun _ _=>O2') ze (hr:=by exact fun I=>I.rdBlk (i:=0) (n:=1) (size:=1) rfl rfl) (h1:=by simp [Value.oneCell',I64v])) fun w33 A33 c33 hc33=>(Jp 1∘Jd4∘Jq) fun a Z I=>?_)
  have hnA33:q.length+1=(q++[k]).length:=lapp rfl
  replace I:=I.reRow (i:=2) (ys:=(q++[k]).map I64v) rfl hnA33 (List.map_append.symm)
  rw [hnA33] at hc33
  replace Z:=Z.sp 7 (.slice A33 ((q++[k]).length) c33) rfl (by rw [hnA33])
  refine Jb Z I ((JG∘JR∘Jp 1∘Jn∘Jf 0∘Jf 0∘Jf 2∘Jy (v:= .slice x.gA x.gs.length x.gc) (h:=by exact Yl.qe rfl rfl kr (fun _ h=>h.qcc hm rfl))∘Jp 1) fun a Z I=>?_)
  obtain ⟨gq1,oq1,hq1,_⟩:=Rd.qm hx.g (Nat.lt_of_le_of_lt (Nat.zero_le _) (show k<x.gs.length from by omega)) de
  have hrq1:=hx.g;rw [hq1] at hrq1
  replace Z:=Z.sp 17 (.slice (some ⟨gq1,oq1,none⟩) x.gs.length x.gc) rfl (by rw [hq1];try rfl)
  refine Jb Z I ((Jy (h:=by exact Yl.ix gq1 oq1 k 2 rfl rfl rfl)∘Jf 0∘Jy (v:=vI ((x.gs.getD k Gr.zero).parent)) (h:=by exact Yl.qe rfl rfl kr (fun _ h=>(by have:=(h.old hrq1).partAt zm (k:=k) (j:=0) (x:=(x.gs.getD k Gr.zero)) ((getD_at Gr.zero om)) rfl;simpa using this)))∘Jo (vI y) (by rw [hy])∘Jp 1∘Jd6∘Jq) fun a Z I=>?_)
  exact ⟨_,om,y,(q++[k]),A33,c33,by omega,by rw [←hq,hst,List.append_assoc];rfl,by rw [List.length_append];show q.length+1≤g-y;omega,hc33,rfl,Z.sub kr,I.pk [2]⟩
 intro a Z I
 have hd11:=of_decide_eq_false hb11
 have hqm:q=zf x.sta g c:=by rw [←hq,show k=0 by omega,qnb,List.append_nil]
 exact Jb Z I ((JF∘JX∘JG∘JP∘Jp 2∘Jd1∘Jj∘JZ∘Jz1) fun I=>qy8 hqm (I.own (i:=0) rfl) hXc I.below)
theorem quj (x:Stm) (gm c:Nat) (w:World) (hok:x.sta.Ok) (hf:StFew x) (hsh:ShAt x) (hx:StRd w x) (hm:w.heap[gm]?=some (.cells #[vI x.cpus,vQ x.credit,.slice x.gA x.gs.length x.gc,.slice x.lA x.cl.length x.lc,.slice x.uA x.cu.length x.uc,.slice x.tA x.ts.length x.tc,.slice x.sA x.rs.length x.sc,.bool true] 138 (0,0))) (hc:(c:Int)<x.cpus):
    Calls Tryz.prog 115 #[vP gm 0,vI c] w (Is w (vI (z9 x.sta c:Int))):=by
 have hfs_:=hf.s;have hft_:=hf.t;have hfg_:=hf.g;have hrl:=hsh.rs
 obtain ⟨hc1,hc2,_,hgs⟩:=zq hsh.cfg
 have hrs0:0<x.rs.length:=by have h1:=(qq hgs).1;omega
 refine (JN2 Tryz.func115 28) ?_
 refine (JP∘Jp 1∘Jr∘Jp 1∘Jj∘JB) fun a Z I=>?_
 refine qj (fun mS aS wS=>∃(g:Nat),(g<x.rs.length)∧(qdb x.sta c g=z9 x.sta c)∧mS=x.rs.length-g∧Fr aS 28 [] [(5,vI g),(4,vI 0),(0,vP gm 0),(1,vI c)]∧Mem w wS []) (m:=x.rs.length-0) ⟨0,by omega,rfl,rfl,Z.sub kr,I.pk []⟩ ?_
 clear Z I;rintro mS a w_ ⟨g,hg,hq,rfl,Z,I⟩
 refine Jb Z I ((JB∘JP∘Jp 3∘JL (h:=by exact fun I=>qes x hok hf hsh gm c om _ g (Nat.le_refl _) om _ (hx.old I) (I.oldBlk hm))) ?_)
 rintro I _ w12 ⟨rfl,hbw⟩
 refine ⟨_,rfl,_,I.call hbw,?_⟩
 refine (Jp 1∘Jx∘Jx∘JA #[vQ 0,vQ 0,vQ 0]) fun w6 g6=>(JV qcj O0' (h1:=by exact qgv (bestM topM (memS x.sta g c)))) fun w2_8=>(Jp 1∘Jj∘JQ∘JB∘JP∘Jp 3∘Jd2∘Jj) (Ju (fun hb15=>?_) fun hb15=>?_)
 ·
  intro a Z I
  have hm0:memS x.sta g c=[]:=by simpa using hb15
  exact Jb Z I ((JT∘JP∘Jp 1∘Jj∘JZ∘Jz1) fun I=>by exact ⟨by rw [←hq,qg5 (by rw [zh];omega) hm0];rfl,I.below⟩)
 intro a Z I
 have hm0:memS x.sta g c≠[]:=by simpa using hb15
 have hsl:x.sta.sp.length=x.rs.length:=zh
 refine Jb Z I ((JF∘JP∘Jy (v:=vP g6 1) (h:=by exact Yl.z8 (ad:=⟨g6,0,none⟩) (m:=3) (y:=1) (sz:=1) rfl rfl rfl kr de)∘Jc O0∘Jp 2∘Jd3∘Jj) (Ju (fun hb18=>?_) fun hb18=>?_))
 ·
  intro a Z I
  have hd18:=eq_of_beq hb18
  have hk0:(bestM topM (memS x.sta g c)).k=0:=by omega
  have hid:=q01 hok hsh hm0
  have hft:=qg6 (s:=x.sta) (c:=c) (g:=g) om hm0 hk0
  exact Jb Z I ((JT∘JP∘Jy (v:=vP g6 2) (h:=by exact Yl.z8 (ad:=⟨g6,0,none⟩) (m:=3) (y:=2) (sz:=1) rfl rfl rfl kr de)∘Jc O0∘Jv 1 [(24,vI (IntKind.i64.wrap ((bestM topM (memS x.sta g c)).id:Int)))]∘Jo (vI ((bestM topM (memS x.sta g c)).id)) (by exact qa5 rfl om)∘Jp 1∘Jd3∘Jj∘JZ∘Jz1) fun I=>by exact ⟨by rw [←hq,hft],I.below⟩)
 intro a Z I
 have hd18:=ne_of_beq_false hb18
 have hk0:(bestM topM (memS x.sta g c)).k≠0:=by omega
 obtain ⟨hdn,hdg,hdl⟩:=qg7 (s:=x.sta) (c:=c) (g:=g) hok om hm0 hk0
 refine Jb Z I ((JF∘JS'∘JR∘Jy (v:=vP g6 2) (h:=by exact Yl.z8 (ad:=⟨g6,0,none⟩) (m:=3) (y:=2) (sz:=1) rfl rfl rfl kr de)∘Jc O0∘Jv 1 [(27,vI (IntKind.i64.wrap ((bestM topM (memS x.sta g c)).id:Int)))]∘Jo (vI ((bestM topM (memS x.sta g c)).id)) (by exact qa5 rfl om)∘Jp 1∘Jd3∘Jq) fun a Z I=>?_)
 exact ⟨_,om,(bestM topM (memS x.sta g c)).id,by omega,by rw [←hdn];exact hq,rfl,Z.sub kr,I.pk []⟩
theorem qq3 (x:Stm) (gm c:Nat) (w:World) (hok:x.sta.Ok) (hf:StFew x) (hsh:ShAt x) (hx:StRd w x) (hm:w.heap[gm]?=some (.cells #[vI x.cpus,vQ x.credit,.slice x.gA x.gs.length x.gc,.slice x.lA x.cl.length x.lc,.slice x.uA x.cu.length x.uc,.slice x.tA x.ts.length x.tc,.slice x.sA x.rs.length x.sc,.bool true] 138 (0,0))):
    Calls Tryz.prog 119 #[vP gm 0,vI c] w (Is w (vI (loadS x.sta c))):=by
 have hfs_:=hf.s;have hft_:=hf.t;have hfg_:=hf.g;have hrl:=hsh.rs
 obtain ⟨hc1,hc2,_,hgs⟩:=zq hsh.cfg
 have hwt:=qit hsh
 refine (JN2 Tryz.func119 32) ?_
 refine (JP∘Jp 1∘Jr∘Jp 1∘Jj∘JQ∘JP∘Jp 1∘Jn∘Jf 0∘Jf 5∘Jy (v:= .slice x.tA x.ts.length x.tc) (h:=by exact Yl.qe rfl rfl kr (fun _ h=>h.qcc hm rfl))∘Jl∘Jp 1∘Jj∘JB) fun a Z I=>?_
 refine qj (fun mS aS wS=>∃(i:Nat),(i≤x.ts.length)∧mS=x.ts.length-i∧Fr aS 32 [] [(14,vI i),(13,vI x.ts.length),(12,.slice x.tA x.ts.length x.tc),(5,vI (loadN (x.ts.take i) c)),(4,vI 0),(1,vI c)]∧Mem w wS []) (m:=x.ts.length-0) ⟨0,Nat.zero_le _,rfl,Z.sub kr,I.pk []⟩ ?_
 clear Z I;rintro mS a w_ ⟨i,hi,rfl,Z,I⟩
 refine Jb Z I ((JP∘Jp 1∘Jj∘JQ) (Ju (fun hb15=>?_) fun hb15=>?_))
 ·
  intro a Z I
  have hd15:=of_decide_eq_true hb15
  have hi15:i<x.ts.length:=by omega
  obtain ⟨t,ht⟩:∃z,(x.ts.getD i Tk.zero)=z:=⟨_,rfl⟩
  have hls:=qqn (c:=c) hi15
  rw [ht] at hls
  have hb1:=qij (c:=c) hwt i;have hb2:=qij (c:=c) hwt (i+1)
  refine Jb Z I ((JT∘JS'∘JQ∘JB∘JP) fun a Z I=>?_)
  obtain ⟨gq1,oq1,hq1,_⟩:=Rd.qm hx.t (Nat.lt_of_le_of_lt (Nat.zero_le _) (show i<x.ts.length from by omega)) de
  have hrq1:=hx.t;rw [hq1] at hrq1
  replace Z:=Z.sp 12 (.slice (some ⟨gq1,oq1,none⟩) x.ts.length x.tc) rfl (by rw [hq1];try rfl)
  refine Jb Z I ((Jy (h:=by exact Yl.ix gq1 oq1 i 8 rfl rfl rfl)∘Jy (v:= .agg ((x.ts.getD i Tk.zero).cells)) (h:=by exact Yl.loadS rfl rfl si_tk rfl (fun _ h=>(h.old hrq1).q7 qf ((getD_at Tk.zero om))))∘Jo (.agg t.cells) (by rw [ht])∘JA #[vI 0,vI 0,vI 0,vI 0,vQ 0,.bool false,vQ 0,vW 0]) fun w7 g7=>(JV si_tk O0' (h1:=by exact qid t)) fun w4_3=>(Jd2∘Jj) fun a Z I=>?_)
  refine zb (fun aS wS=>Fr aS 32 [] [(25,.bool (t.ready&&decide (t.cpu=(c:Int)))),(7,vP g7 0),(12,.slice (some ⟨gq1,oq1,none⟩) x.ts.length x.tc),(15,.bool true),(14,vI i),(13,vI x.ts.length),(5,vI (loadN (x.ts.take i) c)),(4,vI 0),(1,vI c)]∧Mem w wS [.blk g7 t.cells 61]) ?_ ?_
  ·
   refine qbi ?_
   refine Jb Z I ((Jg 5 O0∘Jp 1) (Ju (fun hb20=>?_) fun hb20=>?_))
   ·
    refine (Jg 3 O0∘Jp 3∘Jd5∘Jq) fun a Z I=>?_
    have Z:=Z.sp 25 (.bool (t.ready&&decide (t.cpu=(c:Int)))) rfl (congrArg Value.bool (by rw [hb20,Bool.true_and,Bool.eq_iff_iff,beq_iff_eq,decide_eq_true_eq]))
    exact ⟨Z.sub kr,I.pk [0]⟩
   refine (Jp 5∘Jd6∘Jq) fun a Z I=>?_
   have Z:=Z.sp 25 (.bool (t.ready&&decide (t.cpu=(c:Int)))) rfl (congrArg Value.bool (by rw [hb20];try rfl))
   exact ⟨Z.sub kr,I.pk [0]⟩
  clear Z I;rintro a w5 ⟨Z,I⟩
  refine Jb Z I (Ju (fun hb25=>?_) fun hb25=>?_)
  ·
   intro a Z I
   rw [if_pos hb25] at hls
   refine Jb Z I ((JT∘JR∘Jp 1∘Jg 2 O0∘Jp 1∘Jo (vI (loadN (x.ts.take (i+1)) c)) (by rw [hls];exact qcg ⟨by omega,by omega⟩)∘Jp 1∘Jd3∘Jj∘JR∘JaK 1∘Jp 1∘Jd1∘Jq) fun a Z I=>?_)
   replace Z:=Z.sp 12 (.slice x.tA x.ts.length x.tc) rfl (by rw [hq1])
   exact ⟨_,om,i+1,by omega,rfl,Z.sub kr,I.pk []⟩
  intro a Z I
  rw [if_neg (by rw [hb25];decide),Int.add_zero] at hls
  replace Z:=Z.sp 5 (vI (loadN (x.ts.take (i+1)) c)) rfl (by rw [hls])
  refine Jb Z I ((JF∘JS'∘JR∘JaK 1∘Jp 1∘Jd1∘Jq) fun a Z I=>?_)
  replace Z:=Z.sp 12 (.slice x.tA x.ts.length x.tc) rfl (by rw [hq1])
  exact ⟨_,om,i+1,by omega,rfl,Z.sub kr,I.pk []⟩
 intro a Z I
 have hd15:=of_decide_eq_false hb15
 have hall:loadN (x.ts.take i) c=loadS x.sta c:=by rw [List.take_of_length_le om];rfl
 exact Jb Z I ((JF∘JX∘JG∘JP∘Jp 2∘Jd1∘Jj∘JZ∘Jz1) fun I=>by exact ⟨by rw [hall],I.below⟩)
theorem qxj {W w:World} {F T:List Fact} {x:Stm} {ng nl nu nt ns gm g c:Nat} (n:Nat) (I:Mem W w F) (he:F.drop n=mdA gm x ng nl nu nt ns++T) (hx:MdOk x ng nl nu nt ns) (hc:(c:Int)<x.cpus) (hg:g<ns):Calls Tryz.prog 104 #[vP gm 0,vI g,vI c] w (qo6 w (zf x.sta g c)):=
 qui x gm g c w hx.ok hx.few hx.sh (I.mdRd n he hx.ln) (I.mdBlk n he hx.ln) hc (by rw [hx.ln.s];exact hg)
theorem qxk {W w:World} {F T:List Fact} {x:Stm} {ng nl nu nt ns gm c:Nat} (n:Nat) (I:Mem W w F) (he:F.drop n=mdA gm x ng nl nu nt ns++T) (hx:MdOk x ng nl nu nt ns) (hc:(c:Int)<x.cpus):Calls Tryz.prog 115 #[vP gm 0,vI c] w (Is w (vI (z9 x.sta c:Int))):=
 quj x gm c w hx.ok hx.few hx.sh (I.mdRd n he hx.ln) (I.mdBlk n he hx.ln) hc
theorem quk {W w:World} {F T:List Fact} {x:Stm} {ng nl nu nt ns gm c:Nat} (n:Nat) (I:Mem W w F) (he:F.drop n=mdA gm x ng nl nu nt ns++T) (hx:MdOk x ng nl nu nt ns):Calls Tryz.prog 119 #[vP gm 0,vI c] w (Is w (vI (loadS x.sta c))):=
 qq3 x gm c w hx.ok hx.few hx.sh (I.mdRd n he hx.ln) (I.mdBlk n he hx.ln)
def qul (W:World) (gm:Nat) (x:Stm) (ng nl nu nt ns:Nat) (T:List Fact) (s:Sta) (r:Ending) (w':World):Prop:=∃rs2,r= .returned (.tuple #[])∧rs2.length=ns∧SpsOk x.gs x.cpus rs2∧({x with rs:=rs2}:Stm).sta=s∧Mem W w' (mdA gm {x with rs:=rs2} ng nl nu nt ns++T)
theorem qy9 {W w':World} {gm:Nat} {x:Stm} {ng nl nu nt ns:Nat} {T:List Fact} {s:Sta} {rs2:List Rw} (hl:rs2.length=ns) (hs:SpsOk x.gs x.cpus rs2) (he:({x with rs:=rs2}:Stm).sta=s) (hm:Mem W w' (mdA gm {x with rs:=rs2} ng nl nu nt ns++T)):qul W gm x ng nl nu nt ns T s (.returned (.tuple #[])) w':=⟨rs2,rfl,hl,hs,he,hm⟩
theorem qds (x e:En) (hx:x.Ok) (fl cr:Nat) (hf:fl<18446744073709551616) (hc:cr<18446744073709551616) (he:x.woken fl cr=e) (w:World):
  Calls Tryz.prog 111 #[.agg x.cells,vQ fl,vQ cr] w (Is w (.tuple #[.agg e.cells,vI 0])):=he▸qty x hx fl cr hf hc w
theorem qq4 (W w:World) (x:Stm) (gm c:Nat) (ng nl nu nt ns:Nat) (hx:Lns x ng nl nu nt ns) (T:List Fact) (E:Option Addr) (ec:Nat) (l:List Nat) (hT: .row (.slice E l.length ec) l.length (l.map I64v) 3 1∈T) (hlm:∀g∈l,0<g∧g<ns) (hln:l.length≤1000000)
    (hgs:gsOk x.gs=true) (hrg:x.rs.length=x.gs.length) (hsp:SpsOk x.gs x.cpus x.rs) (hcr:x.credit<18446744073709551616) (hcp:x.cpus≤64) (hc:(c:Int)<x.cpus) (I:Mem W w (mdA gm x ng nl nu nt ns++T)):
    Calls Tryz.prog 110 #[vP gm 0,.slice E l.length ec,vI c] w (qul W gm x ng nl nu nt ns T (wakeS x.sta l c)):=by
 obtain ⟨cp,cr,gA,gc,gs,lA,lc,cl,uA,uc,cu,tA,tc,ts,sA,sc,rs⟩:=x
 replace I:Mem W w (fM gm cp cr gA ng gc lA nl lc uA nu uc tA nt tc sA ns sc::fG gA ng gc gs::fI lA nl lc cl::fI uA nu uc cu::fT tA nt tc ts::fS sA ns sc rs::(fR rs++(T))):=I
 obtain ⟨hlg,hll,hlu,hlt,hls⟩:=hx;replace hlg:gs.length=ng:=hlg;replace hls:rs.length=ns:=hls
 have hrE:Rd w w.heap.size 1 E l.length (l.map I64v):=I.rdT 6 rfl hT
 replace hgs:gsOk gs=true:=hgs;replace hrg:rs.length=gs.length:=hrg;replace hcr:cr<18446744073709551616:=hcr;replace hcp:cp≤64:=hcp;replace hc:(c:Int)<cp:=hc;replace hsp:SpsOk gs cp rs:=hsp
 have hgl:=qq hgs
 have hgl1:=hgl.1;have hgl2:=hgl.2.1
 obtain ⟨ggA,rfl⟩:=qn (I.own (i:=1) rfl) om
 obtain ⟨gsA,rfl⟩:=qn (I.own (i:=5) rfl) om
 refine (Jin3 I Tryz.func110 82) ?_
 refine (JP∘Jp 1∘Jl∘Jp 1∘Jj∘JB) fun a Z I=>?_
 refine qj (fun mS aS wS=>∃(i:Nat) (rs2:List Rw),(i≤l.length)∧(rs2.length=ns)∧(SpsOk gs cp rs2)∧((⟨cp,cr,some ⟨ggA,0,none⟩,gc,gs,lA,lc,cl,uA,uc,cu,tA,tc,ts,some ⟨gsA,0,none⟩,sc,rs2⟩:Stm).sta=wakeS (⟨cp,cr,some ⟨ggA,0,none⟩,gc,gs,lA,lc,cl,uA,uc,cu,tA,tc,ts,some ⟨gsA,0,none⟩,sc,rs⟩:Stm).sta (l.take i) c)∧mS=l.length-i∧Fr aS 82 [] [(14,vI i),(13,vI l.length),(12,.slice E l.length ec),(0,vP gm 0),(2,vI c)]∧Mem W wS (fM gm cp cr (some ⟨ggA,0,none⟩) ng gc lA nl lc uA nu uc tA nt tc (some ⟨gsA,0,none⟩) ns sc::fG (some ⟨ggA,0,none⟩) ng gc gs::fI lA nl lc cl::fI uA nu uc cu::fT tA nt tc ts::fS (some ⟨gsA,0,none⟩) ns sc rs2::(fR rs2++(T)))) (m:=l.length-0) ⟨0,rs,Nat.zero_le _,hls,hsp,rfl,rfl,Z.sub kr,I.pt 6 [0,1,2,3,4,5]⟩ ?_
 clear Z I;rintro mS a w_ ⟨i,rs2,hi,hl2,hsp2,hst2,rfl,Z,I⟩
 refine Jb Z I ((JP∘Jp 1∘Jj∘JQ) (Ju (fun hb15=>?_) fun hb15=>?_))
 ·
  intro a Z I
  have hd15:=of_decide_eq_true hb15
  have hi15:i<l.length:=by omega
  obtain ⟨g,hge⟩:∃z,(l.getD i 0)=z:=⟨_,rfl⟩
  have hg0:=hlm g (by rw [←hge];exact qd 0 hi15)
  obtain ⟨⟨yA,yc,yl⟩,hy⟩:∃y,rs2.getD g Rw.zero=y:=⟨_,rfl⟩
  have hys:=hsp2 g om;rw [hy] at hys
  have hyl:(yl.length:Int)=cp:=hys.1
  revert I;revert a;repeat (first|clear Z|clear I)
  intro a Z I
  obtain ⟨gy,rfl⟩:=I.rwSome 6 rfl om hy om
  obtain ⟨yz,hyz⟩:∃z,yl[c]?=some z:=⟨_,List.getElem?_eq_getElem om⟩
  have hyo:=hys.2 yz (List.mem_of_getElem? hyz)
  have hyv:=hyo.1.v;have hyr:=hyo.1.r;have hyf:=hyo.1.floor
  have hpb:=qam hgs (g:=g) om g hg0.1 (Nat.le_refl _)
  unfold ParB at hpb
  obtain ⟨p,hpp⟩:∃p:Nat,(gs.getD g Gr.zero).parent=(p:Int):=⟨(gs.getD g Gr.zero).parent.toNat,by omega⟩
  have hpg:p<g:=by omega
  obtain ⟨⟨pA,pc,pl⟩,hp⟩:∃y,rs2.getD p Rw.zero=y:=⟨_,rfl⟩
  have hps:=hsp2 p om;rw [hp] at hps
  have hpl:(pl.length:Int)=cp:=hps.1
  revert I;revert a;repeat (first|clear Z|clear I)
  intro a Z I
  obtain ⟨gp,rfl⟩:=I.rwSome 6 rfl om hp om
  obtain ⟨pz,hpz⟩:∃z,pl[c]?=some z:=⟨_,List.getElem?_eq_getElem om⟩
  have hpo:=hps.2 pz (List.mem_of_getElem? hpz)
  have hpv:=hpo.1.v;have hpr:=hpo.1.r;have hpf:=hpo.1.floor
  obtain ⟨wt,hwt,hwt1,hwt2⟩:=qck hgs (g:=g) om
  have hEo:(⟨yz.v,yz.r,wt⟩:En).Ok:=⟨by have:=hyo.2;rw [hwt] at this;exact this,hyo.1.v⟩
  obtain ⟨e,hew⟩:∃e,(⟨yz.v,yz.r,wt⟩:En).woken pz.floor cr=e:=⟨_,rfl⟩
  have heo:e.Ok∧e.w=wt:=by rw [←hew];exact En.qgb hEo _ _ hpf
  have hev:=heo.1.2;have her:e.r<4294967296:=by have:=qfv heo.1.1;omega
  refine Jb Z I ((JT∘JS'∘JQ∘JB∘JP) ?_)
  repeat (first|clear Z|clear I)
  intro a Z I
  obtain ⟨gE,oE,rfl,_⟩:=hrE.qm (Nat.lt_of_le_of_lt (Nat.zero_le _) (show i<l.length from by omega)) de
  refine Jb Z I ((Jy (h:=by exact Yl.ix gE oE i 1 rfl rfl rfl)∘Jy (v:=vI (l.getD i 0)) (h:=by exact Yl.qe rfl rfl kr (fun _ h=>(h.rdT 6 rfl hT).qzm (k:=i) (qn9 (F:=I64v) (k:=i) (x:=(l.getD i 0)) ((getD_at 0 om)))))∘Jo (vI g) (by rw [hge])∘Jp 1∘Jd2∘Jr∘Jp 1∘Jn∘Jf 0∘Jg 6 O0∘Jp 1∘Jy (h:=by exact Yl.ix0 gsA g 1 rfl rfl rfl)∘Jy (v:= .slice ((rs2.getD g Rw.zero).A) ((rs2.getD g Rw.zero).l.length) ((rs2.getD g Rw.zero).c)) (h:=by exact Yl.r1 5 g Rw.zero om rfl rfl rfl)∘Jo (vS gy yl.length yc) (by rw [hy])∘Jp 1∘Jy (h:=by exact Yl.ix0 gy c 3 rfl rfl rfl)∘Jp 1∘Jd6∘Jr∘Jp 1∘Jn∘Jf 0∘Jf 0∘Jg 2 O0∘Jp 1∘Jy (h:=by exact Yl.ix0 ggA g 2 rfl rfl rfl)∘Jy (v:= .agg ((gs.getD g Gr.zero).cells)) (h:=by exact Yl.loadS rfl rfl si_gr rfl (fun _ h=>h.qde zm (i:=1) rfl ((getD_at Gr.zero om))))∘JA #[vI 0,vI 0]) fun w9 g9=>(JV si_gr O0' (h1:=by exact qyx (gs.getD g Gr.zero))) fun w4_10=>(Jd6∘Jj) fun a Z I=>?_)
  refine zb (fun aS wS=>∃(g10:Nat),Fr aS 82 [] [(10,vP g10 0),(9,vP g9 0),(8,vP gy (c*3)),(7,vI g),(15,.bool true),(14,vI i),(13,vI l.length),(12,.slice (some ⟨gE,oE,none⟩) l.length ec),(0,vP gm 0),(2,vI c)]∧Mem W wS (.blk g10 e.cells 168:: .blk g9 ((gs.getD g Gr.zero).cells) 110::fM gm cp cr (some ⟨ggA,0,none⟩) ng gc lA nl lc uA nu uc tA nt tc (some ⟨gsA,0,none⟩) ns sc::fG (some ⟨ggA,0,none⟩) ng gc gs::fI lA nl lc cl::fI uA nu uc cu::fT tA nt tc ts::fS (some ⟨gsA,0,none⟩) ns sc rs2::(fR rs2++(T)))) ?_ ?_
  ·
   refine Jb Z I ((Vs .n [35]) fun wd5=>(Vp [0,4]∘Vf 8 1∘Vp [11]∘Vf 16 0∘Vp [20,24]∘Vn 1∘Vf 2 0∘Vy 3 (v:=vQ yz.v) (h:=by exact Yl.qe rfl rfl kr (fun _ h=>h.qb1 7 (j:=0) rfl om hy (hyz) rfl))∘Vn 5∘Vf 6 1∘Vy 7 (v:=vW yz.r) (h:=by exact Yl.qe rfl rfl kr (fun _ h=>h.qb1 7 (j:=1) rfl om hy (hyz) rfl))∘Vc 9 O0∘Vo (vI wt) (by rw [hwt])∘Vn 12∘Vf 13 0∘Vf 14 6∘Vc 15 O1∘Vc 17 O0∘Vo (vI p) (by rw [hpp])∘Vy 18 (h:=by exact Yl.ix0 gsA p 1 rfl rfl rfl)∘Vy 19 (v:= .slice ((rs2.getD p Rw.zero).A) ((rs2.getD p Rw.zero).l.length) ((rs2.getD p Rw.zero).c)) (h:=by exact Yl.r1 6 p Rw.zero om rfl rfl rfl)∘Vo (vS gp pl.length pc) (by rw [hp])∘Vy 21 (h:=by exact Yl.ix0 gp c 3 rfl rfl rfl)∘Vf 22 2∘Vy 23 (v:=vQ pz.floor) (h:=by exact Yl.qe rfl rfl kr (fun _ h=>h.qb1 7 (j:=2) rfl om hp (hpz) rfl))∘Vn 25∘Vf 26 0∘Vf 27 0∘Vf 28 1∘Vc 29 O1) fun a Z I HS=>?_)
   refine qo [10,34] kr rfl ?_
   refine all_cons ?_ ?_
   ·refine qc Z (i:=10) rfl rfl ?_
    refine e_is Z I [vQ yz.v,vW yz.r,vI wt] (.agg #[vQ yz.v,vW yz.r,vW wt]) rfl rfl (qy yz.v yz.r (wt:Int) om _) fun w48 hbw I a Z=>?_
    refine keepS (I.pt 7 [0,1,2,3,4,5,6]) (fun HS=>?_)
    refine qo [30,34] kr rfl ?_
    refine all_cons ?_ ?_
    ·refine qc Z (i:=30) rfl rfl ?_
     refine e_is Z I [.agg #[vQ yz.v,vW yz.r,vW wt],vQ pz.floor,vQ cr] (.tuple #[.agg e.cells,vI 0]) rfl rfl (qds (⟨yz.v,yz.r,wt⟩:En) e hEo pz.floor cr hpf hcr hew _) fun w68 hbw I a Z=>?_
     refine keepS (I.pt 7 [0,1,2,3,4,5,6]) (fun HS=>?_)
     refine Vb Z I HS ((Vp [31]∘Vx 32∘Vx 33∘VA 34 .n #[vQ 0,vW 0,vW 0]) fun w10 g10=>fun a Z I HS=>?_)
     refine s_on Z 35 rfl (e_sa Z I 0 rfl rfl rfl rfl rfl qk rfl rfl (zk e) ?_)
     clear I;intro w5_35 I
     refine noS kr ?_
     refine ap Z (pastS kr) [36] (bt 37 []) [] fun a Z=>?_
     refine qb kr ?_
     exact ⟨g10,Z.sub kr,I.pt 8 [0,1,2,3,4,5,6,7]⟩
    refine all_cons ?_ all_nil
    refine qc Z (i:=34) rfl rfl ?_
    refine s_ea Z I #[vQ 0,vW 0,vW 0] ?_
    clear Z I;intro a w10 g10 Z I
    refine keepS (I.pt 8 [1,2,3,4,5,6,7]) (fun HS=>?_)
    refine Vb Z I HS ((VI 30 (.f .n) (h:=by exact fun I=>qds (⟨yz.v,yz.r,wt⟩:En) e hEo pz.floor cr hpf hcr hew _)) fun w68 hbw=>(Vp [31]∘Vx 32∘Vx 33) fun a Z I HS=>?_)
    refine s_on Z 35 rfl (e_sa Z I 0 rfl rfl rfl rfl rfl qk rfl rfl (zk e) ?_)
    clear I;intro w5_35 I
    refine noS kr ?_
    refine ap Z (pastS kr) [36] (bt 37 []) [] fun a Z=>?_
    refine qb kr ?_
    exact ⟨g10,Z.sub kr,I.pt 8 [0,1,2,3,4,5,6,7]⟩
   refine all_cons ?_ all_nil
   refine qc Z (i:=34) rfl rfl ?_
   refine s_ea Z I #[vQ 0,vW 0,vW 0] ?_
   clear Z I;intro a w10 g10 Z I
   refine keepS (I.pt 8 [1,2,3,4,5,6,7]) (fun HS=>?_)
   refine Vb Z I HS ((VI 10 (.f .n) (h:=by exact fun I=>qy yz.v yz.r (wt:Int) om _)) fun w48 hbw=>(VI 30 (.f .n) (h:=by exact fun I=>qds (⟨yz.v,yz.r,wt⟩:En) e hEo pz.floor cr hpf hcr hew _)) fun w68 hbw=>(Vp [31]∘Vx 32∘Vx 33) fun a Z I HS=>?_)
   refine s_on Z 35 rfl (e_sa Z I 0 rfl rfl rfl rfl rfl qk rfl rfl (zk e) ?_)
   clear I;intro w5_35 I
   refine noS kr ?_
   refine ap Z (pastS kr) [36] (bt 37 []) [] fun a Z=>?_
   refine qb kr ?_
   exact ⟨g10,Z.sub kr,I.pt 8 [0,1,2,3,4,5,6,7]⟩
  clear Z I;rintro a w5 ⟨g10,Z,I⟩
  refine qks I [.blk g10 e.cells 168,.blk g9 ((gs.getD g Gr.zero).cells) 110,fM gm cp cr (some ⟨ggA,0,none⟩) ng gc lA nl lc uA nu uc tA nt tc (some ⟨gsA,0,none⟩) ns sc,fG (some ⟨ggA,0,none⟩) ng gc gs,fI lA nl lc cl,fI uA nu uc cu,fT tA nt tc ts] [0,1,2,3,4,5,6] [11] fun I HS=>?_
  refine ap Z (fun _=>HS) [0,1,2,4] (bf 12 [0,1,2,4]) [(75,vP g10 1),(73,vP g10 0),(72,vP gy (c*3)),(71,vP gy (c*3))] fun a Z=>?_
  refine s_ac Z HS 3 0 (v:=vQ e.v) fun a Z=>?_
  refine s_ac Z HS 5 0 (v:=vW e.r) fun a Z=>?_
  refine s_am Z HS 6 fun a Z=>?_
  refine ap Z (fun _=>HS) [7] (bt 12 [8,9,10,11]) [(78,vP gy (c*3))] fun a Z=>?_
  refine s_on Z 8 rfl ?_
  refine qar Z I 7 (c:=c) 0 ({yz with v:=e.v}) rfl rfl rfl rfl kr rfl rfl om (hy) (hyz) rfl de rfl ?_
  clear I;intro w6_8 I
  replace I:Mem W w6_8 (.blk g10 e.cells 168:: .blk g9 ((gs.getD g Gr.zero).cells) 110::fM gm cp cr (some ⟨ggA,0,none⟩) ng gc lA nl lc uA nu uc tA nt tc (some ⟨gsA,0,none⟩) ns sc::fG (some ⟨ggA,0,none⟩) ng gc gs::fI lA nl lc cl::fI uA nu uc cu::fT tA nt tc ts::fS (some ⟨gsA,0,none⟩) ns sc (rsPut rs2 g c ({yz with v:=e.v}))::(fR (rsPut rs2 g c ({yz with v:=e.v}))++(T))):=I
  refine keepS (I.pk [0,1,2,3,4,5,6]) (fun HS=>?_)
  refine s_an Z (fun _=>HS) 9 fun a Z=>?_
  refine ap Z (fun _=>HS) [10] (bt 12 [11]) [(80,vP gy (c*3+1))] fun a Z=>?_
  refine s_on Z 11 rfl ?_
  refine qar Z I 7 (c:=c) 1 ({yz with v:=e.v,r:=e.r}) rfl rfl rfl rfl kr rfl rfl (by first|omega|(rw [qt];omega)) (qg9 om hy) (qc0 hyz) rfl de rfl ?_
  clear I;intro w6_11 I
  replace I:Mem W w6_11 (.blk g10 e.cells 168:: .blk g9 ((gs.getD g Gr.zero).cells) 110::fM gm cp cr (some ⟨ggA,0,none⟩) ng gc lA nl lc uA nu uc tA nt tc (some ⟨gsA,0,none⟩) ns sc::fG (some ⟨ggA,0,none⟩) ng gc gs::fI lA nl lc cl::fI uA nu uc cu::fT tA nt tc ts::fS (some ⟨gsA,0,none⟩) ns sc (rsPut (rsPut rs2 g c ({yz with v:=e.v})) g c ({yz with v:=e.v,r:=e.r}))::(fR (rsPut (rsPut rs2 g c ({yz with v:=e.v})) g c ({yz with v:=e.v,r:=e.r}))++(T))):=I
  rw [qew (by first|omega|(rw [qt];omega))] at I
  refine noS kr ?_
  refine qb kr ?_
  refine Jb Z I ((JG∘JR∘JaK 1∘Jp 1∘Jd6∘Jq) fun a Z I=>?_)
  exact ⟨_,om,i+1,(rsPut rs2 g c {yz with v:=e.v,r:=e.r}),by omega,by rw [qt];exact hl2,hsp2.put {yz with v:=e.v,r:=e.r} ⟨hev,her,hyo.1.floor⟩ (by rw [hwt];have:=heo.1.1;rw [heo.2] at this;exact this),by rw [qqo hi15,←hst2,hge];exact qtr (x:=(⟨cp,cr,some ⟨ggA,0,none⟩,gc,gs,lA,lc,cl,uA,uc,cu,tA,tc,ts,some ⟨gsA,0,none⟩,sc,rs2⟩:Stm)) (by show g<rs2.length;omega) hy hyz hpp (by show p<rs2.length;omega) hp hpz hwt hew,rfl,Z.sub kr,I.pt 8 [2,3,4,5,6,7]⟩
 intro a Z I
 have hd15:=of_decide_eq_false hb15
 refine Jb Z I ((JF∘JX) fun a Z I=>?_)
 exact norm0 rfl Z (qy9 (x:=(⟨cp,cr,some ⟨ggA,0,none⟩,gc,gs,lA,lc,cl,uA,uc,cu,tA,tc,ts,some ⟨gsA,0,none⟩,sc,rs⟩:Stm)) hl2 hsp2 (by rw [show ({(⟨cp,cr,some ⟨ggA,0,none⟩,gc,gs,lA,lc,cl,uA,uc,cu,tA,tc,ts,some ⟨gsA,0,none⟩,sc,rs⟩:Stm) with rs:=rs2}:Stm)=(⟨cp,cr,some ⟨ggA,0,none⟩,gc,gs,lA,lc,cl,uA,uc,cu,tA,tc,ts,some ⟨gsA,0,none⟩,sc,rs2⟩:Stm) from rfl,hst2,List.take_of_length_le om]) I)
theorem qxl {W w:World} {F T:List Fact} {x:Stm} {ng nl nu nt ns gm g c:Nat} {mm:List Mb} (n:Nat) (I:Mem W w F) (he:F.drop n=mdA gm x ng nl nu nt ns++T) (hx:MdOk x ng nl nu nt ns) (hc:(c:Int)<x.cpus) (hg:g<ns) (hm:memS x.sta g c=mm):Calls Tryz.prog 84 #[vP gm 0,vI g,vI c] w (Is w (.tuple #[.agg (bestM topM mm).cells,.bool (!mm.isEmpty)])):=hm▸qwy n I he hx hc hg
theorem qxm {x:Stm} (hok:x.sta.Ok) {g c:Nat} (hn:memS x.sta g c≠[]):(bestM topM (memS x.sta g c)).v<18446744073709551616:=by
 rcases qdq (qnc hok hn) with ⟨t,ht,_,h2⟩|⟨h,_,_,_,_,h5⟩
 ·rw [h2];exact (hok.ts t ht).v
 ·rw [h5];exact (qcx hok h c).v
theorem qq5 (W w:World) (x:Stm) (gm:Nat) (ng nl nu nt ns:Nat) (hx:MdOk x ng nl nu nt ns) (T:List Fact) (I:Mem W w (mdA gm x ng nl nu nt ns++T)):
    Calls Tryz.prog 72 #[vP gm 0] w (qul W gm x ng nl nu nt ns T (riseS x.sta)):=by
 obtain ⟨cp,cr,gA,gc,gs,lA,lc,cl,uA,uc,cu,tA,tc,ts,sA,sc,rs⟩:=x
 replace I:Mem W w (fM gm cp cr gA ng gc lA nl lc uA nu uc tA nt tc sA ns sc::fG gA ng gc gs::fI lA nl lc cl::fI uA nu uc cu::fT tA nt tc ts::fS sA ns sc rs::(fR rs++(T))):=I
 obtain ⟨hlg,hll,hlu,hlt,hls⟩:=hx.ln
 replace hlg:gs.length=ng:=hlg;replace hll:cl.length=nl:=hll;replace hlu:cu.length=nu:=hlu;replace hlt:ts.length=nt:=hlt;replace hls:rs.length=ns:=hls
 have hrg:=hx.sh.rs;replace hrg:rs.length=gs.length:=hrg
 obtain ⟨hcp1,hcp2,_,hgs⟩:=zq hx.sh.cfg
 replace hcp1:1≤cp:=hcp1;replace hcp2:cp≤64:=hcp2;replace hgs:gsOk gs=true:=hgs
 have hgl1:=(qq hgs).1;have hgl2:=(qq hgs).2.1
 obtain ⟨gsA,rfl⟩:=qn (I.own (i:=5) rfl) om
 refine (Jin1 I Tryz.func72 45) ?_
 refine (JP∘Jp 1∘Jn∘Jf 0∘Jg 6 O0∘Jl∘Jp 1∘Jj∘JB) fun a Z I=>?_
 refine qj (fun mS aS wS=>∃(g:Nat) (rs2:List Rw),(g≤ns)∧(rs2.length=ns)∧(MdOk (⟨cp,cr,gA,gc,gs,lA,lc,cl,uA,uc,cu,tA,tc,ts,some ⟨gsA,0,none⟩,sc,rs2⟩:Stm) ng nl nu nt ns)∧(Risen (⟨cp,cr,gA,gc,gs,lA,lc,cl,uA,uc,cu,tA,tc,ts,some ⟨gsA,0,none⟩,sc,rs⟩:Stm) rs2 g 0)∧mS=ns-g∧Fr aS 45 [] [(13,vI g),(12,vI ns),(11,vS gsA ns sc),(0,vP gm 0)]∧Mem W wS (fM gm cp cr gA ng gc lA nl lc uA nu uc tA nt tc (some ⟨gsA,0,none⟩) ns sc::fG gA ng gc gs::fI lA nl lc cl::fI uA nu uc cu::fT tA nt tc ts::fS (some ⟨gsA,0,none⟩) ns sc rs2::(fR rs2++(T)))) (m:=ns-0) ⟨0,rs,Nat.zero_le _,hls,hx,qqp,rfl,Z.sub kr,I.pt 6 [0,1,2,3,4,5]⟩ ?_
 clear Z I;rintro mS a w_ ⟨g,rs2,hg,hl2,hx2,hR,rfl,Z,I⟩
 refine Jb Z I ((JP∘Jp 1∘Jj∘JQ) (Ju (fun hb14=>?_) fun hb14=>?_))
 ·
  intro a Z I
  have hd14:=of_decide_eq_true hb14
  have hg14:g<ns:=by omega
  obtain ⟨⟨yA,yc,yl⟩,hy⟩:∃y,rs2.getD g Rw.zero=y:=⟨_,rfl⟩
  have hys:=hx2.spots g (by show g<rs2.length;omega)
  replace hys:((rs2.getD g Rw.zero).l.length:Int)=cp∧_:=hys
  rw [hy] at hys
  have hyl:(yl.length:Int)=cp:=hys.1
  revert I;revert a;repeat (first|clear Z|clear I)
  intro a Z I
  obtain ⟨gy,rfl⟩:=I.rwSome 6 rfl om hy om
  have hyo:=hR.2.1 g
  rw [hy] at hyo
  replace hyo:yl.length=(rs.getD g Rw.zero).l.length:=hyo
  refine Jb Z I ((JT∘JS'∘JQ∘JB∘JP∘Jp 1∘Jy (h:=by exact Yl.ix0 gsA g 1 rfl rfl rfl)∘Jy (v:= .slice ((rs2.getD g Rw.zero).A) ((rs2.getD g Rw.zero).l.length) ((rs2.getD g Rw.zero).c)) (h:=by exact Yl.r1 5 g Rw.zero om rfl rfl rfl)∘Jo (vS gy yl.length yc) (by rw [hy])∘Jp 2∘Jr∘Jp 1∘Jl∘Jp 1∘Jj∘JB) fun a Z I=>?_)
  refine qj (fun mS aS wS=>∃(c:Nat) (rs3:List Rw) (yl3:List Sp),(rs3.length=ns)∧(MdOk (⟨cp,cr,gA,gc,gs,lA,lc,cl,uA,uc,cu,tA,tc,ts,some ⟨gsA,0,none⟩,sc,rs3⟩:Stm) ng nl nu nt ns)∧(Risen (⟨cp,cr,gA,gc,gs,lA,lc,cl,uA,uc,cu,tA,tc,ts,some ⟨gsA,0,none⟩,sc,rs⟩:Stm) rs3 g c)∧(rs3.getD g Rw.zero=⟨some ⟨gy,0,none⟩,yc,yl3⟩)∧(yl3.length=yl.length)∧mS=yl.length-c∧Fr aS 45 [] [(20,vI c),(19,vI yl.length),(3,vS gy yl.length yc),(2,vI g),(14,.bool true),(13,vI g),(12,vI ns),(11,vS gsA ns sc),(0,vP gm 0)]∧Mem W wS (fM gm cp cr gA ng gc lA nl lc uA nu uc tA nt tc (some ⟨gsA,0,none⟩) ns sc::fG gA ng gc gs::fI lA nl lc cl::fI uA nu uc cu::fT tA nt tc ts::fS (some ⟨gsA,0,none⟩) ns sc rs3::(fR rs3++(T)))) (m:=yl.length-0) ⟨0,rs2,yl,hl2,hx2,hR,hy,rfl,rfl,Z.sub kr,I.pt 6 [0,1,2,3,4,5]⟩ ?_
  clear Z I;rintro mS a w_ ⟨c,rs3,yl3,hl3,hx3,hR3,hy3,hyl3,rfl,Z,I⟩
  refine Jb Z I ((JP∘Jp 1∘Jj∘JQ) (Ju (fun hb21=>?_) fun hb21=>?_))
  ·
   intro a Z I
   have hd21:=of_decide_eq_true hb21
   have hc21:c<yl.length:=by omega
   obtain ⟨zz,hzz⟩:∃z,yl3[c]?=some z:=⟨_,List.getElem?_eq_getElem om⟩
   obtain ⟨mm,hmm⟩:∃z,memS (⟨cp,cr,gA,gc,gs,lA,lc,cl,uA,uc,cu,tA,tc,ts,some ⟨gsA,0,none⟩,sc,rs⟩:Stm).sta g c=z:=⟨_,rfl⟩
   have hsp3:=hx3.spots g (by show g<rs3.length;omega)
   replace hsp3:((rs3.getD g Rw.zero).l.length:Int)=cp∧∀z∈(rs3.getD g Rw.zero).l,z.Ok∧_:=hsp3
   rw [hy3] at hsp3
   have hzo:=(hsp3.2 zz (List.mem_of_getElem? hzz)).1
   have hzf:=hzo.floor
   have hso:=(qgs (x:=(⟨cp,cr,gA,gc,gs,lA,lc,cl,uA,uc,cu,tA,tc,ts,some ⟨gsA,0,none⟩,sc,rs3⟩:Stm)) (by show g<rs3.length;omega) (hx3.sh.row g (by show g<rs3.length;omega))).2 c (by show c<(rs3.getD g Rw.zero).l.length;rw [hy3];show c<yl3.length;omega)
   replace hso:spOk _ g ((rs3.getD g Rw.zero).l.getD c Sp.zero)=true:=hso
   rw [hy3,show (⟨some ⟨gy,0,none⟩,yc,yl3⟩:Rw).l.getD c Sp.zero=zz from zy Sp.zero hzz] at hso
   refine Jb Z I ((JT∘JS'∘JQ∘JB∘JP∘Jp 2∘Jd1∘Jr∘Jp 3∘JI (h:=by exact fun I=>qxl 0 I rfl hx3 (by show (c:Int)<cp;omega) om ((qtt hR3 g c).trans hmm))) fun w27 hbw=>(Jp 1∘Jx∘Jx∘JA #[vQ 0,vQ 0,vQ 0]) fun w5 g5=>(JV qcj O0' (h1:=by exact qgv (bestM topM mm))) fun w6_8=>(Jp 1∘Jr∘Jp 1∘Jj) (Ju (fun hb30=>?_) fun hb30=>?_))
   ·
    intro a Z I
    have hne:mm≠[]:=by simpa using hb30
    have hbv:=qxm (x:=(⟨cp,cr,gA,gc,gs,lA,lc,cl,uA,uc,cu,tA,tc,ts,some ⟨gsA,0,none⟩,sc,rs⟩:Stm)) hx.ok (g:=g) (c:=c) (by rw [hmm];exact hne)
    rw [hmm] at hbv
    have hr1:rise1 (⟨cp,cr,gA,gc,gs,lA,lc,cl,uA,uc,cu,tA,tc,ts,some ⟨gsA,0,none⟩,sc,rs⟩:Stm).sta g c zz={zz with floor:=max zz.floor (bestM topM mm).v}:=by unfold rise1;rw [hmm,if_neg (by simpa using hne)]
    refine Jb Z I ((JT∘Vs .n [12]) fun wd8=>(Vp [0,1,2,3]∘Vy 4 (h:=by exact Yl.ix0 gy c 3 rfl rfl rfl)∘Vf 5 2∘Vy 6 (v:=vQ zz.floor) (h:=by exact Yl.qe rfl rfl kr (fun _ h=>h.qb1 7 (j:=2) rfl om hy3 (hzz) rfl))∘Vy 7 (v:= .agg ((bestM topM mm).cells)) (h:=by exact Yl.loadS rfl rfl qcj rfl (fun _ h=>qa (h.blk (i:=0) rfl)))∘VI 8 .n (h:=by exact fun I=>qy1 (bestM topM mm) _)) fun w39 hbw=>(Vy 9 (v:=vQ (if ((bestM topM mm).v:Int)>(zz.floor:Int) then ((bestM topM mm).v:Int) else (zz.floor:Int))) (h:=by exact Yl.max rfl rfl rfl)∘Vo (vQ (max zz.floor (bestM topM mm).v:Nat)) (by rw [Nat.max_def];split<;>split<;>first|rfl|(congr 1;omega))∘Vu 10 (h:=by exact fun _=>Yl.ix0 gy c 3 rfl rfl rfl)∘Vf 11 2) fun a Z I HS=>?_)
    refine s_on Z 12 rfl ?_
    refine qar Z I 6 (c:=c) 2 ({zz with floor:=max zz.floor (bestM topM mm).v}) rfl rfl rfl rfl kr rfl rfl om (hy3) (hzz) rfl de rfl ?_
    clear I;intro w8_12 I
    replace I:Mem W w8_12 (.blk g5 ((bestM topM mm).cells) 151::fM gm cp cr gA ng gc lA nl lc uA nu uc tA nt tc (some ⟨gsA,0,none⟩) ns sc::fG gA ng gc gs::fI lA nl lc cl::fI uA nu uc cu::fT tA nt tc ts::fS (some ⟨gsA,0,none⟩) ns sc (rsPut rs3 g c ({zz with floor:=max zz.floor (bestM topM mm).v}))::(fR (rsPut rs3 g c ({zz with floor:=max zz.floor (bestM topM mm).v}))++(T))):=I
    refine noS kr ?_
    refine qb kr ?_
    refine Jb Z I ((JG∘JR∘JaK 1∘Jp 1∘Jd6∘Jq) fun a Z I=>?_)
    exact ⟨_,om,c+1,(rsPut rs3 g c {zz with floor:=max zz.floor (bestM topM mm).v}),(yl3.set c {zz with floor:=max zz.floor (bestM topM mm).v}),by rw [qt];exact hl3,hx3.put (by show g<rs3.length;omega) {zz with floor:=max zz.floor (bestM topM mm).v} ⟨hzo.v,hzo.r,by show max _ _<_;rw [Nat.max_def];split<;>omega⟩ hso,qqq hR3 (by show g<rs.length;omega) (by show c<(rs.getD g Rw.zero).l.length;omega) (by rw [hy3];exact hzz) hr1,qg9 om hy3,by rw [List.length_set];exact hyl3,rfl,Z.sub kr,I.pt 7 [1,2,3,4,5,6]⟩
   intro a Z I
   have hem:memS (⟨cp,cr,gA,gc,gs,lA,lc,cl,uA,uc,cu,tA,tc,ts,some ⟨gsA,0,none⟩,sc,rs⟩:Stm).sta g c=[]:=by rw [hmm];simpa using hb30
   refine Jb Z I ((JF∘JS'∘JR∘JaK 1∘Jp 1∘Jd1∘Jq) fun a Z I=>?_)
   exact ⟨_,om,c+1,rs3,yl3,hl3,hx3,qqr hR3 hem,hy3,hyl3,rfl,Z.sub kr,I.pt 7 [1,2,3,4,5,6]⟩
  intro a Z I
  have hd21:=of_decide_eq_false hb21
  refine Jb Z I ((JF∘JX∘JG∘JR∘JaK 1∘Jp 1∘Jd1∘Jq) fun a Z I=>?_)
  exact ⟨_,om,g+1,rs3,by omega,hl3,hx3,qtu hR3 (by show (rs.getD g Rw.zero).l.length≤c;omega),rfl,Z.sub kr,I.pt 6 [0,1,2,3,4,5]⟩
 intro a Z I
 have hd14:=of_decide_eq_false hb14
 refine Jb Z I ((JF∘JX) fun a Z I=>?_)
 exact norm0 rfl Z (qy9 (x:=(⟨cp,cr,gA,gc,gs,lA,lc,cl,uA,uc,cu,tA,tc,ts,some ⟨gsA,0,none⟩,sc,rs⟩:Stm)) hl2 hx2.spots (qtv hR (by show rs.length≤g;omega)) I)
end Go.Proofs.YtcajpeiobkcliaaGreatDoor
