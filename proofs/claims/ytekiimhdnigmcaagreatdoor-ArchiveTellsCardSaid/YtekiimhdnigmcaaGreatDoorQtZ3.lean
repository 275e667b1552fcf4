/- Parts. -/
import Derived.Test.YtekiimhdnigmcaaGreatDoorQtCrcP
import Derived.Test.YtekiimhdnigmcaaGreatDoorQtCheck
import Derived.Test.YtekiimhdnigmcaaGreatDoorQtVarint
import Derived.Test.YtekiimhdnigmcaaGreatDoorQtRef06f
import Derived.Test.YtekiimhdnigmcaaGreatDoorQtRWith
import Derived.Test.YtekiimhdnigmcaaGreatDoorQtSep7
import Derived.Test.YtekiimhdnigmcaaGreatDoorQtCodV
import Derived.Test.YtekiimhdnigmcaaGreatDoorQtSep8
import Derived.Test.YtekiimhdnigmcaaGreatDoorQtRef01
import Derived.Test.YtekiimhdnigmcaaGreatDoorQtSep9
import Derived.Test.YtekiimhdnigmcaaGreatDoorQtDoorE
import Derived.Test.YtekiimhdnigmcaaGreatDoorRows
import Derived.Test.YtekiimhdnigmcaaGreatDoorQtZ2
set_option linter.all false
set_option maxRecDepth 100000
set_option maxHeartbeats 1000000
namespace Go.Proofs.YtekiimhdnigmcaaGreatDoor
open Go.RowKit
theorem EB (A:Option Addr) (c:Nat) (l:List Int) (w:World) (hr:Rd w w.heap.size 1 A l.length (l.map bC)) (hn:l.length≤1000000):
    Calls Tryz.prog 189 #[.slice A l.length c] w (zay w l):=by
 refine (bZ Tryz.func189 7) ?_
 refine (JP∘Jp 1∘Jr∘Jp 1∘Jr∘Jp 2) fun a Z E=>?_
 refine fo Z 2 rfl rfl ?_
 replace E:=E.nil 3 1
 refine qz Z E (i:=0) rfl yL rfl rfl rfl (news:=(l.map bC)) (E.old hr) (XV _) om om rfl de ?_
 clear Z E;intro a w6 A6 c6 Z E hc6
 have KC:0+l.length=l.length:=Nat.zero_add _
 replace E:=E.aI (i:=0) (ys:=l.map bC) rfl KC (rfl)
 rw [KC] at hc6
 replace Z:=Z.sp 6 (.slice A6 l.length c6) rfl (by rw [KC])
 exact Jb Z E ((Jp 1∘jq∘Jj∘JZ∘aH) fun E=>by exact ⟨⟨_,_,rfl,E.own (i:=0) rfl,hc6⟩,E.below⟩)
theorem Gx (x:dK) (w:World) (hx:cB w x) (hn:x.gs.length≤1000000):
    Calls Tryz.prog 188 #[.agg #[vI x.aB,vQ (x.ak:Int),.slice x.gA x.gs.length x.gc]] w (zd0 w x):=by
 refine (bZ Tryz.func188 10) ?_
 refine (JP∘JE) fun w1 g1=>(JA #[vI 0,vQ 0,vN]) fun w2 g2=>(Jr∘Jp 1∘Jr∘Jp 1∘Jg 2 O1) fun a Z E=>?_
 refine fo Z 3 rfl rfl ?_
 replace E:=E.nil 198 2
 refine qz Z E (i:=0) rfl oz rfl rfl rfl (news:=(x.gs.flatMap gZ)) (E.old hx.g) (XT _) om om rfl de ?_
 clear Z E;intro a w7 A7 c7 Z E Te
 have KD:0+x.gs.length=x.gs.length:=Nat.zero_add _
 replace E:=E.aI (i:=0) (ys:=x.gs.flatMap gZ) rfl KD (rfl)
 rw [KD] at Te
 replace Z:=Z.sp 7 (.slice A7 x.gs.length c7) rfl (by rw [KD])
 refine Jb Z E ((Jf 2∘JW gH gH) fun aut=>(lH∘Jr∘Jy (v:= .agg #[vI x.aB,vQ x.ak,.slice A7 x.gs.length c7]) (h:=by exact Yl.qf rfl rfl uL rfl (fun _ h=>qb (h.blk (i:=2) rfl)))∘JV uL gQ) fun XK=>(wK∘Jj∘JZ) fun a Z E=>?_)
 exact nN rfl Z (.cellS (i:=1) Z E rfl rfl uL rfl) (⟨⟨_,_,rfl,E.own (i:=0) rfl,Te⟩,E.below⟩)
theorem qoc (x:dK) (w:World) (hx:cB w x) (hf:aX x):
    Calls Tryz.prog 144 #[.agg x.cells] w (zdy w x):=by
 have hfg:=hf.g;have hfl:=hf.l;have hfu:=hf.u;have hft:=hf.t;have hfs:=hf.s
 refine (bZ Tryz.func144 44) ?_
 refine (JP∘JE) fun w1 g1=>(JA #[vI 0,vQ 0,vN,vN,vN,vN,vN]) fun w2 g2=>(Jr∘Jp 1∘Jr∘Jp 1∘Jq) fun a Z E=>?_
 replace E:=E.nil 176 1
 replace E:=E.wL 200 3
 replace E:Mem w _ (.row (vN) 0 [] 176 1:: .blk g2 #[vI 0,vQ 0,vN,vN,vN,vN,vN] 48:: .blk g1 x.cells 48::fq 200 []):=E
 refine Jb Z E ((JG∘JQ∘JP∘Jp 1∘Jj∘JB) fun a Z E=>?_)
 refine qc (fun mS aS wS=>∃(i:Nat) (z:List Rw) (As:Option Addr) (cs:Nat),(i≤x.rs.length)∧(z.length=i)∧(z.map Rw.l=(x.rs.take i).map Rw.l)∧(∀q∈z,q.l.length≤q.c)∧(z.length≤cs)∧mS=x.rs.length-i∧Fr aS 44 [] [(5,vI i),(4,.slice As z.length cs),(3,vN),(2,vP g2 0),(1,vP g1 0)]∧Mem w wS (.row (.slice As z.length cs) z.length (z.map Rw.val) 176 1:: .blk g2 #[vI 0,vQ 0,vN,vN,vN,vN,vN] 48:: .blk g1 x.cells 48::fq 200 z)) (m:=x.rs.length-0) ⟨0,[],none,0,Nat.zero_le _,rfl,rfl,(fun q h=>by cases h),Nat.le_refl _,rfl,Z.sub kr,E.pt 3 [0,1,2]⟩ ?_
 clear Z E;rintro mS a w_ ⟨i,z,As,cs,hi,hzl,hz,hzc,hcs,rfl,Z,E⟩
 refine Jb Z E ((JQ∘JP∘Jp 1∘Jg 6 O2∘Jl∘Jp 1∘bQ∘Jj) (Ju (fun cK=>?_) fun cK=>?_))
 ·
  intro a Z E
  have gI:=of_decide_eq_true cK
  have EC:i<x.rs.length:=by omega
  obtain ⟨y,hy⟩:∃q,x.rs.getD i Rw.zero=q:=⟨_,rfl⟩
  have jG:Rd w w.heap.size 3 y.A y.l.length (y.l.flatMap jy):=by rw [←hy];exact hx.row EC
  have hyl:y.l.length≤1000000:=by rw [←hy];exact hf.r _ (qi Rw.zero EC)
  refine Jb Z E ((JT∘aG∘JQ∘JB∘JP∘Jp 1∘Jj∘JR∘Jp 2∘Jg 6 O2∘Jp 1) fun a Z E=>?_)
  obtain ⟨dU,dV,hq1,_⟩:=Rd.qd hx.s (Nat.lt_of_le_of_lt (Nat.zero_le _) (show i<x.rs.length from by omega)) de
  have aZ:=hx.s;rw [hq1] at aZ
  replace Z:=Z.sp 17 (.slice (some ⟨dU,dV,none⟩) x.rs.length x.sc) rfl (by rw [hq1];try rfl)
  refine Jb Z E ((Jy (h:=by exact Yl.ix dU dV i 1 rfl rfl rfl)∘Jy (v:= .slice ((x.rs.getD i Rw.zero).A) ((x.rs.getD i Rw.zero).l.length) ((x.rs.getD i Rw.zero).c)) (h:=by exact Yl.o1 aZ i Rw.zero EC rfl rfl)∘Jo (.slice y.A y.l.length y.c) (by rw [hy])) fun a Z E=>?_)
  refine fo Z 7 rfl rfl ?_
  replace E:=E.nil 200 3
  refine qz Z E (i:=0) rfl qD rfl rfl rfl (news:=(y.l.flatMap jy)) (E.old jG) (XU _) om om rfl de ?_
  clear Z E;intro a Pw jP c21 Z E hc21
  have pq:0+y.l.length=y.l.length:=Nat.zero_add _
  replace E:=E.aI (i:=0) (ys:=y.l.flatMap jy) rfl pq (rfl)
  rw [pq] at hc21
  replace Z:=Z.sp 21 (.slice jP y.l.length c21) rfl (by rw [pq])
  refine Jb Z E ((JU sW #[.slice jP y.l.length c21]) fun Fg g22=>(JD ([(⟨jP,c21,y.l⟩:Rw)].map Rw.val) 2 (fun _ _=>gH) sW (hr:=by exact fun E=>E.aN (i:=0) (n:=1) (size:=1) rfl rfl) (h1:=by exact q81 _)) fun K6 F5 c23 Bd=>fun a Z E=>?_)
  have oL:z.length+1=(z++[(⟨jP,c21,y.l⟩:Rw)]).length:=q0 rfl
  replace E:=E.aI (i:=2) (ys:=(z++[(⟨jP,c21,y.l⟩:Rw)]).map Rw.val) rfl oL (List.map_append.symm)
  rw [oL] at Bd
  replace Z:=Z.sp 23 (.slice F5 ((z++[(⟨jP,c21,y.l⟩:Rw)]).length) c23) rfl (by rw [oL])
  refine Jb Z E ((Jp 1∘aF∘Jq) fun a Z E=>?_)
  replace E:=E.pt (fs':=(.row (.slice jP y.l.length c21) y.l.length (y.l.flatMap jy) 200 3:: .row (.slice F5 ((z++[(⟨jP,c21,y.l⟩:Rw)]).length) c23) ((z++[(⟨jP,c21,y.l⟩:Rw)]).length) ((z++[(⟨jP,c21,y.l⟩:Rw)]).map Rw.val) 176 1:: .blk g2 #[vI 0,vQ 0,vN,vN,vN,vN,vN] 48:: .blk g1 x.cells 48::fq 200 z)) 5 [1,2,3,4]
  replace E:=Mem.Oe (fs:=[.row (.slice F5 ((z++[(⟨jP,c21,y.l⟩:Rw)]).length) c23) ((z++[(⟨jP,c21,y.l⟩:Rw)]).length) ((z++[(⟨jP,c21,y.l⟩:Rw)]).map Rw.val) 176 1,.blk g2 #[vI 0,vQ 0,vN,vN,vN,vN,vN] 48,.blk g1 x.cells 48]) E
  replace E:Mem w _ (.row (.slice F5 ((z++[(⟨jP,c21,y.l⟩:Rw)]).length) c23) ((z++[(⟨jP,c21,y.l⟩:Rw)]).length) ((z++[(⟨jP,c21,y.l⟩:Rw)]).map Rw.val) 176 1:: .blk g2 #[vI 0,vQ 0,vN,vN,vN,vN,vN] 48:: .blk g1 x.cells 48::fq 200 (z++[(⟨jP,c21,y.l⟩:Rw)])):=E
  refine Jb Z E ((JG∘JR∘Jp 1∘bn 1∘Jp 1∘aT∘Jq) fun a Z E=>?_)
  exact ⟨_,om,i+1,(z++[(⟨jP,c21,y.l⟩:Rw)]),F5,c23,by omega,by rw [List.length_append,hzl];rfl,by rw [List.map_append,hz,q6m EC,hy];rfl,fun q h=>(List.mem_append.1 h).elim (hzc q) (fun h=>by rw [List.mem_singleton] at h;subst h;exact hc21),Bd,rfl,Z.sub kr,E.pt 3 [0,1,2]⟩
 intro a Z E
 have gI:=of_decide_eq_false cK
 have hzt:x.rs.take i=x.rs:=List.take_of_length_le om
 refine Jb Z E ((JF∘JX) fun a Z E=>?_)
 refine wp_seq ?_
 refine Jb Z E ((Vs (.t (.t (.f .n))) [15,21,23]) fun WJ=>fun a Z E HS=>?_)
 refine ze (f:=9) (l:=(bt 24 [15,16,17,18,19,20,21,22,23])) (fun aS wS=>∃(dh:Option Addr) (bN:Nat) (fG:Option Addr) (eY:Nat) (pR:Option Addr) (c32:Nat) (wu:Option Addr) (uO:Nat),Fr aS 44 [] [(36,.slice wu (0+x.ts.length) uO),(38,vP g1 0),(32,.slice pR x.cu.length c32),(29,.slice fG x.cl.length eY),(26,.agg #[vI x.aB,vQ x.ak,.slice dh x.gs.length bN]),(37,.slice As z.length cs),(11,.bool false),(5,vI i),(4,.slice As z.length cs),(2,vP g2 0),(1,vP g1 0)]∧Mem w wS (.row (.slice wu (0+x.ts.length) uO) (0+x.ts.length) ([]++(x.ts.flatMap lW)) 232 8:: .row (.slice pR x.cu.length c32) x.cu.length (x.cu.map bC) 3 1:: .row (.slice fG x.cl.length eY) x.cl.length (x.cl.map bC) 3 1:: .row (.slice dh x.gs.length bN) x.gs.length (x.gs.flatMap gZ) 198 2:: .row (.slice As z.length cs) z.length (z.map Rw.val) 176 1:: .blk g2 #[vI 0,vQ 0,vN,vN,vN,vN,vN] 48:: .blk g1 x.cells 48::fq 200 z)∧(x.gs.length≤bN)∧(x.cl.length≤eY)∧(x.cu.length≤c32)∧(0+x.ts.length≤uO)) ?_ fun ED=>?_
 ·
  clear Z E HS;rintro a wM ⟨dh,bN,fG,eY,pR,c32,wu,uO,Z,E,bD,hc29,hc32,nU⟩
  have HS:=E.pt (fs':=(.row (.slice As z.length cs) z.length (z.map Rw.val) 176 1:: .blk g2 #[vI 0,vQ 0,vN,vN,vN,vN,vN] 48::fq 200 z)) 7 [4,5]
  refine s_on Z 15 rfl (XR Z E 6 (es:= #[vI x.aB,vQ x.ak,.slice dh x.gs.length bN,.slice x.lA x.cl.length x.lc,.slice x.uA x.cu.length x.uc,.slice x.tA x.ts.length x.tc,.slice x.sA x.rs.length x.sc]) rfl rfl rfl rfl rfl uL (Nat.le_of_ble_eq_true rfl) rfl (by simp [Value.oneCell']) rfl ?_)
  clear E;intro ah3 E
  refine lG kr ?_
  refine ap Z (jk kr) [16] (bt 24 [17,18,19,20,21,22,23]) [(39,vP g1 3)] fun a Z=>?_
  refine s_on Z 17 rfl (lS Z E 6 ?_)
  clear E;intro ah4 E
  refine au (E.pt 7 [4,5]) (fun HS=>?_)
  refine ap Z (jk kr) [18] (bt 24 [19,20,21,22,23]) [(40,vP g1 4)] fun a Z=>?_
  refine s_on Z 19 rfl (lS Z E 6 ?_)
  clear E;intro ah5 E
  refine au (E.pt 7 [4,5]) (fun HS=>?_)
  refine ap Z (jk kr) [20] (bt 24 [21,22,23]) [(41,vP g1 5)] fun a Z=>?_
  refine s_on Z 21 rfl (lS Z E 6 ?_)
  clear E;intro ah6 E
  refine lG kr ?_
  refine ap Z (jk kr) [22] (bt 24 [23]) [(42,vP g1 6)] fun a Z=>?_
  refine s_on Z 23 rfl (lS Z E 6 ?_)
  clear E;intro ah7 E
  refine lG kr ?_
  refine qg kr ?_
  rw [Nat.zero_add] at E nU
  refine Jb Z E ((JP∘Jy (v:= .agg #[vI x.aB,vQ x.ak,.slice dh x.gs.length bN,.slice fG x.cl.length eY,.slice pR x.cu.length c32,.slice wu x.ts.length uO,.slice As z.length cs]) (h:=by exact Yl.qf rfl rfl dD rfl (fun _ h=>qb (h.blk (i:=6) rfl)))∘JV dD Hf) fun auw=>(lH∘Jj∘JZ) fun a Z E=>?_)
  exact nN rfl Z (.cellS (i:=5) Z E rfl rfl dD rfl) (⟨⟨x.aB,x.ak,dh,bN,x.gs,fG,eY,x.cl,pR,c32,x.cu,wu,uO,x.ts,As,cs,z⟩,rfl,⟨⟨rfl,rfl,rfl⟩,rfl,rfl,rfl,(by rw [hzt] at hz;exact hz.symm)⟩,⟨bD,hc29,hc32,nU,hcs,hzc⟩,E.pt 7 [3,2,1,0,4]⟩)
 refine ze (f:=12) (l:=(bf 24 [0,1,2,3,4,5,6,7,9,10,11,13])) (fun aS wS=>∃(dh:Option Addr) (bN:Nat) (fG:Option Addr) (eY:Nat),Fr aS 44 [] [(35,.slice x.tA x.ts.length x.tc),(31,.slice x.uA x.cu.length x.uc),(29,.slice fG x.cl.length eY),(26,.agg #[vI x.aB,vQ x.ak,.slice dh x.gs.length bN]),(37,.slice As z.length cs),(33,vN),(11,.bool false),(5,vI i),(4,.slice As z.length cs),(2,vP g2 0),(1,vP g1 0)]∧Mem w wS (.row (.slice fG x.cl.length eY) x.cl.length (x.cl.map bC) 3 1:: .row (.slice dh x.gs.length bN) x.gs.length (x.gs.flatMap gZ) 198 2:: .row (.slice As z.length cs) z.length (z.map Rw.val) 176 1:: .blk g2 #[vI 0,vQ 0,vN,vN,vN,vN,vN] 48:: .blk g1 x.cells 48::fq 200 z)∧(x.gs.length≤bN)∧(x.cl.length≤eY)) ?_ fun Rh=>?_
 ·
  clear Z E HS;rintro a wM ⟨dh,bN,fG,eY,Z,E,bD,hc29⟩
  have HS:=E.pt (fs':=(.row (.slice As z.length cs) z.length (z.map Rw.val) 176 1:: .blk g2 #[vI 0,vQ 0,vN,vN,vN,vN,vN] 48::fq 200 z)) 5 [2,3]
  refine Vb Z E HS ((Vf 14 0∘VK 8 (.f (.f (.t (.t (.f .n))))) (h:=by exact fun E=>EB x.uA x.uc x.cu _ (E.old hx.u) hf.u)) fun pR c32 w32 hc32=>fun a Z E HS=>?_)
  refine s_on Z 12 rfl ?_
  replace E:=E.nil 232 8
  refine qz Z E (i:=0) rfl qC rfl rfl rfl (news:=(x.ts.flatMap lW)) (E.old hx.t) (Og _) om om rfl de ?_
  clear Z E;intro a Ej wu uO Z E nU
  refine au (E.pt 7 [4,5]) (fun HS=>?_)
  exact ED _ _ ⟨dh,bN,fG,eY,pR,c32,wu,uO,Z.sub kr,E.pt 7 [0,1,2,3,4,5,6],bD,hc29,hc32,nU⟩
 refine ze (f:=13) (l:=(bf 24 [0,1,2,3,4,5,6,7,9,10,13])) (fun aS wS=>∃(dh:Option Addr) (bN:Nat) (fG:Option Addr) (eY:Nat),Fr aS 44 [] [(31,.slice x.uA x.cu.length x.uc),(29,.slice fG x.cl.length eY),(26,.agg #[vI x.aB,vQ x.ak,.slice dh x.gs.length bN]),(37,.slice As z.length cs),(34,vP g1 5),(33,vN),(11,.bool false),(5,vI i),(4,.slice As z.length cs),(2,vP g2 0),(1,vP g1 0)]∧Mem w wS (.row (.slice fG x.cl.length eY) x.cl.length (x.cl.map bC) 3 1:: .row (.slice dh x.gs.length bN) x.gs.length (x.gs.flatMap gZ) 198 2:: .row (.slice As z.length cs) z.length (z.map Rw.val) 176 1:: .blk g2 #[vI 0,vQ 0,vN,vN,vN,vN,vN] 48:: .blk g1 x.cells 48::fq 200 z)∧(x.gs.length≤bN)∧(x.cl.length≤eY)) ?_ fun Ri=>?_
 ·
  clear Z E HS;rintro a wM ⟨dh,bN,fG,eY,Z,E,bD,hc29⟩
  have HS:=E.pt (fs':=(.row (.slice As z.length cs) z.length (z.map Rw.val) 176 1:: .blk g2 #[vI 0,vQ 0,vN,vN,vN,vN,vN] 48::fq 200 z)) 5 [2,3]
  refine zc [8,11] kr rfl ?_
  refine all_cons ?_ ?_
  ·refine qq Z (i:=8) rfl rfl ?_
   refine lQ Z E [.slice x.uA x.cu.length x.uc] (EB x.uA x.uc x.cu _ (E.old hx.u) hf.u) fun pR c32 w32 hc32 E a Z=>?_
   refine au (E.pt 6 [3,4]) (fun HS=>?_)
   refine s_on Z 11 rfl ?_
   refine Yl.wp (S:=fun wS=>Mem w wS _) (v:= .slice x.tA x.ts.length x.tc) (Yl.qj rfl rfl kr (fun _ h=>h.cell (i:=5) rfl (rfl))) Z E rfl de fun a Z=>?_
   refine au HS (fun HS=>?_)
   refine Vb Z E HS ((Vf 14 0) fun a Z E HS=>?_)
   refine s_on Z 12 rfl ?_
   replace E:=E.nil 232 8
   refine qz Z E (i:=0) rfl qC rfl rfl rfl (news:=(x.ts.flatMap lW)) (E.old hx.t) (Og _) om om rfl de ?_
   clear Z E;intro a Ej wu uO Z E nU
   refine au (E.pt 7 [4,5]) (fun HS=>?_)
   exact ED _ _ ⟨dh,bN,fG,eY,pR,c32,wu,uO,Z.sub kr,E.pt 7 [0,1,2,3,4,5,6],bD,hc29,hc32,nU⟩
  refine all_cons ?_ all_nil
  refine qq Z (i:=11) rfl rfl ?_
  refine Yl.wp (S:=fun wS=>Mem w wS _) (v:= .slice x.tA x.ts.length x.tc) (Yl.qj rfl rfl kr (fun _ h=>h.cell (i:=4) rfl (rfl))) Z E rfl de fun a Z=>?_
  refine au HS (fun HS=>?_)
  exact Rh _ _ ⟨dh,bN,fG,eY,Z.sub kr,E.pt 5 [0,1,2,3,4],bD,hc29⟩
 refine ze (f:=13) (l:=(bf 24 [0,1,2,3,4,5,6,9,10,11,13])) (fun aS wS=>∃(dh:Option Addr) (bN:Nat) (fG:Option Addr) (eY:Nat),Fr aS 44 [] [(35,.slice x.tA x.ts.length x.tc),(29,.slice fG x.cl.length eY),(26,.agg #[vI x.aB,vQ x.ak,.slice dh x.gs.length bN]),(37,.slice As z.length cs),(33,vN),(30,vP g1 4),(11,.bool false),(5,vI i),(4,.slice As z.length cs),(2,vP g2 0),(1,vP g1 0)]∧Mem w wS (.row (.slice fG x.cl.length eY) x.cl.length (x.cl.map bC) 3 1:: .row (.slice dh x.gs.length bN) x.gs.length (x.gs.flatMap gZ) 198 2:: .row (.slice As z.length cs) z.length (z.map Rw.val) 176 1:: .blk g2 #[vI 0,vQ 0,vN,vN,vN,vN,vN] 48:: .blk g1 x.cells 48::fq 200 z)∧(x.gs.length≤bN)∧(x.cl.length≤eY)) ?_ fun Rj=>?_
 ·
  clear Z E HS;rintro a wM ⟨dh,bN,fG,eY,Z,E,bD,hc29⟩
  have HS:=E.pt (fs':=(.row (.slice As z.length cs) z.length (z.map Rw.val) 176 1:: .blk g2 #[vI 0,vQ 0,vN,vN,vN,vN,vN] 48::fq 200 z)) 5 [2,3]
  refine s_on Z 7 rfl ?_
  refine Yl.wp (S:=fun wS=>Mem w wS _) (v:= .slice x.uA x.cu.length x.uc) (Yl.qj rfl rfl kr (fun _ h=>h.cell (i:=4) rfl (rfl))) Z E rfl de fun a Z=>?_
  refine au HS (fun HS=>?_)
  exact Rh _ _ ⟨dh,bN,fG,eY,Z.sub kr,E.pt 5 [0,1,2,3,4],bD,hc29⟩
 refine ze (f:=13) (l:=(bf 24 [0,1,2,3,4,6,7,9,10,11,13])) (fun aS wS=>∃(dh:Option Addr) (bN:Nat),Fr aS 44 [] [(35,.slice x.tA x.ts.length x.tc),(31,.slice x.uA x.cu.length x.uc),(28,.slice x.lA x.cl.length x.lc),(26,.agg #[vI x.aB,vQ x.ak,.slice dh x.gs.length bN]),(37,.slice As z.length cs),(33,vN),(11,.bool false),(5,vI i),(4,.slice As z.length cs),(2,vP g2 0),(1,vP g1 0)]∧Mem w wS (.row (.slice dh x.gs.length bN) x.gs.length (x.gs.flatMap gZ) 198 2:: .row (.slice As z.length cs) z.length (z.map Rw.val) 176 1:: .blk g2 #[vI 0,vQ 0,vN,vN,vN,vN,vN] 48:: .blk g1 x.cells 48::fq 200 z)∧(x.gs.length≤bN)) ?_ fun KE=>?_
 ·
  clear Z E HS;rintro a wM ⟨dh,bN,Z,E,bD⟩
  have HS:=E.pt (fs':=(.row (.slice As z.length cs) z.length (z.map Rw.val) 176 1:: .blk g2 #[vI 0,vQ 0,vN,vN,vN,vN,vN] 48::fq 200 z)) 4 [1,2]
  refine Vb Z E HS ((Vf 14 0∘VK 5 (.f (.t (.t (.f .n)))) (h:=by exact fun E=>EB x.lA x.lc x.cl _ (E.old hx.l) hf.l)) fun fG eY Dz hc29=>(VK 8 (.f (.f (.t (.t (.f .n))))) (h:=by exact fun E=>EB x.uA x.uc x.cu _ (E.old hx.u) hf.u)) fun pR c32 w32 hc32=>fun a Z E HS=>?_)
  refine s_on Z 12 rfl ?_
  replace E:=E.nil 232 8
  refine qz Z E (i:=0) rfl qC rfl rfl rfl (news:=(x.ts.flatMap lW)) (E.old hx.t) (Og _) om om rfl de ?_
  clear Z E;intro a Ej wu uO Z E nU
  refine au (E.pt 7 [4,5]) (fun HS=>?_)
  exact ED _ _ ⟨dh,bN,fG,eY,pR,c32,wu,uO,Z.sub kr,E.pt 7 [0,1,2,3,4,5,6],bD,hc29,hc32,nU⟩
 refine ze (f:=14) (l:=(bf 24 [0,1,2,3,4,6,7,9,10,13])) (fun aS wS=>∃(dh:Option Addr) (bN:Nat),Fr aS 44 [] [(31,.slice x.uA x.cu.length x.uc),(28,.slice x.lA x.cl.length x.lc),(26,.agg #[vI x.aB,vQ x.ak,.slice dh x.gs.length bN]),(37,.slice As z.length cs),(34,vP g1 5),(33,vN),(11,.bool false),(5,vI i),(4,.slice As z.length cs),(2,vP g2 0),(1,vP g1 0)]∧Mem w wS (.row (.slice dh x.gs.length bN) x.gs.length (x.gs.flatMap gZ) 198 2:: .row (.slice As z.length cs) z.length (z.map Rw.val) 176 1:: .blk g2 #[vI 0,vQ 0,vN,vN,vN,vN,vN] 48:: .blk g1 x.cells 48::fq 200 z)∧(x.gs.length≤bN)) ?_ fun KF=>?_
 ·
  clear Z E HS;rintro a wM ⟨dh,bN,Z,E,bD⟩
  have HS:=E.pt (fs':=(.row (.slice As z.length cs) z.length (z.map Rw.val) 176 1:: .blk g2 #[vI 0,vQ 0,vN,vN,vN,vN,vN] 48::fq 200 z)) 4 [1,2]
  refine zc [5,11] kr rfl ?_
  refine all_cons ?_ ?_
  ·refine qq Z (i:=5) rfl rfl ?_
   refine lQ Z E [.slice x.lA x.cl.length x.lc] (EB x.lA x.lc x.cl _ (E.old hx.l) hf.l) fun fG eY Dz hc29 E a Z=>?_
   refine au (E.pt 5 [2,3]) (fun HS=>?_)
   exact Ri _ _ ⟨dh,bN,fG,eY,Z.sub kr,E.pt 5 [0,1,2,3,4],bD,hc29⟩
  refine all_cons ?_ all_nil
  refine qq Z (i:=11) rfl rfl ?_
  refine Yl.wp (S:=fun wS=>Mem w wS _) (v:= .slice x.tA x.ts.length x.tc) (Yl.qj rfl rfl kr (fun _ h=>h.cell (i:=3) rfl (rfl))) Z E rfl de fun a Z=>?_
  refine au HS (fun HS=>?_)
  exact KE _ _ ⟨dh,bN,Z.sub kr,E.pt 4 [0,1,2,3],bD⟩
 refine ze (f:=14) (l:=(bf 24 [0,1,2,3,4,6,9,10,11,13])) (fun aS wS=>∃(dh:Option Addr) (bN:Nat),Fr aS 44 [] [(35,.slice x.tA x.ts.length x.tc),(28,.slice x.lA x.cl.length x.lc),(26,.agg #[vI x.aB,vQ x.ak,.slice dh x.gs.length bN]),(37,.slice As z.length cs),(33,vN),(30,vP g1 4),(11,.bool false),(5,vI i),(4,.slice As z.length cs),(2,vP g2 0),(1,vP g1 0)]∧Mem w wS (.row (.slice dh x.gs.length bN) x.gs.length (x.gs.flatMap gZ) 198 2:: .row (.slice As z.length cs) z.length (z.map Rw.val) 176 1:: .blk g2 #[vI 0,vQ 0,vN,vN,vN,vN,vN] 48:: .blk g1 x.cells 48::fq 200 z)∧(x.gs.length≤bN)) ?_ fun KG=>?_
 ·
  clear Z E HS;rintro a wM ⟨dh,bN,Z,E,bD⟩
  have HS:=E.pt (fs':=(.row (.slice As z.length cs) z.length (z.map Rw.val) 176 1:: .blk g2 #[vI 0,vQ 0,vN,vN,vN,vN,vN] 48::fq 200 z)) 4 [1,2]
  refine zc [5,7] kr rfl ?_
  refine all_cons ?_ ?_
  ·refine qq Z (i:=5) rfl rfl ?_
   refine lQ Z E [.slice x.lA x.cl.length x.lc] (EB x.lA x.lc x.cl _ (E.old hx.l) hf.l) fun fG eY Dz hc29 E a Z=>?_
   refine au (E.pt 5 [2,3]) (fun HS=>?_)
   exact Rj _ _ ⟨dh,bN,fG,eY,Z.sub kr,E.pt 5 [0,1,2,3,4],bD,hc29⟩
  refine all_cons ?_ all_nil
  refine qq Z (i:=7) rfl rfl ?_
  refine Yl.wp (S:=fun wS=>Mem w wS _) (v:= .slice x.uA x.cu.length x.uc) (Yl.qj rfl rfl kr (fun _ h=>h.cell (i:=3) rfl (rfl))) Z E rfl de fun a Z=>?_
  refine au HS (fun HS=>?_)
  exact KE _ _ ⟨dh,bN,Z.sub kr,E.pt 4 [0,1,2,3],bD⟩
 refine ze (f:=14) (l:=(bf 24 [0,1,2,3,6,7,9,10,11,13])) (fun aS wS=>∃(dh:Option Addr) (bN:Nat),Fr aS 44 [] [(35,.slice x.tA x.ts.length x.tc),(31,.slice x.uA x.cu.length x.uc),(26,.agg #[vI x.aB,vQ x.ak,.slice dh x.gs.length bN]),(37,.slice As z.length cs),(33,vN),(27,vP g1 3),(11,.bool false),(5,vI i),(4,.slice As z.length cs),(2,vP g2 0),(1,vP g1 0)]∧Mem w wS (.row (.slice dh x.gs.length bN) x.gs.length (x.gs.flatMap gZ) 198 2:: .row (.slice As z.length cs) z.length (z.map Rw.val) 176 1:: .blk g2 #[vI 0,vQ 0,vN,vN,vN,vN,vN] 48:: .blk g1 x.cells 48::fq 200 z)∧(x.gs.length≤bN)) ?_ fun KH=>?_
 ·
  clear Z E HS;rintro a wM ⟨dh,bN,Z,E,bD⟩
  have HS:=E.pt (fs':=(.row (.slice As z.length cs) z.length (z.map Rw.val) 176 1:: .blk g2 #[vI 0,vQ 0,vN,vN,vN,vN,vN] 48::fq 200 z)) 4 [1,2]
  refine s_on Z 4 rfl ?_
  refine Yl.wp (S:=fun wS=>Mem w wS _) (v:= .slice x.lA x.cl.length x.lc) (Yl.qj rfl rfl kr (fun _ h=>h.cell (i:=3) rfl (rfl))) Z E rfl de fun a Z=>?_
  refine au HS (fun HS=>?_)
  exact KE _ _ ⟨dh,bN,Z.sub kr,E.pt 4 [0,1,2,3],bD⟩
 refine ze (f:=14) (l:=(bf 24 [0,1,3,4,6,7,9,10,11,13])) (fun aS wS=>Fr aS 44 [] [(35,.slice x.tA x.ts.length x.tc),(31,.slice x.uA x.cu.length x.uc),(28,.slice x.lA x.cl.length x.lc),(25,.agg #[vI x.aB,vQ x.ak,.slice x.gA x.gs.length x.gc]),(37,.slice As z.length cs),(33,vN),(11,.bool false),(5,vI i),(4,.slice As z.length cs),(2,vP g2 0),(1,vP g1 0)]∧Mem w wS (.row (.slice As z.length cs) z.length (z.map Rw.val) 176 1:: .blk g2 #[vI 0,vQ 0,vN,vN,vN,vN,vN] 48:: .blk g1 x.cells 48::fq 200 z)) ?_ fun EF=>?_
 ·
  clear Z E HS;rintro a wM ⟨Z,E⟩
  have HS:=E.pt (fs':=(.row (.slice As z.length cs) z.length (z.map Rw.val) 176 1:: .blk g2 #[vI 0,vQ 0,vN,vN,vN,vN,vN] 48::fq 200 z)) 3 [0,1]
  refine Vb Z E HS ((VK 2 (.t (.t (.f .n))) (h:=by exact fun E=>Gx x _ (hx.old E) hf.g)) fun dh bN vJ bD=>(Vf 14 0∘VK 5 (.f (.t (.t (.f .n)))) (h:=by exact fun E=>EB x.lA x.lc x.cl _ (E.old hx.l) hf.l)) fun fG eY Dz hc29=>(VK 8 (.f (.f (.t (.t (.f .n))))) (h:=by exact fun E=>EB x.uA x.uc x.cu _ (E.old hx.u) hf.u)) fun pR c32 w32 hc32=>fun a Z E HS=>?_)
  refine s_on Z 12 rfl ?_
  replace E:=E.nil 232 8
  refine qz Z E (i:=0) rfl qC rfl rfl rfl (news:=(x.ts.flatMap lW)) (E.old hx.t) (Og _) om om rfl de ?_
  clear Z E;intro a Ej wu uO Z E nU
  refine au (E.pt 7 [4,5]) (fun HS=>?_)
  exact ED _ _ ⟨dh,bN,fG,eY,pR,c32,wu,uO,Z.sub kr,E.pt 7 [0,1,2,3,4,5,6],bD,hc29,hc32,nU⟩
 refine ze (f:=15) (l:=(bf 24 [0,1,2,3,4,6,9,10,13])) (fun aS wS=>∃(dh:Option Addr) (bN:Nat),Fr aS 44 [] [(28,.slice x.lA x.cl.length x.lc),(26,.agg #[vI x.aB,vQ x.ak,.slice dh x.gs.length bN]),(37,.slice As z.length cs),(34,vP g1 5),(33,vN),(30,vP g1 4),(11,.bool false),(5,vI i),(4,.slice As z.length cs),(2,vP g2 0),(1,vP g1 0)]∧Mem w wS (.row (.slice dh x.gs.length bN) x.gs.length (x.gs.flatMap gZ) 198 2:: .row (.slice As z.length cs) z.length (z.map Rw.val) 176 1:: .blk g2 #[vI 0,vQ 0,vN,vN,vN,vN,vN] 48:: .blk g1 x.cells 48::fq 200 z)∧(x.gs.length≤bN)) ?_ fun Rk=>?_
 ·
  clear Z E HS;rintro a wM ⟨dh,bN,Z,E,bD⟩
  have HS:=E.pt (fs':=(.row (.slice As z.length cs) z.length (z.map Rw.val) 176 1:: .blk g2 #[vI 0,vQ 0,vN,vN,vN,vN,vN] 48::fq 200 z)) 4 [1,2]
  refine zc [5,7,11] kr rfl ?_
  refine all_cons ?_ ?_
  ·refine qq Z (i:=5) rfl rfl ?_
   refine lQ Z E [.slice x.lA x.cl.length x.lc] (EB x.lA x.lc x.cl _ (E.old hx.l) hf.l) fun fG eY Dz hc29 E a Z=>?_
   refine au (E.pt 5 [2,3]) (fun HS=>?_)
   refine zc [7,11] kr rfl ?_
   refine all_cons ?_ ?_
   ·refine qq Z (i:=7) rfl rfl ?_
    refine Yl.wp (S:=fun wS=>Mem w wS _) (v:= .slice x.uA x.cu.length x.uc) (Yl.qj rfl rfl kr (fun _ h=>h.cell (i:=4) rfl (rfl))) Z E rfl de fun a Z=>?_
    refine au HS (fun HS=>?_)
    exact Ri _ _ ⟨dh,bN,fG,eY,Z.sub kr,E.pt 5 [0,1,2,3,4],bD,hc29⟩
   refine all_cons ?_ all_nil
   refine qq Z (i:=11) rfl rfl ?_
   refine Yl.wp (S:=fun wS=>Mem w wS _) (v:= .slice x.tA x.ts.length x.tc) (Yl.qj rfl rfl kr (fun _ h=>h.cell (i:=4) rfl (rfl))) Z E rfl de fun a Z=>?_
   refine au HS (fun HS=>?_)
   exact Rj _ _ ⟨dh,bN,fG,eY,Z.sub kr,E.pt 5 [0,1,2,3,4],bD,hc29⟩
  refine all_cons ?_ ?_
  ·refine qq Z (i:=7) rfl rfl ?_
   refine Yl.wp (S:=fun wS=>Mem w wS _) (v:= .slice x.uA x.cu.length x.uc) (Yl.qj rfl rfl kr (fun _ h=>h.cell (i:=3) rfl (rfl))) Z E rfl de fun a Z=>?_
   refine au HS (fun HS=>?_)
   exact KF _ _ ⟨dh,bN,Z.sub kr,E.pt 4 [0,1,2,3],bD⟩
  refine all_cons ?_ all_nil
  refine qq Z (i:=11) rfl rfl ?_
  refine Yl.wp (S:=fun wS=>Mem w wS _) (v:= .slice x.tA x.ts.length x.tc) (Yl.qj rfl rfl kr (fun _ h=>h.cell (i:=3) rfl (rfl))) Z E rfl de fun a Z=>?_
  refine au HS (fun HS=>?_)
  exact KG _ _ ⟨dh,bN,Z.sub kr,E.pt 4 [0,1,2,3],bD⟩
 refine ze (f:=15) (l:=(bf 24 [0,1,2,3,6,7,9,10,13])) (fun aS wS=>∃(dh:Option Addr) (bN:Nat),Fr aS 44 [] [(31,.slice x.uA x.cu.length x.uc),(26,.agg #[vI x.aB,vQ x.ak,.slice dh x.gs.length bN]),(37,.slice As z.length cs),(34,vP g1 5),(33,vN),(27,vP g1 3),(11,.bool false),(5,vI i),(4,.slice As z.length cs),(2,vP g2 0),(1,vP g1 0)]∧Mem w wS (.row (.slice dh x.gs.length bN) x.gs.length (x.gs.flatMap gZ) 198 2:: .row (.slice As z.length cs) z.length (z.map Rw.val) 176 1:: .blk g2 #[vI 0,vQ 0,vN,vN,vN,vN,vN] 48:: .blk g1 x.cells 48::fq 200 z)∧(x.gs.length≤bN)) ?_ fun Gy=>?_
 ·
  clear Z E HS;rintro a wM ⟨dh,bN,Z,E,bD⟩
  have HS:=E.pt (fs':=(.row (.slice As z.length cs) z.length (z.map Rw.val) 176 1:: .blk g2 #[vI 0,vQ 0,vN,vN,vN,vN,vN] 48::fq 200 z)) 4 [1,2]
  refine zc [4,11] kr rfl ?_
  refine all_cons ?_ ?_
  ·refine qq Z (i:=4) rfl rfl ?_
   refine Yl.wp (S:=fun wS=>Mem w wS _) (v:= .slice x.lA x.cl.length x.lc) (Yl.qj rfl rfl kr (fun _ h=>h.cell (i:=3) rfl (rfl))) Z E rfl de fun a Z=>?_
   refine au HS (fun HS=>?_)
   exact KF _ _ ⟨dh,bN,Z.sub kr,E.pt 4 [0,1,2,3],bD⟩
  refine all_cons ?_ all_nil
  refine qq Z (i:=11) rfl rfl ?_
  refine Yl.wp (S:=fun wS=>Mem w wS _) (v:= .slice x.tA x.ts.length x.tc) (Yl.qj rfl rfl kr (fun _ h=>h.cell (i:=3) rfl (rfl))) Z E rfl de fun a Z=>?_
  refine au HS (fun HS=>?_)
  exact KH _ _ ⟨dh,bN,Z.sub kr,E.pt 4 [0,1,2,3],bD⟩
 refine ze (f:=15) (l:=(bf 24 [0,1,2,3,6,9,10,11,13])) (fun aS wS=>∃(dh:Option Addr) (bN:Nat),Fr aS 44 [] [(35,.slice x.tA x.ts.length x.tc),(26,.agg #[vI x.aB,vQ x.ak,.slice dh x.gs.length bN]),(37,.slice As z.length cs),(33,vN),(30,vP g1 4),(27,vP g1 3),(11,.bool false),(5,vI i),(4,.slice As z.length cs),(2,vP g2 0),(1,vP g1 0)]∧Mem w wS (.row (.slice dh x.gs.length bN) x.gs.length (x.gs.flatMap gZ) 198 2:: .row (.slice As z.length cs) z.length (z.map Rw.val) 176 1:: .blk g2 #[vI 0,vQ 0,vN,vN,vN,vN,vN] 48:: .blk g1 x.cells 48::fq 200 z)∧(x.gs.length≤bN)) ?_ fun Gz=>?_
 ·
  clear Z E HS;rintro a wM ⟨dh,bN,Z,E,bD⟩
  have HS:=E.pt (fs':=(.row (.slice As z.length cs) z.length (z.map Rw.val) 176 1:: .blk g2 #[vI 0,vQ 0,vN,vN,vN,vN,vN] 48::fq 200 z)) 4 [1,2]
  refine zc [4,7] kr rfl ?_
  refine all_cons ?_ ?_
  ·refine qq Z (i:=4) rfl rfl ?_
   refine Yl.wp (S:=fun wS=>Mem w wS _) (v:= .slice x.lA x.cl.length x.lc) (Yl.qj rfl rfl kr (fun _ h=>h.cell (i:=3) rfl (rfl))) Z E rfl de fun a Z=>?_
   refine au HS (fun HS=>?_)
   exact KG _ _ ⟨dh,bN,Z.sub kr,E.pt 4 [0,1,2,3],bD⟩
  refine all_cons ?_ all_nil
  refine qq Z (i:=7) rfl rfl ?_
  refine Yl.wp (S:=fun wS=>Mem w wS _) (v:= .slice x.uA x.cu.length x.uc) (Yl.qj rfl rfl kr (fun _ h=>h.cell (i:=3) rfl (rfl))) Z E rfl de fun a Z=>?_
  refine au HS (fun HS=>?_)
  exact KH _ _ ⟨dh,bN,Z.sub kr,E.pt 4 [0,1,2,3],bD⟩
 refine ze (f:=15) (l:=(bf 24 [0,1,3,4,6,7,9,10,13])) (fun aS wS=>Fr aS 44 [] [(31,.slice x.uA x.cu.length x.uc),(28,.slice x.lA x.cl.length x.lc),(25,.agg #[vI x.aB,vQ x.ak,.slice x.gA x.gs.length x.gc]),(37,.slice As z.length cs),(34,vP g1 5),(33,vN),(11,.bool false),(5,vI i),(4,.slice As z.length cs),(2,vP g2 0),(1,vP g1 0)]∧Mem w wS (.row (.slice As z.length cs) z.length (z.map Rw.val) 176 1:: .blk g2 #[vI 0,vQ 0,vN,vN,vN,vN,vN] 48:: .blk g1 x.cells 48::fq 200 z)) ?_ fun Cu=>?_
 ·
  clear Z E HS;rintro a wM ⟨Z,E⟩
  have HS:=E.pt (fs':=(.row (.slice As z.length cs) z.length (z.map Rw.val) 176 1:: .blk g2 #[vI 0,vQ 0,vN,vN,vN,vN,vN] 48::fq 200 z)) 3 [0,1]
  refine zc [2,11] kr rfl ?_
  refine all_cons ?_ ?_
  ·refine qq Z (i:=2) rfl rfl ?_
   refine lQ Z E [.agg #[vI x.aB,vQ x.ak,.slice x.gA x.gs.length x.gc]] (Gx x _ (hx.old E) hf.g) fun dh bN vJ bD E a Z=>?_
   refine au (E.pt 4 [1,2]) (fun HS=>?_)
   exact KF _ _ ⟨dh,bN,Z.sub kr,E.pt 4 [0,1,2,3],bD⟩
  refine all_cons ?_ all_nil
  refine qq Z (i:=11) rfl rfl ?_
  refine Yl.wp (S:=fun wS=>Mem w wS _) (v:= .slice x.tA x.ts.length x.tc) (Yl.qj rfl rfl kr (fun _ h=>h.cell (i:=2) rfl (rfl))) Z E rfl de fun a Z=>?_
  refine au HS (fun HS=>?_)
  exact EF _ _ ⟨Z.sub kr,E.pt 3 [0,1,2]⟩
 refine ze (f:=15) (l:=(bf 24 [0,1,3,4,6,9,10,11,13])) (fun aS wS=>Fr aS 44 [] [(35,.slice x.tA x.ts.length x.tc),(28,.slice x.lA x.cl.length x.lc),(25,.agg #[vI x.aB,vQ x.ak,.slice x.gA x.gs.length x.gc]),(37,.slice As z.length cs),(33,vN),(30,vP g1 4),(11,.bool false),(5,vI i),(4,.slice As z.length cs),(2,vP g2 0),(1,vP g1 0)]∧Mem w wS (.row (.slice As z.length cs) z.length (z.map Rw.val) 176 1:: .blk g2 #[vI 0,vQ 0,vN,vN,vN,vN,vN] 48:: .blk g1 x.cells 48::fq 200 z)) ?_ fun Cv=>?_
 ·
  clear Z E HS;rintro a wM ⟨Z,E⟩
  have HS:=E.pt (fs':=(.row (.slice As z.length cs) z.length (z.map Rw.val) 176 1:: .blk g2 #[vI 0,vQ 0,vN,vN,vN,vN,vN] 48::fq 200 z)) 3 [0,1]
  refine zc [2,7] kr rfl ?_
  refine all_cons ?_ ?_
  ·refine qq Z (i:=2) rfl rfl ?_
   refine lQ Z E [.agg #[vI x.aB,vQ x.ak,.slice x.gA x.gs.length x.gc]] (Gx x _ (hx.old E) hf.g) fun dh bN vJ bD E a Z=>?_
   refine au (E.pt 4 [1,2]) (fun HS=>?_)
   exact KG _ _ ⟨dh,bN,Z.sub kr,E.pt 4 [0,1,2,3],bD⟩
  refine all_cons ?_ all_nil
  refine qq Z (i:=7) rfl rfl ?_
  refine Yl.wp (S:=fun wS=>Mem w wS _) (v:= .slice x.uA x.cu.length x.uc) (Yl.qj rfl rfl kr (fun _ h=>h.cell (i:=2) rfl (rfl))) Z E rfl de fun a Z=>?_
  refine au HS (fun HS=>?_)
  exact EF _ _ ⟨Z.sub kr,E.pt 3 [0,1,2]⟩
 refine ze (f:=15) (l:=(bf 24 [0,1,3,6,7,9,10,11,13])) (fun aS wS=>Fr aS 44 [] [(35,.slice x.tA x.ts.length x.tc),(31,.slice x.uA x.cu.length x.uc),(25,.agg #[vI x.aB,vQ x.ak,.slice x.gA x.gs.length x.gc]),(37,.slice As z.length cs),(33,vN),(27,vP g1 3),(11,.bool false),(5,vI i),(4,.slice As z.length cs),(2,vP g2 0),(1,vP g1 0)]∧Mem w wS (.row (.slice As z.length cs) z.length (z.map Rw.val) 176 1:: .blk g2 #[vI 0,vQ 0,vN,vN,vN,vN,vN] 48:: .blk g1 x.cells 48::fq 200 z)) ?_ fun Cw=>?_
 ·
  clear Z E HS;rintro a wM ⟨Z,E⟩
  have HS:=E.pt (fs':=(.row (.slice As z.length cs) z.length (z.map Rw.val) 176 1:: .blk g2 #[vI 0,vQ 0,vN,vN,vN,vN,vN] 48::fq 200 z)) 3 [0,1]
  refine zc [2,4] kr rfl ?_
  refine all_cons ?_ ?_
  ·refine qq Z (i:=2) rfl rfl ?_
   refine lQ Z E [.agg #[vI x.aB,vQ x.ak,.slice x.gA x.gs.length x.gc]] (Gx x _ (hx.old E) hf.g) fun dh bN vJ bD E a Z=>?_
   refine au (E.pt 4 [1,2]) (fun HS=>?_)
   exact KH _ _ ⟨dh,bN,Z.sub kr,E.pt 4 [0,1,2,3],bD⟩
  refine all_cons ?_ all_nil
  refine qq Z (i:=4) rfl rfl ?_
  refine Yl.wp (S:=fun wS=>Mem w wS _) (v:= .slice x.lA x.cl.length x.lc) (Yl.qj rfl rfl kr (fun _ h=>h.cell (i:=2) rfl (rfl))) Z E rfl de fun a Z=>?_
  refine au HS (fun HS=>?_)
  exact EF _ _ ⟨Z.sub kr,E.pt 3 [0,1,2]⟩
 refine ze (f:=15) (l:=(bf 24 [0,3,4,6,7,9,10,11,13])) (fun aS wS=>Fr aS 44 [] [(35,.slice x.tA x.ts.length x.tc),(31,.slice x.uA x.cu.length x.uc),(28,.slice x.lA x.cl.length x.lc),(37,.slice As z.length cs),(33,vN),(24,vP g1 0),(11,.bool false),(5,vI i),(4,.slice As z.length cs),(2,vP g2 0),(1,vP g1 0)]∧Mem w wS (.row (.slice As z.length cs) z.length (z.map Rw.val) 176 1:: .blk g2 #[vI 0,vQ 0,vN,vN,vN,vN,vN] 48:: .blk g1 x.cells 48::fq 200 z)) ?_ fun Cx=>?_
 ·
  clear Z E HS;rintro a wM ⟨Z,E⟩
  have HS:=E.pt (fs':=(.row (.slice As z.length cs) z.length (z.map Rw.val) 176 1:: .blk g2 #[vI 0,vQ 0,vN,vN,vN,vN,vN] 48::fq 200 z)) 3 [0,1]
  refine s_on Z 1 rfl ?_
  refine Yl.wp (S:=fun wS=>Mem w wS _) (v:= .agg #[vI x.aB,vQ x.ak,.slice x.gA x.gs.length x.gc]) (Yl.qf rfl rfl uL rfl (fun _ h=>h.sub (i:=2) rfl 0 rfl)) Z E rfl de fun a Z=>?_
  refine au HS (fun HS=>?_)
  exact EF _ _ ⟨Z.sub kr,E.pt 3 [0,1,2]⟩
 refine ze (f:=16) (l:=(bf 24 [0,1,3,4,6,9,10,13])) (fun aS wS=>Fr aS 44 [] [(28,.slice x.lA x.cl.length x.lc),(25,.agg #[vI x.aB,vQ x.ak,.slice x.gA x.gs.length x.gc]),(37,.slice As z.length cs),(34,vP g1 5),(33,vN),(30,vP g1 4),(11,.bool false),(5,vI i),(4,.slice As z.length cs),(2,vP g2 0),(1,vP g1 0)]∧Mem w wS (.row (.slice As z.length cs) z.length (z.map Rw.val) 176 1:: .blk g2 #[vI 0,vQ 0,vN,vN,vN,vN,vN] 48:: .blk g1 x.cells 48::fq 200 z)) ?_ fun GA=>?_
 ·
  clear Z E HS;rintro a wM ⟨Z,E⟩
  have HS:=E.pt (fs':=(.row (.slice As z.length cs) z.length (z.map Rw.val) 176 1:: .blk g2 #[vI 0,vQ 0,vN,vN,vN,vN,vN] 48::fq 200 z)) 3 [0,1]
  refine zc [2,7,11] kr rfl ?_
  refine all_cons ?_ ?_
  ·refine qq Z (i:=2) rfl rfl ?_
   refine lQ Z E [.agg #[vI x.aB,vQ x.ak,.slice x.gA x.gs.length x.gc]] (Gx x _ (hx.old E) hf.g) fun dh bN vJ bD E a Z=>?_
   refine au (E.pt 4 [1,2]) (fun HS=>?_)
   exact Rk _ _ ⟨dh,bN,Z.sub kr,E.pt 4 [0,1,2,3],bD⟩
  refine all_cons ?_ ?_
  ·refine qq Z (i:=7) rfl rfl ?_
   refine Yl.wp (S:=fun wS=>Mem w wS _) (v:= .slice x.uA x.cu.length x.uc) (Yl.qj rfl rfl kr (fun _ h=>h.cell (i:=2) rfl (rfl))) Z E rfl de fun a Z=>?_
   refine au HS (fun HS=>?_)
   exact Cu _ _ ⟨Z.sub kr,E.pt 3 [0,1,2]⟩
  refine all_cons ?_ all_nil
  refine qq Z (i:=11) rfl rfl ?_
  refine Yl.wp (S:=fun wS=>Mem w wS _) (v:= .slice x.tA x.ts.length x.tc) (Yl.qj rfl rfl kr (fun _ h=>h.cell (i:=2) rfl (rfl))) Z E rfl de fun a Z=>?_
  refine au HS (fun HS=>?_)
  exact Cv _ _ ⟨Z.sub kr,E.pt 3 [0,1,2]⟩
 refine ze (f:=16) (l:=(bf 24 [0,1,3,6,7,9,10,13])) (fun aS wS=>Fr aS 44 [] [(31,.slice x.uA x.cu.length x.uc),(25,.agg #[vI x.aB,vQ x.ak,.slice x.gA x.gs.length x.gc]),(37,.slice As z.length cs),(34,vP g1 5),(33,vN),(27,vP g1 3),(11,.bool false),(5,vI i),(4,.slice As z.length cs),(2,vP g2 0),(1,vP g1 0)]∧Mem w wS (.row (.slice As z.length cs) z.length (z.map Rw.val) 176 1:: .blk g2 #[vI 0,vQ 0,vN,vN,vN,vN,vN] 48:: .blk g1 x.cells 48::fq 200 z)) ?_ fun GD=>?_
 ·
  clear Z E HS;rintro a wM ⟨Z,E⟩
  have HS:=E.pt (fs':=(.row (.slice As z.length cs) z.length (z.map Rw.val) 176 1:: .blk g2 #[vI 0,vQ 0,vN,vN,vN,vN,vN] 48::fq 200 z)) 3 [0,1]
  refine zc [2,4,11] kr rfl ?_
  refine all_cons ?_ ?_
  ·refine qq Z (i:=2) rfl rfl ?_
   refine lQ Z E [.agg #[vI x.aB,vQ x.ak,.slice x.gA x.gs.length x.gc]] (Gx x _ (hx.old E) hf.g) fun dh bN vJ bD E a Z=>?_
   refine au (E.pt 4 [1,2]) (fun HS=>?_)
   exact Gy _ _ ⟨dh,bN,Z.sub kr,E.pt 4 [0,1,2,3],bD⟩
  refine all_cons ?_ ?_
  ·refine qq Z (i:=4) rfl rfl ?_
   refine Yl.wp (S:=fun wS=>Mem w wS _) (v:= .slice x.lA x.cl.length x.lc) (Yl.qj rfl rfl kr (fun _ h=>h.cell (i:=2) rfl (rfl))) Z E rfl de fun a Z=>?_
   refine au HS (fun HS=>?_)
   exact Cu _ _ ⟨Z.sub kr,E.pt 3 [0,1,2]⟩
  refine all_cons ?_ all_nil
  refine qq Z (i:=11) rfl rfl ?_
  refine Yl.wp (S:=fun wS=>Mem w wS _) (v:= .slice x.tA x.ts.length x.tc) (Yl.qj rfl rfl kr (fun _ h=>h.cell (i:=2) rfl (rfl))) Z E rfl de fun a Z=>?_
  refine au HS (fun HS=>?_)
  exact Cw _ _ ⟨Z.sub kr,E.pt 3 [0,1,2]⟩
 refine ze (f:=16) (l:=(bf 24 [0,1,3,6,9,10,11,13])) (fun aS wS=>Fr aS 44 [] [(35,.slice x.tA x.ts.length x.tc),(25,.agg #[vI x.aB,vQ x.ak,.slice x.gA x.gs.length x.gc]),(37,.slice As z.length cs),(33,vN),(30,vP g1 4),(27,vP g1 3),(11,.bool false),(5,vI i),(4,.slice As z.length cs),(2,vP g2 0),(1,vP g1 0)]∧Mem w wS (.row (.slice As z.length cs) z.length (z.map Rw.val) 176 1:: .blk g2 #[vI 0,vQ 0,vN,vN,vN,vN,vN] 48:: .blk g1 x.cells 48::fq 200 z)) ?_ fun GH=>?_
 ·
  clear Z E HS;rintro a wM ⟨Z,E⟩
  have HS:=E.pt (fs':=(.row (.slice As z.length cs) z.length (z.map Rw.val) 176 1:: .blk g2 #[vI 0,vQ 0,vN,vN,vN,vN,vN] 48::fq 200 z)) 3 [0,1]
  refine zc [2,4,7] kr rfl ?_
  refine all_cons ?_ ?_
  ·refine qq Z (i:=2) rfl rfl ?_
   refine lQ Z E [.agg #[vI x.aB,vQ x.ak,.slice x.gA x.gs.length x.gc]] (Gx x _ (hx.old E) hf.g) fun dh bN vJ bD E a Z=>?_
   refine au (E.pt 4 [1,2]) (fun HS=>?_)
   exact Gz _ _ ⟨dh,bN,Z.sub kr,E.pt 4 [0,1,2,3],bD⟩
  refine all_cons ?_ ?_
  ·refine qq Z (i:=4) rfl rfl ?_
   refine Yl.wp (S:=fun wS=>Mem w wS _) (v:= .slice x.lA x.cl.length x.lc) (Yl.qj rfl rfl kr (fun _ h=>h.cell (i:=2) rfl (rfl))) Z E rfl de fun a Z=>?_
   refine au HS (fun HS=>?_)
   exact Cv _ _ ⟨Z.sub kr,E.pt 3 [0,1,2]⟩
  refine all_cons ?_ all_nil
  refine qq Z (i:=7) rfl rfl ?_
  refine Yl.wp (S:=fun wS=>Mem w wS _) (v:= .slice x.uA x.cu.length x.uc) (Yl.qj rfl rfl kr (fun _ h=>h.cell (i:=2) rfl (rfl))) Z E rfl de fun a Z=>?_
  refine au HS (fun HS=>?_)
  exact Cw _ _ ⟨Z.sub kr,E.pt 3 [0,1,2]⟩
 refine ze (f:=16) (l:=(bf 24 [0,3,4,6,7,9,10,13])) (fun aS wS=>Fr aS 44 [] [(31,.slice x.uA x.cu.length x.uc),(28,.slice x.lA x.cl.length x.lc),(37,.slice As z.length cs),(34,vP g1 5),(33,vN),(24,vP g1 0),(11,.bool false),(5,vI i),(4,.slice As z.length cs),(2,vP g2 0),(1,vP g1 0)]∧Mem w wS (.row (.slice As z.length cs) z.length (z.map Rw.val) 176 1:: .blk g2 #[vI 0,vQ 0,vN,vN,vN,vN,vN] 48:: .blk g1 x.cells 48::fq 200 z)) ?_ fun GI=>?_
 ·
  clear Z E HS;rintro a wM ⟨Z,E⟩
  have HS:=E.pt (fs':=(.row (.slice As z.length cs) z.length (z.map Rw.val) 176 1:: .blk g2 #[vI 0,vQ 0,vN,vN,vN,vN,vN] 48::fq 200 z)) 3 [0,1]
  refine zc [1,11] kr rfl ?_
  refine all_cons ?_ ?_
  ·refine qq Z (i:=1) rfl rfl ?_
   refine Yl.wp (S:=fun wS=>Mem w wS _) (v:= .agg #[vI x.aB,vQ x.ak,.slice x.gA x.gs.length x.gc]) (Yl.qf rfl rfl uL rfl (fun _ h=>h.sub (i:=2) rfl 0 rfl)) Z E rfl de fun a Z=>?_
   refine au HS (fun HS=>?_)
   exact Cu _ _ ⟨Z.sub kr,E.pt 3 [0,1,2]⟩
  refine all_cons ?_ all_nil
  refine qq Z (i:=11) rfl rfl ?_
  refine Yl.wp (S:=fun wS=>Mem w wS _) (v:= .slice x.tA x.ts.length x.tc) (Yl.qj rfl rfl kr (fun _ h=>h.cell (i:=2) rfl (rfl))) Z E rfl de fun a Z=>?_
  refine au HS (fun HS=>?_)
  exact Cx _ _ ⟨Z.sub kr,E.pt 3 [0,1,2]⟩
 refine ze (f:=16) (l:=(bf 24 [0,3,4,6,9,10,11,13])) (fun aS wS=>Fr aS 44 [] [(35,.slice x.tA x.ts.length x.tc),(28,.slice x.lA x.cl.length x.lc),(37,.slice As z.length cs),(33,vN),(30,vP g1 4),(24,vP g1 0),(11,.bool false),(5,vI i),(4,.slice As z.length cs),(2,vP g2 0),(1,vP g1 0)]∧Mem w wS (.row (.slice As z.length cs) z.length (z.map Rw.val) 176 1:: .blk g2 #[vI 0,vQ 0,vN,vN,vN,vN,vN] 48:: .blk g1 x.cells 48::fq 200 z)) ?_ fun GJ=>?_
 ·
  clear Z E HS;rintro a wM ⟨Z,E⟩
  have HS:=E.pt (fs':=(.row (.slice As z.length cs) z.length (z.map Rw.val) 176 1:: .blk g2 #[vI 0,vQ 0,vN,vN,vN,vN,vN] 48::fq 200 z)) 3 [0,1]
  refine zc [1,7] kr rfl ?_
  refine all_cons ?_ ?_
  ·refine qq Z (i:=1) rfl rfl ?_
   refine Yl.wp (S:=fun wS=>Mem w wS _) (v:= .agg #[vI x.aB,vQ x.ak,.slice x.gA x.gs.length x.gc]) (Yl.qf rfl rfl uL rfl (fun _ h=>h.sub (i:=2) rfl 0 rfl)) Z E rfl de fun a Z=>?_
   refine au HS (fun HS=>?_)
   exact Cv _ _ ⟨Z.sub kr,E.pt 3 [0,1,2]⟩
  refine all_cons ?_ all_nil
  refine qq Z (i:=7) rfl rfl ?_
  refine Yl.wp (S:=fun wS=>Mem w wS _) (v:= .slice x.uA x.cu.length x.uc) (Yl.qj rfl rfl kr (fun _ h=>h.cell (i:=2) rfl (rfl))) Z E rfl de fun a Z=>?_
  refine au HS (fun HS=>?_)
  exact Cx _ _ ⟨Z.sub kr,E.pt 3 [0,1,2]⟩
 refine ze (f:=16) (l:=(bf 24 [0,3,6,7,9,10,11,13])) (fun aS wS=>Fr aS 44 [] [(35,.slice x.tA x.ts.length x.tc),(31,.slice x.uA x.cu.length x.uc),(37,.slice As z.length cs),(33,vN),(27,vP g1 3),(24,vP g1 0),(11,.bool false),(5,vI i),(4,.slice As z.length cs),(2,vP g2 0),(1,vP g1 0)]∧Mem w wS (.row (.slice As z.length cs) z.length (z.map Rw.val) 176 1:: .blk g2 #[vI 0,vQ 0,vN,vN,vN,vN,vN] 48:: .blk g1 x.cells 48::fq 200 z)) ?_ fun GK=>?_
 ·
  clear Z E HS;rintro a wM ⟨Z,E⟩
  have HS:=E.pt (fs':=(.row (.slice As z.length cs) z.length (z.map Rw.val) 176 1:: .blk g2 #[vI 0,vQ 0,vN,vN,vN,vN,vN] 48::fq 200 z)) 3 [0,1]
  refine zc [1,4] kr rfl ?_
  refine all_cons ?_ ?_
  ·refine qq Z (i:=1) rfl rfl ?_
   refine Yl.wp (S:=fun wS=>Mem w wS _) (v:= .agg #[vI x.aB,vQ x.ak,.slice x.gA x.gs.length x.gc]) (Yl.qf rfl rfl uL rfl (fun _ h=>h.sub (i:=2) rfl 0 rfl)) Z E rfl de fun a Z=>?_
   refine au HS (fun HS=>?_)
   exact Cw _ _ ⟨Z.sub kr,E.pt 3 [0,1,2]⟩
  refine all_cons ?_ all_nil
  refine qq Z (i:=4) rfl rfl ?_
  refine Yl.wp (S:=fun wS=>Mem w wS _) (v:= .slice x.lA x.cl.length x.lc) (Yl.qj rfl rfl kr (fun _ h=>h.cell (i:=2) rfl (rfl))) Z E rfl de fun a Z=>?_
  refine au HS (fun HS=>?_)
  exact Cx _ _ ⟨Z.sub kr,E.pt 3 [0,1,2]⟩
 refine Vb Z E HS ((Vf 0 0∘Vf 3 3∘Vf 6 4∘Vp [9]∘Vf 10 5∘Vp [13]) fun a Z E HS=>?_)
 refine zc [1,4,7,11] kr rfl ?_
 refine all_cons ?_ ?_
 ·refine qq Z (i:=1) rfl rfl ?_
  refine Yl.wp (S:=fun wS=>Mem w wS _) (v:= .agg #[vI x.aB,vQ x.ak,.slice x.gA x.gs.length x.gc]) (Yl.qf rfl rfl uL rfl (fun _ h=>h.sub (i:=2) rfl 0 rfl)) Z E rfl de fun a Z=>?_
  refine au HS (fun HS=>?_)
  refine zc [2,4,7,11] kr rfl ?_
  refine all_cons ?_ ?_
  ·refine qq Z (i:=2) rfl rfl ?_
   refine lQ Z E [.agg #[vI x.aB,vQ x.ak,.slice x.gA x.gs.length x.gc]] (Gx x _ (hx.old E) hf.g) fun dh bN vJ bD E a Z=>?_
   refine au (E.pt 4 [1,2]) (fun HS=>?_)
   refine zc [4,7,11] kr rfl ?_
   refine all_cons ?_ ?_
   ·refine qq Z (i:=4) rfl rfl ?_
    refine Yl.wp (S:=fun wS=>Mem w wS _) (v:= .slice x.lA x.cl.length x.lc) (Yl.qj rfl rfl kr (fun _ h=>h.cell (i:=3) rfl (rfl))) Z E rfl de fun a Z=>?_
    refine au HS (fun HS=>?_)
    exact Rk _ _ ⟨dh,bN,Z.sub kr,E.pt 4 [0,1,2,3],bD⟩
   refine all_cons ?_ ?_
   ·refine qq Z (i:=7) rfl rfl ?_
    refine Yl.wp (S:=fun wS=>Mem w wS _) (v:= .slice x.uA x.cu.length x.uc) (Yl.qj rfl rfl kr (fun _ h=>h.cell (i:=3) rfl (rfl))) Z E rfl de fun a Z=>?_
    refine au HS (fun HS=>?_)
    exact Gy _ _ ⟨dh,bN,Z.sub kr,E.pt 4 [0,1,2,3],bD⟩
   refine all_cons ?_ all_nil
   refine qq Z (i:=11) rfl rfl ?_
   refine Yl.wp (S:=fun wS=>Mem w wS _) (v:= .slice x.tA x.ts.length x.tc) (Yl.qj rfl rfl kr (fun _ h=>h.cell (i:=3) rfl (rfl))) Z E rfl de fun a Z=>?_
   refine au HS (fun HS=>?_)
   exact Gz _ _ ⟨dh,bN,Z.sub kr,E.pt 4 [0,1,2,3],bD⟩
  refine all_cons ?_ ?_
  ·refine qq Z (i:=4) rfl rfl ?_
   refine Yl.wp (S:=fun wS=>Mem w wS _) (v:= .slice x.lA x.cl.length x.lc) (Yl.qj rfl rfl kr (fun _ h=>h.cell (i:=2) rfl (rfl))) Z E rfl de fun a Z=>?_
   refine au HS (fun HS=>?_)
   exact GA _ _ ⟨Z.sub kr,E.pt 3 [0,1,2]⟩
  refine all_cons ?_ ?_
  ·refine qq Z (i:=7) rfl rfl ?_
   refine Yl.wp (S:=fun wS=>Mem w wS _) (v:= .slice x.uA x.cu.length x.uc) (Yl.qj rfl rfl kr (fun _ h=>h.cell (i:=2) rfl (rfl))) Z E rfl de fun a Z=>?_
   refine au HS (fun HS=>?_)
   exact GD _ _ ⟨Z.sub kr,E.pt 3 [0,1,2]⟩
  refine all_cons ?_ all_nil
  refine qq Z (i:=11) rfl rfl ?_
  refine Yl.wp (S:=fun wS=>Mem w wS _) (v:= .slice x.tA x.ts.length x.tc) (Yl.qj rfl rfl kr (fun _ h=>h.cell (i:=2) rfl (rfl))) Z E rfl de fun a Z=>?_
  refine au HS (fun HS=>?_)
  exact GH _ _ ⟨Z.sub kr,E.pt 3 [0,1,2]⟩
 refine all_cons ?_ ?_
 ·refine qq Z (i:=4) rfl rfl ?_
  refine Yl.wp (S:=fun wS=>Mem w wS _) (v:= .slice x.lA x.cl.length x.lc) (Yl.qj rfl rfl kr (fun _ h=>h.cell (i:=2) rfl (rfl))) Z E rfl de fun a Z=>?_
  refine au HS (fun HS=>?_)
  refine zc [1,7,11] kr rfl ?_
  refine all_cons ?_ ?_
  ·refine qq Z (i:=1) rfl rfl ?_
   refine Yl.wp (S:=fun wS=>Mem w wS _) (v:= .agg #[vI x.aB,vQ x.ak,.slice x.gA x.gs.length x.gc]) (Yl.qf rfl rfl uL rfl (fun _ h=>h.sub (i:=2) rfl 0 rfl)) Z E rfl de fun a Z=>?_
   refine au HS (fun HS=>?_)
   exact GA _ _ ⟨Z.sub kr,E.pt 3 [0,1,2]⟩
  refine all_cons ?_ ?_
  ·refine qq Z (i:=7) rfl rfl ?_
   refine Yl.wp (S:=fun wS=>Mem w wS _) (v:= .slice x.uA x.cu.length x.uc) (Yl.qj rfl rfl kr (fun _ h=>h.cell (i:=2) rfl (rfl))) Z E rfl de fun a Z=>?_
   refine au HS (fun HS=>?_)
   exact GI _ _ ⟨Z.sub kr,E.pt 3 [0,1,2]⟩
  refine all_cons ?_ all_nil
  refine qq Z (i:=11) rfl rfl ?_
  refine Yl.wp (S:=fun wS=>Mem w wS _) (v:= .slice x.tA x.ts.length x.tc) (Yl.qj rfl rfl kr (fun _ h=>h.cell (i:=2) rfl (rfl))) Z E rfl de fun a Z=>?_
  refine au HS (fun HS=>?_)
  exact GJ _ _ ⟨Z.sub kr,E.pt 3 [0,1,2]⟩
 refine all_cons ?_ ?_
 ·refine qq Z (i:=7) rfl rfl ?_
  refine Yl.wp (S:=fun wS=>Mem w wS _) (v:= .slice x.uA x.cu.length x.uc) (Yl.qj rfl rfl kr (fun _ h=>h.cell (i:=2) rfl (rfl))) Z E rfl de fun a Z=>?_
  refine au HS (fun HS=>?_)
  refine zc [1,4,11] kr rfl ?_
  refine all_cons ?_ ?_
  ·refine qq Z (i:=1) rfl rfl ?_
   refine Yl.wp (S:=fun wS=>Mem w wS _) (v:= .agg #[vI x.aB,vQ x.ak,.slice x.gA x.gs.length x.gc]) (Yl.qf rfl rfl uL rfl (fun _ h=>h.sub (i:=2) rfl 0 rfl)) Z E rfl de fun a Z=>?_
   refine au HS (fun HS=>?_)
   exact GD _ _ ⟨Z.sub kr,E.pt 3 [0,1,2]⟩
  refine all_cons ?_ ?_
  ·refine qq Z (i:=4) rfl rfl ?_
   refine Yl.wp (S:=fun wS=>Mem w wS _) (v:= .slice x.lA x.cl.length x.lc) (Yl.qj rfl rfl kr (fun _ h=>h.cell (i:=2) rfl (rfl))) Z E rfl de fun a Z=>?_
   refine au HS (fun HS=>?_)
   exact GI _ _ ⟨Z.sub kr,E.pt 3 [0,1,2]⟩
  refine all_cons ?_ all_nil
  refine qq Z (i:=11) rfl rfl ?_
  refine Yl.wp (S:=fun wS=>Mem w wS _) (v:= .slice x.tA x.ts.length x.tc) (Yl.qj rfl rfl kr (fun _ h=>h.cell (i:=2) rfl (rfl))) Z E rfl de fun a Z=>?_
  refine au HS (fun HS=>?_)
  exact GK _ _ ⟨Z.sub kr,E.pt 3 [0,1,2]⟩
 refine all_cons ?_ all_nil
 refine qq Z (i:=11) rfl rfl ?_
 refine Yl.wp (S:=fun wS=>Mem w wS _) (v:= .slice x.tA x.ts.length x.tc) (Yl.qj rfl rfl kr (fun _ h=>h.cell (i:=2) rfl (rfl))) Z E rfl de fun a Z=>?_
 refine au HS (fun HS=>?_)
 refine zc [1,4,7] kr rfl ?_
 refine all_cons ?_ ?_
 ·refine qq Z (i:=1) rfl rfl ?_
  refine Yl.wp (S:=fun wS=>Mem w wS _) (v:= .agg #[vI x.aB,vQ x.ak,.slice x.gA x.gs.length x.gc]) (Yl.qf rfl rfl uL rfl (fun _ h=>h.sub (i:=2) rfl 0 rfl)) Z E rfl de fun a Z=>?_
  refine au HS (fun HS=>?_)
  exact GH _ _ ⟨Z.sub kr,E.pt 3 [0,1,2]⟩
 refine all_cons ?_ ?_
 ·refine qq Z (i:=4) rfl rfl ?_
  refine Yl.wp (S:=fun wS=>Mem w wS _) (v:= .slice x.lA x.cl.length x.lc) (Yl.qj rfl rfl kr (fun _ h=>h.cell (i:=2) rfl (rfl))) Z E rfl de fun a Z=>?_
  refine au HS (fun HS=>?_)
  exact GJ _ _ ⟨Z.sub kr,E.pt 3 [0,1,2]⟩
 refine all_cons ?_ all_nil
 refine qq Z (i:=7) rfl rfl ?_
 refine Yl.wp (S:=fun wS=>Mem w wS _) (v:= .slice x.uA x.cu.length x.uc) (Yl.qj rfl rfl kr (fun _ h=>h.cell (i:=2) rfl (rfl))) Z E rfl de fun a Z=>?_
 refine au HS (fun HS=>?_)
 exact GK _ _ ⟨Z.sub kr,E.pt 3 [0,1,2]⟩
theorem qs5 {w:World} {base n m c size:Nat} {e:TypeId} {A:Option Addr} {xs:List Value} (h:w.ownsRow base e size (.slice A n c) n xs) (hm:m≤n):w.ownsRow base e size (.slice A m c) m (xs.take (m*size)):=by
 have hms:m*size≤n*size:=Nat.mul_le_mul_right _ hm
 refine ⟨by rw [List.length_take,h.1];omega,?_⟩
 rcases h.2 with ⟨hv,hn⟩|⟨g,cap,cur,hv,hb,hg,h1,h2,h3,h4⟩
 ·injection hv with a1 a2 a3
  subst a1;subst a3;subst hn
  have:m=0:=by omega
  subst this
  exact .inl ⟨rfl,rfl⟩
 ·injection hv with a1 a2 a3
  subst a1;subst a3
  refine .inr ⟨g,c,cur,rfl,hb,hg,by omega,h2,h3,?_⟩
  rw [←h4,List.take_take]
  congr 1
  omega
section
variable {W w:World} {fs:List Fact}
theorem Mem.rW (h:Mem W w fs) {i n m c size:Nat} {e:TypeId} {A:Option Addr} {xs ys:List Value} (hi:fs[i]?=some (.row (.slice A n c) n xs e size)) (hm:m≤n) (hy:xs.take (m*size)=ys):Mem W w (fs.set i (.row (.slice A m c) m ys e size)):=by
 subst hy
 have hb:=h.holds _ (List.mem_of_getElem? hi)
 exact h.turn hi h.below (fun _ _ _=>rfl) (qs5 hb hm) (fun g' hg'=> .inl (by cases A<;>exact hg'))
end
theorem sH:EI Tryz.prog 388 3 (.int .i64 0) 1 8:=⟨by kernel_rfl,by kernel_rfl,rfl,by omega⟩
def xD (w:World) (l:List Nat) (r:Ending) (w':World):Prop:=
 (∃A c,r= .returned (.slice A l.length c)∧w'.ownsRow w.heap.size 3 1 (.slice A l.length c) l.length (l.map bI)∧l.length≤c)∧Below w.heap.size w w'
def BG (w:World) (A:Option Addr) (c:Nat) (a b:List Nat) (r:Ending) (w':World):Prop:=
 (∃vq X c',r= .returned (.tuple #[vq,.slice X (gq (a.length+1) a b).length c'])∧(a.length<b.length→X=A∧c'=c)∧(b.length≤a.length→w'.ownsRow w.heap.size 3 1 (.slice X (gq (a.length+1) a b).length c') (gq (a.length+1) a b).length ((gq (a.length+1) a b).map bI)∧(gq (a.length+1) a b).length≤c'))∧Below w.heap.size w w'
def oP (l:List Nat):Prop:=∀x∈l,x<2
def Tr (l:List Nat):Prop:=0<l.length→l.getD (l.length-1) 0≠0
theorem Zu {l:List Nat} (h:oP l) (k:Nat):l.getD k 0<2:=by
 rw [List.getD_eq_getElem?_getD]
 cases hk:l[k]? with
 |none=>simp
 |some x=>exact h x (List.mem_of_getElem? hk)
theorem Zv {l:List Nat} {k:Nat} (h:0<k) (hk:k≤l.length):l.take k=l.take (k-1)++[l.getD (k-1) 0]:=by
 obtain ⟨j,rfl⟩:∃j,k=j+1:=⟨k-1,by omega⟩
 rw [Nat.add_sub_cancel,List.take_succ_eq_append_getElem om,List.getD_eq_getElem?_getD,List.getElem?_eq_getElem om]
 rfl
theorem qqy {l:List Nat} {k:Nat} (h:0<k) (hk:k≤l.length) (h0:l.getD (k-1) 0=0) (ht:bE (l.take k)=bE l):bE (l.take (k-1))=bE l:=by
 rw [←ht,Zv h hk,h0,V8]
theorem Ux {l:List Nat} {k:Nat} (hk:k≤l.length) (h0:0<k→l.getD (k-1) 0≠0) (ht:bE (l.take k)=bE l):bE l=l.take k:=by
 rw [←ht]
 by_cases h:0<k
 ·rw [Zv h hk,qk5 (h0 h)]
 ·have:k=0:=by omega
  subst this
  rfl
theorem Zw (l:List Nat):bE l<+:l:=by
 have h:=List.dropWhile_suffix (l:=l.reverse) (· ==0)
 have:=List.reverse_prefix.2 h
 rwa [List.reverse_reverse] at this
theorem q3g (l:List Nat):l.take (bE l).length=bE l:=(List.prefix_iff_eq_take.1 (Zw l)).symm
theorem Qn (l:List Nat):(bE l).length≤l.length:=(Zw l).length_le
theorem qgz (l:List Nat):(l.map bI).take ((bE l).length*1)=(bE l).map bI:=by rw [Nat.mul_one,←List.map_take,q3g]
theorem Zx {l:List Nat} (h:oP l):oP (bE l):=fun x hx=>h x ((Zw l).sublist.mem hx)
theorem q9p:∀(n:Nat) (l:List Nat),l.length=n→Tr (bE l)
 |0,l,h=>by
  rw [List.length_eq_zero_iff] at h
  subst h
  intro h;simp [bE] at h
 | n + 1, l, h => by
  have e:=Zv (l:=l) (k:=l.length) om om
  rw [List.take_length] at e
  by_cases h0:l.getD (l.length-1) 0=0
  ·rw [e,h0,V8]
   exact q9p n _ (by rw [List.length_take];omega)
  ·rw [e,qk5 h0,←e]
   intro _
   exact h0
theorem Zy (l:List Nat):Tr (bE l):=q9p _ l rfl
theorem Uy (f:Nat→Nat) (k:Nat):(List.range (k+1)).map f=(List.range k).map f++[f k]:=by rw [List.range_succ,List.map_append];rfl
def BH (p k:Nat):List Nat:=(List.range k).map fun i=>p/2^i%2
theorem qs7 (p k:Nat):BH p (k+1)=BH p k++[p/2^k%2]:=Uy _ _
theorem qmf (p k:Nat):(BH p k).length=k:=by unfold BH;rw [List.length_map,List.length_range]
def gW (a b:List Nat) (s k:Nat):List Nat:=(List.range k).map (jC a b s)
theorem Mc (a b:List Nat) (s k:Nat):gW a b s (k+1)=gW a b s k++[jC a b s k]:=Uy _ _
theorem qqz (a b:List Nat) (s k:Nat):(gW a b s k).length=k:=by unfold gW;rw [List.length_map,List.length_range]
theorem q3i (a b:List Nat) (s:Nat):bE (gW a b s (max a.length (b.length+s)))=jX a b s:=rfl
theorem qvu {l:List Nat} {k:Nat} (h:l.length≤k):l.getD k 0=0:=by rw [List.getD_eq_getElem?_getD,List.getElem?_eq_none h];rfl
theorem q9q {a b:List Nat} {s k:Nat} (h1:s≤k) (h2:k-s<b.length):jC a b s k=(a.getD k 0+b.getD (k-s) 0)%2:=if_pos ⟨h1,h2⟩
theorem zez {a b:List Nat} {s k:Nat} (h1:s≤k) (h2:k-s<b.length) (h3:a.length≤k):jC a b s k=(0+b.getD (k-s) 0)%2:=by rw [q9q h1 h2,qvu h3]
theorem Zz {a b:List Nat} {s k:Nat} (h:¬(s≤k∧k-s<b.length)):jC a b s k=a.getD k 0:=if_neg h
theorem q9r {a b:List Nat} {s k:Nat} (h:¬(s≤k∧k-s<b.length)) (h3:a.length≤k):jC a b s k=0:=by rw [Zz h,qvu h3]
theorem zca {a b:List Nat} (ha:oP a) (s i:Nat):jC a b s i<2:=by
 unfold jC
 split
 ·omega
 ·exact Zu ha i
theorem uh {a b:List Nat} (ha:oP a) (s:Nat):oP (jX a b s):=by
 unfold jX
 apply Zx
 intro x hx
 obtain ⟨i,_,rfl⟩:=List.mem_map.1 hx
 exact zca ha s i
theorem xE (a b:List Nat) (s:Nat):Tr (jX a b s):=Zy _
theorem zcb (a b:List Nat) (s:Nat):(jX a b s).length≤max a.length (b.length+s):=by
 unfold jX
 refine Nat.le_trans (Qn _) ?_
 rw [List.length_map,List.length_range]
 exact Nat.le_refl _
theorem Uz {a b:List Nat} (ha:oP a) (hb:oP b) (Gf:Tr a) (htb:Tr b) (h0:0<b.length) (h:b.length≤a.length):(jX a b (a.length-b.length)).length<a.length:=by
 have e:max a.length (b.length+(a.length-b.length))=(a.length-1)+1:=by omega
 have h1:=Gf om
 have h2:=htb h0
 have h3:=Zu ha (a.length-1)
 have h4:=Zu hb (b.length-1)
 unfold jX
 rw [e,Uy]
 have hz:jC a b (a.length-b.length) (a.length-1)=0:=by
  unfold jC
  rw [if_pos ⟨by omega,by omega⟩,show a.length-1- (a.length-b.length)=b.length-1 by omega]
  omega
 rw [hz,V8]
 refine Nat.lt_of_le_of_lt (Qn _) ?_
 rw [List.length_map,List.length_range]
 omega
theorem qvv {b:List Nat} (hb:oP b) (htb:Tr b) (h0:0<b.length):∀(n:Nat) (a:List Nat),a.length=n→oP a→Tr a→∀f g,a.length<f→a.length<g→gq f a b=gq g a b:=by
 intro n
 induction n using Nat.strongRecOn with
 | _ n ih =>
  intro a hn ha Gf f g hf hg
  obtain ⟨f,rfl⟩:∃j,f=j+1:=⟨f-1,by omega⟩
  obtain ⟨g,rfl⟩:∃j,g=j+1:=⟨g-1,by omega⟩
  rw [gq,gq]
  split
  ·rename_i h
   have hl:=Uz ha hb Gf htb h0 h
   exact ih _ om _ rfl (uh ha _) (xE _ _ _) f g om om
  ·rfl
theorem qvw {a0 a b:List Nat} (hb:oP b) (htb:Tr b) (h0:0<b.length) (ha:oP a) (Gf:Tr a) (h:b.length≤a.length) (he:gq (a.length+1) a b=gq (a0.length+1) a0 b):
  gq ((jX a b (a.length-b.length)).length+1) (jX a b (a.length-b.length)) b=gq (a0.length+1) a0 b:=by
 have hl:=Uz ha hb Gf htb h0 h
 have e:gq (a.length+1) a b=gq a.length (jX a b (a.length-b.length)) b:=by rw [gq,if_pos h]
 rw [←he,e]
 exact qvv hb htb h0 _ _ rfl (uh ha _) (xE _ _ _) _ _ om om
theorem qvx {a b:List Nat} (h:¬b.length≤a.length):gq (a.length+1) a b=a:=by rw [gq,if_neg h]
theorem UA (p:Nat):oP (Na p):=by
 unfold Na
 apply Zx
 intro x hx
 obtain ⟨i,_,rfl⟩:=List.mem_map.1 hx
 omega
theorem UC (p:Nat):oP (bitsOf p):=by
 unfold bitsOf
 apply Zx
 intro x hx
 obtain ⟨i,_,rfl⟩:=List.mem_map.1 hx
 split<;>omega
theorem UD (p:Nat):Tr (Na p):=Zy _
theorem UE (p:Nat):Tr (bitsOf p):=Zy _
theorem JC:rF.length=33:=by decide+kernel
theorem ZA (p:Nat):(bitsOf p).length≤40:=by
 unfold bitsOf
 refine Nat.le_trans (Qn _) ?_
 rw [List.length_map,List.length_range]
 exact Nat.le_refl _
theorem zcc {b:List Nat} (h0:0<b.length) (hb:oP b) (htb:Tr b):∀(n:Nat) (a:List Nat),a.length=n→oP a→Tr a→(gq (a.length+1) a b).length<b.length:=by
 intro n
 induction n using Nat.strongRecOn with
 | _ n ih =>
  intro a hn ha Gf
  by_cases h:b.length≤a.length
  ·have hl:=Uz ha hb Gf htb h0 h
   have hs:=qvw hb htb h0 ha Gf h rfl
   rw [←hs]
   exact ih _ om _ rfl (uh ha _) (xE _ _ _)
  ·rw [qvx h];omega
def iw (y:Nat):List Nat:=gq ((bitsOf y).length+1) (bitsOf y) rF
theorem qv2 (y:Nat):(iw y).length≤32:=by
 have h:=zcc (b:=rF) (by rw [JC];decide) (UA _) (UD _) _ (bitsOf y) rfl (UC _) (UE _)
 rw [JC] at h
 exact Nat.le_of_lt_succ h
theorem q3k (y:Nat):V9 (iw y)=pO y:=by
 unfold pO iw
 have:=ZA y
 rw [qvv (b:=rF) (UA _) (UD _) (by rw [JC];decide) _ (bitsOf y) rfl (UC _) (UE _) ((bitsOf y).length+1) 41 om om]
def kI (r:List Nat) (k:Nat):Nat:=((List.range k).map fun k=>if r.getD k 0=1 then 2^ (31-k) else 0).sum
theorem UF (r:List Nat) (k:Nat):kI r (k+1)=kI r k+if r.getD k 0=1 then 2^ (31-k) else 0:=by
 unfold kI
 rw [Uy,List.sum_append]
 simp
theorem qv3 (r:List Nat):∀k,k≤32→kI r k+2^ (32-k)≤4294967296
 |0,_=>by show 0+2^32≤_;decide
 |k+1,h=>by
  have ih:=qv3 r k om
  rw [UF]
  have e1:(2:Nat)^ (32-k)=2^ (32- (k+1))*2:=by rw [show 32-k=(32- (k+1))+1 by omega,Nat.pow_succ]
  have e2:(2:Nat)^ (31-k)=2^ (32- (k+1)):=by rw [show 31-k=32- (k+1) by omega]
  split<;>omega
theorem qq0 (r:List Nat):kI r r.length=V9 r:=rfl
def uj (y k:Nat):List Nat:=(List.range 40).map fun i=>if 40-k≤i then y/2^ (39-i)%2 else 0
theorem Gg (y k:Nat):(uj y k).length=40:=by unfold uj;rw [List.length_map,List.length_range]
theorem ZB (y k:Nat) {i:Nat} (h:i<40):(uj y k)[i]?=some (if 40-k≤i then y/2^ (39-i)%2 else 0):=by
 unfold uj
 rw [List.getElem?_map,List.getElem?_range h]
 rfl
theorem qs8 (y:Nat):uj y 0=List.replicate 40 0:=by
 apply List.ext_getElem?
 intro i
 by_cases h:i<40
 ·rw [ZB y 0 h,if_neg om,List.getElem?_replicate,if_pos h]
 ·rw [List.getElem?_eq_none (by rw [Gg];omega),List.getElem?_eq_none (by rw [List.length_replicate];omega)]
theorem qs9 {y k:Nat} (hk:k<8):(uj y k).set (39-k) (y/2^k%2)=uj y (k+1):=by
 apply List.ext_getElem?
 intro i
 by_cases h:i<40
 ·rw [List.getElem?_set,ZB y (k+1) h]
  by_cases hi:39-k=i
  ·rw [if_pos hi,if_pos (by rw [Gg];omega),if_pos om,show 39-i=k by omega]
  ·rw [if_neg hi,ZB y k h]
   by_cases h2:40-k≤i
   ·rw [if_pos h2,if_pos om]
   ·rw [if_neg h2,if_neg om]
 ·rw [List.getElem?_eq_none (by rw [List.length_set,Gg];omega),List.getElem?_eq_none (by rw [Gg];omega)]
theorem qmg (y:Nat):bE (uj y 8)=bitsOf y:=rfl
theorem Qo (k:Nat):1*2^ (31-k)≤4294967295:=by
 have:(2:Nat)^ (31-k)≤2^31:=Nat.pow_le_pow_right de om
 omega
theorem zcd (r:List Nat) {k:Nat} (h:k<32):kI r k+1*2^ (31-k)≤4294967295:=by
 have h1:=qv3 r k om
 have e1:(2:Nat)^ (32-k)=2^ (31-k)*2:=by rw [show 32-k=(31-k)+1 by omega,Nat.pow_succ]
 have:0<(2:Nat)^ (31-k):=Nat.pow_pos de
 omega
theorem q3l:iw 0=[]:=by decide+kernel
theorem q7s:∀y,y<256→y≠0→33≤(bitsOf y).length:=by decide+kernel
theorem qv4 (A:Option Addr) (n c:Nat) (l:List Nat) (w:World) (hr:Rd w w.heap.size 1 A n (l.map bI)) (hln:l.length=n) (hn:n≤140737488355328) (hc:n≤c):
    Calls Tryz.prog 300 #[.slice A n c] w (Is w (.slice A (bE l).length c)):=by
 refine (bZ Tryz.func300 21) ?_
 refine (JP∘Jp 1∘Jj∘JQ∘JB) fun a Z E=>?_
 refine qc (fun mS aS wS=>∃(k:Nat),(k≤n)∧(bE (l.take k)=bE l)∧mS=0+k∧Fr aS 21 [] [(2,vN),(0,.slice A k c)]∧Mem w wS []) (m:=0+n) ⟨n,Nat.le_refl _,by rw [List.take_of_length_le om],rfl,Z.sub kr,E.pk []⟩ ?_
 clear Z E;rintro mS a w_ ⟨k,hk,ht,rfl,Z,E⟩
 refine Jb Z E ((JQ∘JP∘Jp 1∘Jl∘Jp 2) (Ju (fun hb6=>?_) fun hb6=>?_))
 ·
  intro a Z E
  have hd6:=of_decide_eq_true hb6
  have hk0:0<k:=by omega
  revert E;revert a;repeat (first|clear Z|clear E)
  intro a Z E
  obtain ⟨gA,oA,rfl,_⟩:=hr.qd (Nat.lt_of_le_of_lt (Nat.zero_le _) (show 0<n from by omega)) de
  refine Jb Z E ((Jp 2∘Jl∘yO 1∘Jy (h:=by exact Yl.ix gA oA (k-1) 1 rfl rfl rfl)∘Jy (h:=by exact Yl.o1 hr (k-1) 0 (by first|omega|(simp;omega)) rfl rfl)∘Jp 2∘aF∘Jj) (Je (fun kV=>?_) fun kV=>?_))
  ·
   refine (JT∘aG∘JB∘JR∘Jp 2∘Jl∘yO 1∘Jy (h:=by exact Yl.zG sH (j:=k-1) rfl rfl rfl om)∘Jp 1∘jq∘Jq) fun a Z E=>?_
   exact ⟨_,om,(k-1),by omega,qqy om om om ht,rfl,Z.sub kr,E.pk []⟩
  exact (JF∘JX∘JG∘JP∘Jp 2∘aQ∘Jj∘JZ∘aH) fun E=>by exact ⟨by rw [Ux (k:=k) om (fun _=>by omega) ht,List.length_take,Nat.min_eq_left om],E.below⟩
 intro a Z E
 have hd6:=of_decide_eq_false hb6
 exact Jb Z E ((Jv 8 [(14,.bool false)]∘eZ∘Jj∘JF∘JX∘JG∘JP∘Jp 2∘aQ∘Jj∘JZ∘aH) fun E=>by exact ⟨by rw [Ux (k:=k) om (fun _=>by omega) ht,List.length_take,Nat.min_eq_left om],E.below⟩)
theorem q3m (p:Nat) (hp:p<18446744073709551616) (w:World):
    Calls Tryz.prog 260 #[vQ p] w (xD w (Na p)):=by
 refine (bZ Tryz.func260 19) ?_
 refine (JP∘Jp 1∘Jr∘Jp 1∘Jq) fun a Z E=>?_
 replace E:=E.nil 3 1
 refine Jb Z E ((JG∘JQ∘JP∘Jp 1∘Jj∘JB) fun a Z E=>?_)
 refine qc (fun mS aS wS=>∃(k:Nat) (Ak:Option Addr) (ck:Nat),(k≤64)∧(k≤ck)∧mS=64-k∧Fr aS 19 [] [(4,vI k),(3,.slice Ak k ck),(2,vN),(0,vQ p)]∧Mem w wS [.row (.slice Ak k ck) k ((BH p k).map bI) 3 1]) (m:=64-0) ⟨0,none,0,by omega,Nat.le_refl _,rfl,Z.sub kr,E.pk [0]⟩ ?_
 clear Z E;rintro mS a w_ ⟨k,Ak,ck,hk,hck,rfl,Z,E⟩
 refine Jb Z E ((JQ∘JP∘Jp 2∘aQ∘Jj) (Ju (fun hb6=>?_) fun hb6=>?_))
 ·
  intro a Z E
  have hd6:=of_decide_eq_true hb6
  refine Jb Z E ((JT∘aG∘JQ∘JB∘JR∘Jp 3∘Jy (v:=vQ (p/2^k:Nat)) (h:=by exact Yl.xZ (m:=p) (n:=k) rfl rfl rfl (by show _≤64;omega))∘Jp 1∘Jo (vQ ((p/2^k)%2:Nat)) (by exact zy .u64 _ 2)∘Jw .i64∘JU sH #[vI ((p/2^k)%2:Nat)]) fun CO g15=>(JD [bI ((p/2^k)%2)] 1 (fun _ _=>gQ) sH (hr:=by exact fun E=>E.aN (i:=0) (n:=1) (size:=1) rfl rfl) (h1:=by simp [Value.oneCell',bI])) fun w16 jg c16 hc16=>(Jp 1∘aF∘Jq) fun a Z E=>?_)
  have oK:k+1=k+1:=rfl
  replace E:=E.aI (i:=1) (ys:=(BH p (k+1)).map bI) rfl oK (by rw [qs7];simp)
  rw [oK] at hc16
  replace Z:=Z.sp 3 (.slice jg (k+1) c16) rfl (by rw [oK])
  refine Jb Z E ((JG∘JR∘Jp 1∘bn 1∘Jp 1∘aT∘Jq) fun a Z E=>?_)
  exact ⟨_,om,k+1,jg,c16,by omega,hc16,rfl,Z.sub kr,E.pk [1]⟩
 intro a Z E
 have hd6:=of_decide_eq_false hb6
 revert E;revert a;repeat (first|clear Z|clear E)
 intro a Z E
 obtain rfl:k=64:=by omega
 refine Jb Z E ((JF∘JX∘JG∘JP∘Jp 1∘JI (h:=by exact fun E=>qv4 _ _ _ (BH p 64) _ (E.rd (i:=0) rfl) (qmf p 64) om om)) fun K5 hbw=>fun a Z E=>?_)
 have Gh:=Qn (BH p 64)
 have Qp:(bE (BH p 64)).length≤64:=by rw [qmf p 64] at Gh;exact Gh
 replace E:=E.rW (i:=0) rfl Qp (qgz (BH p 64))
 exact Jb Z E ((Jp 1∘aT∘Jj∘JZ∘aH) fun E=>by exact ⟨⟨_,_,rfl,E.own (i:=0) rfl,by show (bE (BH p 64)).length≤_;omega⟩,E.below⟩)
theorem qmh (A A2:Option Addr) (c c2:Nat) (p q:List Nat) (s:Nat) (w:World) (h1:oP p) (h2:oP q) (hr:Rd w w.heap.size 1 A p.length (p.map bI)) (hr2:Rd w w.heap.size 1 A2 q.length (q.map bI)) (hp:p.length≤1000000) (hq:q.length+s≤1000000):
    Calls Tryz.prog 299 #[.slice A p.length c,.slice A2 q.length c2,vI s] w (xD w (jX p q s)):=by
 refine (Hg Tryz.func299 58) ?_
 refine (JP∘Jp 1∘Jr∘Jp 1∘Jq) fun a Z E=>?_
 replace E:=E.nil 3 1
 refine Jb Z E ((JG∘JQ∘JP∘Jp 1∘Jj∘JB) fun a Z E=>?_)
 refine qc (fun mS aS wS=>∃(k:Nat) (Ak:Option Addr) (ck:Nat),(k≤(max p.length (q.length+s)))∧(k≤ck)∧mS=(max p.length (q.length+s))-k∧Fr aS 58 [] [(8,vI k),(7,.slice Ak k ck),(6,vN),(0,.slice A p.length c),(1,.slice A2 q.length c2),(2,vI s)]∧Mem w wS [.row (.slice Ak k ck) k ((gW p q s k).map bI) 3 1]) (m:=(max p.length (q.length+s))-0) ⟨0,none,0,Nat.zero_le _,Nat.le_refl _,rfl,Z.sub kr,E.pk [0]⟩ ?_
 clear Z E;rintro mS a w_ ⟨k,Ak,ck,hk,hck,rfl,Z,E⟩
 refine Jb Z E ((JQ∘JP∘Jp 2∘Jl∘Jp 2) (Ji (fun kV=>?_) fun kV=>?_))
 ·
  refine (Jp 7∘aF∘Jj∘JT∘aG∘JQ∘JB∘JP∘Jp 1∘Jj∘JQ∘JP∘Jp 2∘Jl∘Jp 1∘bQ∘Jj) (Ju (fun j5=>?_) fun j5=>?_)
  ·
   intro a Z E
   have hd27:=of_decide_eq_true j5
   refine Jb Z E ((JT∘JR∘Jp 2) ?_)
   repeat (first|clear Z|clear E)
   intro a Z E
   obtain ⟨gA,oA,rfl,_⟩:=hr.qd (Nat.lt_of_le_of_lt (Nat.zero_le _) (show k<p.length from by omega)) de
   refine Jb Z E ((Jy (h:=by exact Yl.ix gA oA k 1 rfl rfl rfl)∘JH (getD_lt h1 (k:=k) (by first|omega|(simp;omega)))) fun hx1=>(Jy (h:=by exact Yl.o1 hr k 0 (by first|omega|(simp;omega)) rfl rfl)∘Jp 1∘eZ∘Jj∘JQ∘JP∘Jp 4) (Ji (fun lV=>?_) fun lV=>?_))
   ·
    refine (Jp 2∘Js∘Jp 1∘Jl∘Jp 2∘aF∘Jj) (Ji (fun uo=>?_) fun uo=>?_)
    ·
     refine (JT∘JR∘Jp 4∘Js) ?_
     repeat (first|clear Z|clear E)
     intro a Z E
     obtain ⟨CW,Iq,rfl,_⟩:=hr2.qd (Nat.lt_of_le_of_lt (Nat.zero_le _) (show k-s<q.length from by omega)) de
     refine Jb Z E ((Jy (h:=by exact Yl.ix CW Iq (k-s) 1 rfl rfl rfl)∘JH (getD_lt h2 (k:=(k-s)) (by first|omega|(simp;omega)))) fun hx2=>(Jy (h:=by exact Yl.o1 hr2 (k-s) 0 (by first|omega|(simp;omega)) rfl rfl)∘Ja∘Jp 1∘Jo (vI (((p.getD k 0)+(q.getD (k-s) 0))%2:Nat)) (by exact zy .i64 _ 2)∘Jp 1∘aF∘Jj∘JR∘Jp 2∘JU sH #[vI (((p.getD k 0)+(q.getD (k-s) 0))%2:Nat)]) fun JN Qq=>(JD [bI (((p.getD k 0)+(q.getD (k-s) 0))%2)] 1 (fun _ _=>gQ) sH (hr:=by exact fun E=>E.aN (i:=0) (n:=1) (size:=1) rfl rfl) (h1:=by simp [Value.oneCell',bI])) fun FI mM mO iF=>(Jp 1∘eZ∘Jq) fun a Z E=>?_)
     have dX:k+1=k+1:=rfl
     replace E:=E.aI (i:=1) (ys:=(gW p q s (k+1)).map bI) rfl dX (by rw [Mc,q9q om om];simp)
     rw [dX] at iF
     replace Z:=Z.sp 7 (.slice mM (k+1) mO) rfl (by rw [dX])
     refine Jb Z E ((JG∘JR∘Jp 1∘bn 1∘Jp 1∘aT∘Jq) fun a Z E=>?_)
     exact ⟨_,om,k+1,mM,mO,by omega,iF,rfl,Z.sub kr,E.pk [1]⟩
    refine (JF∘aG∘JR∘Jp 2∘JU sH #[vI (p.getD k 0)]) fun JN Qq=>(JD [bI (p.getD k 0)] 1 (fun _ _=>gQ) sH (hr:=by exact fun E=>E.aN (i:=0) (n:=1) (size:=1) rfl rfl) (h1:=by simp [Value.oneCell',bI])) fun FI mM mO iF=>(Jp 1∘eZ∘Jq) fun a Z E=>?_
    have dX:k+1=k+1:=rfl
    replace E:=E.aI (i:=1) (ys:=(gW p q s (k+1)).map bI) rfl dX (by rw [Mc,Zz om];simp)
    rw [dX] at iF
    replace Z:=Z.sp 7 (.slice mM (k+1) mO) rfl (by rw [dX])
    refine Jb Z E ((JG∘JR∘Jp 1∘bn 1∘Jp 1∘aT∘Jq) fun a Z E=>?_)
    exact ⟨_,om,k+1,mM,mO,by omega,iF,rfl,Z.sub kr,E.pk [1]⟩
   refine (Jp 7∘aF∘Jj∘JF∘aG∘JR∘Jp 2∘JU sH #[vI (p.getD k 0)]) fun JN Qq=>(JD [bI (p.getD k 0)] 1 (fun _ _=>gQ) sH (hr:=by exact fun E=>E.aN (i:=0) (n:=1) (size:=1) rfl rfl) (h1:=by simp [Value.oneCell',bI])) fun FI mM mO iF=>(Jp 1∘eZ∘Jq) fun a Z E=>?_
   have dX:k+1=k+1:=rfl
   replace E:=E.aI (i:=1) (ys:=(gW p q s (k+1)).map bI) rfl dX (by rw [Mc,Zz om];simp)
   rw [dX] at iF
   replace Z:=Z.sp 7 (.slice mM (k+1) mO) rfl (by rw [dX])
   refine Jb Z E ((JG∘JR∘Jp 1∘bn 1∘Jp 1∘aT∘Jq) fun a Z E=>?_)
   exact ⟨_,om,k+1,mM,mO,by omega,iF,rfl,Z.sub kr,E.pk [1]⟩
  intro a Z E
  have hd27:=of_decide_eq_false j5
  omega
 refine (Jp 2∘Jl∘Jp 1∘Ja∘Jp 2∘aF∘Jj) (Ju (fun fT=>?_) fun fT=>?_)
 ·
  intro a Z E
  have nO:=of_decide_eq_true fT
  refine Jb Z E ((JT∘aG∘JQ∘JB∘JP∘Jp 1∘Jj∘JQ∘JP∘Jp 2∘Jl∘Jp 1∘bQ∘Jj) (Ju (fun j5=>?_) fun j5=>?_))
  ·
   intro a Z E
   have hd27:=of_decide_eq_true j5
   omega
  intro a Z E
  have hd27:=of_decide_eq_false j5
  refine Jb Z E ((JF∘aG∘JQ∘JP∘Jp 4) (Ji (fun lV=>?_) fun lV=>?_))
  ·
   refine (Jp 2∘Js∘Jp 1∘Jl∘Jp 2∘aF∘Jj) (Ji (fun uo=>?_) fun uo=>?_)
   ·
    refine (JT∘JR∘Jp 4∘Js) ?_
    repeat (first|clear Z|clear E)
    intro a Z E
    obtain ⟨CW,Iq,rfl,_⟩:=hr2.qd (Nat.lt_of_le_of_lt (Nat.zero_le _) (show k-s<q.length from by omega)) de
    refine Jb Z E ((Jy (h:=by exact Yl.ix CW Iq (k-s) 1 rfl rfl rfl)∘JH (getD_lt h2 (k:=(k-s)) (by first|omega|(simp;omega)))) fun hx3=>(Jy (h:=by exact Yl.o1 hr2 (k-s) 0 (by first|omega|(simp;omega)) rfl rfl)∘Jp 1∘Jo (vI (0+(q.getD (k-s) 0):Nat)) (by exact wJ om om)∘Jp 1∘Jo (vI ((0+(q.getD (k-s) 0))%2:Nat)) (by exact zy .i64 _ 2)∘Jp 1∘aF∘Jj∘JR∘Jp 2∘JU sH #[vI ((0+(q.getD (k-s) 0))%2:Nat)]) fun JN Qq=>(JD [bI ((0+(q.getD (k-s) 0))%2)] 1 (fun _ _=>gQ) sH (hr:=by exact fun E=>E.aN (i:=0) (n:=1) (size:=1) rfl rfl) (h1:=by simp [Value.oneCell',bI])) fun FI mM mO iF=>(Jp 1∘eZ∘Jq) fun a Z E=>?_)
    have dX:k+1=k+1:=rfl
    replace E:=E.aI (i:=1) (ys:=(gW p q s (k+1)).map bI) rfl dX (by rw [Mc,zez om om om];simp)
    rw [dX] at iF
    replace Z:=Z.sp 7 (.slice mM (k+1) mO) rfl (by rw [dX])
    refine Jb Z E ((JG∘JR∘Jp 1∘bn 1∘Jp 1∘aT∘Jq) fun a Z E=>?_)
    exact ⟨_,om,k+1,mM,mO,by omega,iF,rfl,Z.sub kr,E.pk [1]⟩
   refine (JF∘aG∘JR∘Jp 2∘JU sH #[vI 0]) fun JN Qq=>(JD [bI 0] 1 (fun _ _=>gQ) sH (hr:=by exact fun E=>E.aN (i:=0) (n:=1) (size:=1) rfl rfl) (h1:=by simp [Value.oneCell',bI])) fun FI mM mO iF=>(Jp 1∘eZ∘Jq) fun a Z E=>?_
   have dX:k+1=k+1:=rfl
   replace E:=E.aI (i:=1) (ys:=(gW p q s (k+1)).map bI) rfl dX (by rw [Mc,q9r om om];simp)
   rw [dX] at iF
   replace Z:=Z.sp 7 (.slice mM (k+1) mO) rfl (by rw [dX])
   refine Jb Z E ((JG∘JR∘Jp 1∘bn 1∘Jp 1∘aT∘Jq) fun a Z E=>?_)
   exact ⟨_,om,k+1,mM,mO,by omega,iF,rfl,Z.sub kr,E.pk [1]⟩
  refine (Jp 7∘aF∘Jj∘JF∘aG∘JR∘Jp 2∘JU sH #[vI 0]) fun JN Qq=>(JD [bI 0] 1 (fun _ _=>gQ) sH (hr:=by exact fun E=>E.aN (i:=0) (n:=1) (size:=1) rfl rfl) (h1:=by simp [Value.oneCell',bI])) fun FI mM mO iF=>(Jp 1∘eZ∘Jq) fun a Z E=>?_
  have dX:k+1=k+1:=rfl
  replace E:=E.aI (i:=1) (ys:=(gW p q s (k+1)).map bI) rfl dX (by rw [Mc,q9r om om];simp)
  rw [dX] at iF
  replace Z:=Z.sp 7 (.slice mM (k+1) mO) rfl (by rw [dX])
  refine Jb Z E ((JG∘JR∘Jp 1∘bn 1∘Jp 1∘aT∘Jq) fun a Z E=>?_)
  exact ⟨_,om,k+1,mM,mO,by omega,iF,rfl,Z.sub kr,E.pk [1]⟩
 intro a Z E
 have nO:=of_decide_eq_false fT
 have hkM:k=(max p.length (q.length+s)):=by omega
 refine Jb Z E ((JF∘JX∘JG∘JP∘Jp 1∘JI (h:=by exact fun E=>qv4 _ _ _ (gW p q s k) _ (E.rd (i:=0) rfl) (qqz p q s k) om om)) fun w57 hbw=>fun a Z E=>?_)
 have Gi:=Qn (gW p q s k)
 have Qr:(bE (gW p q s k)).length≤k:=by rw [qqz p q s k] at Gi;exact Gi
 replace E:=E.rW (i:=0) rfl Qr (qgz (gW p q s k))
 exact Jb Z E ((Jp 1∘aT∘Jj∘JZ∘aH) fun E=>by rw [←q3i p q s,←hkM];exact ⟨⟨_,_,rfl,E.own (i:=0) rfl,by omega⟩,E.below⟩)
theorem Qs:oP [1]:=by intro x hx;simp at hx;omega
theorem q7t {w w':World} {A X Xr:Option Addr} {c ca cr:Nat} {p q al xr:List Nat} {vq:Value} (hR:gq (p.length+1) p q=al) (hX:(X=A∧ca=c∧al=p)∨(X=Xr∧ca=cr∧al=xr∧q.length≤p.length))
  (hO:w'.ownsRow w.heap.size 3 1 (.slice Xr xr.length cr) xr.length (xr.map bI)) (hcr:xr.length≤cr) (hless:al.length<q.length) (hb:Below w.heap.size w w'):
  BG w A c p q (.returned (.tuple #[vq,.slice X al.length ca])) w':=by
 unfold BG
 rw [hR]
 refine ⟨⟨vq,X,ca,rfl,?_,?_⟩,hb⟩
 ·intro h
  rcases hX with ⟨h1,h2,_⟩|⟨_,_,_,h4⟩
  ·exact ⟨h1,h2⟩
  ·omega
 ·intro h
  rcases hX with ⟨_,_,h3⟩|⟨rfl,rfl,rfl,_⟩
  ·subst h3;omega
  ·exact ⟨hO,hcr⟩
theorem qmi (A A2:Option Addr) (c c2:Nat) (p q:List Nat) (w:World) (h1:oP p) (h2:oP q) (t1:Tr p) (t2:Tr q) (h0:0<q.length) (hr:Rd w w.heap.size 1 A p.length (p.map bI)) (hr2:Rd w w.heap.size 1 A2 q.length (q.map bI)) (hp:p.length≤100000) (hq:q.length≤100000):
    Calls Tryz.prog 258 #[.slice A p.length c,.slice A2 q.length c2] w (BG w A c p q):=by
 refine (jw Tryz.func258 28) ?_
 refine (JP∘Jp 2∘Jr∘Jp 1∘Jq) fun a Z E=>?_
 replace E:=(E.nil 3 1).nil 3 1
 refine Jb Z E ((JG∘JQ∘JB) fun a Z E=>?_)
 refine qc (fun mS aS wS=>∃(al:List Nat) (X:Option Addr) (ca:Nat) (Xr:Option Addr) (xr:List Nat) (cr:Nat) (ql:List Nat) (Aq:Option Addr) (cq:Nat),(oP al)∧(Tr al)∧(al.length≤p.length)∧(gq (al.length+1) al q=gq (p.length+1) p q)∧((X=A∧ca=c∧al=p)∨(X=Xr∧ca=cr∧al=xr∧q.length≤p.length))∧(oP ql)∧(ql.length≤p.length+1)∧(xr.length≤cr)∧mS=al.length∧Fr aS 28 [] [(6,.slice Aq ql.length cq),(5,vN),(4,vN),(0,.slice X al.length ca),(1,.slice A2 q.length c2)]∧Mem w wS [.row (.slice Aq ql.length cq) ql.length (ql.map bI) 3 1,.row (.slice Xr xr.length cr) xr.length (xr.map bI) 3 1]) (m:=p.length) ⟨p,A,c,none,[],0,[],none,0,h1,t1,Nat.le_refl _,rfl,.inl ⟨rfl,rfl,rfl⟩,(by intro x hx;cases hx),Nat.zero_le _,Nat.le_refl _,rfl,Z.sub kr,E.pk [0,1]⟩ ?_
 clear Z E;rintro mS a w_ ⟨al,X,ca,Xr,xr,cr,ql,Aq,cq,ha1,hat,hal,hdv,hX,hq1,kF,hcr,rfl,Z,E⟩
 refine Jb Z E ((JQ∘JP∘Jp 1∘Jl∘Jp 1∘Jl∘Jp 1∘eZ∘Jj) (Ju (fun dR=>?_) fun dR=>?_))
 ·
  intro a Z E
  have iR:=of_decide_eq_true dR
  have hless:=Uz ha1 h2 hat t2 h0 om
  refine Jb Z E ((JT∘aG∘JB∘JP∘Jp 1∘Jl∘Jp 1∘Jl∘Js∘Jp 1∘jq∘Jr∘Jp 1∘JU sH #[vI 1]) fun FJ g19=>(Jp 1∘JK (h:=by exact fun E=>qmh _ _ _ _ ql [1] (al.length-q.length) _ hq1 Qs (E.rd (i:=1) rfl) (E.aN (i:=0) (n:=1) (size:=1) rfl rfl) om (by simp only [List.length_singleton];omega))) fun jP c21 Pw hc21=>(Jp 1∘eZ∘Jj∘JR∘Jp 3∘JK (h:=by exact fun E=>qmh _ _ _ _ al q (al.length-q.length) _ ha1 h2 (by rcases hX with ⟨rfl,rfl,rfl⟩|⟨rfl,rfl,rfl,_⟩<;>first|exact E.old hr|exact E.rd (i:=3) rfl) (E.old hr2) om om)) fun H9 Ia Le hc25=>(Jp 1∘eZ∘Jq) fun a Z E=>?_)
  exact ⟨_,hless,(jX al q (al.length-q.length)),H9,Ia,H9,(jX al q (al.length-q.length)),Ia,(jX ql [1] (al.length-q.length)),jP,c21,uh ha1 _,xE _ _ _,by omega,qvw h2 t2 h0 ha1 hat om hdv,.inr ⟨rfl,rfl,rfl,by omega⟩,uh hq1 _,by have:=zcb ql [1] (al.length-q.length);simp only [List.length_singleton] at this;omega,hc25,rfl,Z.sub kr,E.pk [1,0]⟩
 intro a Z E
 have iR:=of_decide_eq_false dR
 refine Jb Z E ((JF∘JX∘JG∘JP∘Jp 4∘Jj∘JZ) fun a Z E=>?_)
 have hR:gq (p.length+1) p q=al:=by rw [←hdv,qvx om]
 exact sN rfl Z rfl rfl (q7t hR hX (E.own (i:=1) rfl) hcr om E.below)
structure Qe (w:World) (q:Ev×Nat×Nat) (r:Ending) (w':World):Prop where
 ret:r= .returned (.tuple #[.agg q.1.cells,.int .i64 (q.2.1:Int),.int .i64 (q.2.2:Int)])
 below:Below w.heap.size w w'
def yF (l:List Ev):Nat→Option Ev
 |0=>none
 |k+1=>l[k]?
structure Et (w:World) (q:Int×Nat) (r:Ending) (w':World):Prop where
 ret:r= .returned (.tuple #[.int .i64 q.1,.int .i64 (q.2:Int)])
 below:Below w.heap.size w w'
theorem q9j:EI Tryz.prog 78 242 (.agg Ev.zero.cells) 11 80:=⟨by kernel_rfl,by kernel_rfl,rfl,by omega⟩
def d9 (b:Bs) (e:Ev) (k:Nat):List Nat:=[e.kind]++aj (e.seq-b.seq).toNat++aj (e.time-b.time).toNat++(e.vals.take k).flatMap aj
theorem qmc (b:Bs) (e:Ev):d9 b e 0=[e.kind]++aj (e.seq-b.seq).toNat++aj (e.time-b.time).toNat:=by simp [d9]
theorem qmd {b:Bs} {e:Ev} {k x:Nat} (h:e.vals[k]?=some x):d9 b e (k+1)=d9 b e k++aj x:=by
 unfold d9
 rw [List.take_add_one,h]
 simp
theorem Zg (b:Bs) (e:Ev):d9 b e e.vals.length=zi b e:=by
 unfold d9 zi Df
 rw [List.take_length]
 simp
theorem q21 (b:Bs) (e:Ev) (k:Nat):(d9 b e k).length≤61:=by
 unfold d9
 simp only [List.length_append,List.length_cons,List.length_nil]
 have h1:=qy (e.seq-b.seq).toNat
 have h2:=qy (e.time-b.time).toNat
 have h3:∀l:List Nat,(l.flatMap aj).length≤l.length*10:=by
  intro l
  induction l with
  |nil=>simp
  |cons x r ih=>rw [List.flatMap_cons,List.length_append,List.length_cons];have:=qy x;omega
 have h4:=h3 (e.vals.take k)
 have h5:=Vh e
 rw [List.length_take] at h4
 omega
theorem qxo {l:List Ev} {k:Nat} {e:Ev} (hk:l[k]?=some e):fI (yF l k) k (l.drop k)=if e.check≠0 then ((k:Int),e.check) else if (yF l k).all (fun q=>e.after q)=false then ((k:Int),71) else fI (yF l (k+1)) (k+1) (l.drop (k+1)):=by
 obtain ⟨hl,he⟩:=List.getElem?_eq_some_iff.1 hk
 rw [List.drop_eq_getElem_cons hl,he,show yF l (k+1)=some e from hk]
 rfl
theorem Zh {w w':World} {b:Bs} {l:List Ev} {er:Nat} (h:q8 b l=er) (he:er≠0) (hb:Below w.heap.size w w'):qx w (q8 b l) (zu b l) (.returned (.tuple #[.slice none 0 0,.int .i64 (er:Int)])) w':=by
 have ho:zu b l=[]:=by unfold zu;rw [if_neg om]
 rw [ho,h]
 exact ⟨⟨none,0,rfl,World.ownsRow_nil _ _ _ _,Nat.le_refl _⟩,hb⟩
theorem qqq {b:Bs} {l:List Ev} (h:(eu l).2≠0):q8 b l=(eu l).2:=by unfold q8;rw [if_pos h]
theorem qn3 {b:Bs} {l:List Ev} (h:(eu l).2=0) (hb:¬b.right=true):q8 b l=70:=by unfold q8;rw [if_neg om,if_neg (by simp [hb])]
theorem q22:∀(l:List Ev) (b:Bs) (e:Ev),recs b (l++[e])=recs b l++zi (match l.getLast? with|some q=>q.at|none=>b) e:=by intro x;induction x<;>grind [recs]
def p9 (b:Bs) (l:List Ev) (k:Nat):List Nat:=recs b (l.take k)
theorem q7k:∀(l:List Ev) (b:Bs),(recs b l).length≤61*l.length:=by intro x;induction x<;>grind [Vk,recs]
theorem qs1 (b:Bs) (l:List Ev) (k:Nat):(p9 b l k).length≤61*k:=by grind [q7k,p9]
theorem q23 (b:Bs) (e:Ev):(pI b e).length≤61:=by
 unfold pI
 split
 ·exact Vk b e
 ·simp
structure WriteAt (b:Bs) (l:List Ev) (k:Nat) (bk:Bs):Prop where
 base:bk=GY b l k
 head:0<k→l.head?.all b.behind=true
theorem WriteAt.start (b:Bs) (l:List Ev):WriteAt b l 0 b:=⟨rfl,fun h=>by omega⟩
section
variable {b bk:Bs} {l:List Ev} {k:Nat} {e:Ev}
theorem WriteAt.bad (h:WriteAt b l k bk) (hr:(eu l).2=0) (hb:b.right=true) (hk:l[k]?=some e) (hp:q9 bk e≠0):k=0:=by
 rcases Nat.eq_zero_or_pos k with h0|h0
 ·exact h0
 ·obtain ⟨hl,he⟩:=List.getElem?_eq_some_iff.1 hk
  have:=qtw hr hb (h.head h0) k hl
  rw [he,←h.base] at this
  exact absurd this hp
theorem WriteAt.fail (h:WriteAt b l k bk) (hr:(eu l).2=0) (hb:b.right=true) (hk:l[k]?=some e) (h0:k=0) (hp:q9 bk e≠0):q8 b l=q9 bk e:=by
 subst h0
 have hbk:bk=b:=h.base
 subst hbk
 obtain ⟨g1,_,_⟩:=Vj l none 0 hr
 have hc:=g1 e (List.mem_of_getElem? hk)
 have hbh:¬bk.behind e=true:=by
  intro h1
  unfold q9 at hp
  rw [if_neg (by simp [hc]),if_pos ⟨hb,h1⟩] at hp
  exact hp rfl
 have hh:l.head?=some e:=by rw [List.head?_eq_getElem?];exact hk
 unfold q8 q9
 rw [if_neg om,if_neg (by simp [hh,hbh]),if_neg (by simp [hc]),if_neg (by simp [hbh])]
theorem WriteAt.up (h:WriteAt b l k bk) (hk:l[k]?=some e) (hp:q9 bk e=0):p9 b l (k+1)=p9 b l k++pI bk e:=by
 obtain ⟨hl,he⟩:=List.getElem?_eq_some_iff.1 hk
 unfold p9 pI
 rw [List.take_add_one,hk,if_pos hp,h.base]
 show recs b (l.take k++[e])=_
 rw [q22]
 congr 2
 cases k with
 |zero=>simp [GY]
 |succ j=>
  rw [show (l.take (j+1)).getLast?=l[j]? from by rw [List.getLast?_take];simp [List.getElem?_eq_getElem (show j<l.length by omega)]]
  rfl
theorem WriteAt.next (h:WriteAt b l k bk) (hk:l[k]?=some e) (hp:q9 bk e=0):WriteAt b l (k+1) e.at:=by
 refine ⟨by show e.at=(match l[k]? with|some e=>e.at|none=>b);rw [hk],fun _=>?_⟩
 rcases Nat.eq_zero_or_pos k with h0|h0
 ·subst h0
  have hbk:bk=b:=h.base
  subst hbk
  have hh:l.head?=some e:=by rw [List.head?_eq_getElem?];exact hk
  rw [hh]
  unfold q9 at hp
  split at hp
  ·omega
  ·split at hp
   ·rename_i h1;exact h1.2
   ·omega
 ·exact h.head h0
theorem WriteAt.done {w w':World} {n c:Nat} {A:Option Addr} (h:WriteAt b l n bk) (hr:(eu l).2=0) (hb:b.right=true) (hln:l.length=n) (ho:w'.ownsRow w.heap.size 5 1 (.slice A (p9 b l n).length c) (p9 b l n).length ((p9 b l n).map B8)) (hc:(p9 b l n).length≤c) (hw:Below w.heap.size w w'):
  qx w (q8 b l) (zu b l) (.returned (.tuple #[.slice A (p9 b l n).length c,.int .i64 0])) w':=by
 have hh:l.head?.all b.behind=true:=by
  rcases Nat.eq_zero_or_pos n with h0|h0
  ·subst h0;rw [List.length_eq_zero_iff.1 hln];rfl
  ·exact h.head h0
 have he:q8 b l=0:=by unfold q8;rw [if_neg om,if_pos ⟨hb,hh⟩]
 have hout:zu b l=p9 b l n:=by unfold zu p9;rw [if_pos he,←hln,List.take_length]
 rw [he,hout]
 exact ⟨⟨A,c,rfl,ho,hc⟩,hw⟩
end
structure iG (b:Bs) (cpu:Nat) (m:Nat) (l:List Nat) (es:List Ev) (u:Nat) (bk:Bs):Prop where
 fits:u≤l.length
 most:es.length≤u
 few:es.length≤m
 last:∀q,es.getLast?=some q→bk=q.at
 said:ni cpu m b none l=kg es u (ni cpu (m-es.length) bk es.getLast? (l.drop u))
section
variable {b bk:Bs} {cpu m u L er:Nat} {l:List Nat} {es:List Ev} {e:Ev}
theorem iG.start (b:Bs) (cpu m:Nat) (l:List Nat):iG b cpu m l [] 0 b:=⟨Nat.zero_le _,Nat.le_refl _,Nat.zero_le _,fun q h=>by simp at h,(qyw cpu m b none l).symm⟩
theorem iG.bad (h:iG b cpu m l es u bk) (hm:es.length<m) (hq:dz bk cpu (l.drop u)=(e,L,er)) (he:er≠0):ni cpu m b none l=([],0,er):=by
 rw [h.said,show m-es.length=(m-es.length-1)+1 by omega]
 exact qyv hq he es u
theorem iG.same (h:iG b cpu m l es u bk) (hm:es.length<m) (hq:dz bk cpu (l.drop u)=(e,L,0)) (he:es.getLast?.any (fun q=>decide (e.seq=q.seq))=true):ni cpu m b none l=([],0,71):=by
 rw [h.said,show m-es.length=(m-es.length-1)+1 by omega]
 exact qwk hq he es u
theorem iG.next (h:iG b cpu m l es u bk) (hm:es.length<m) (hq:dz bk cpu (l.drop u)=(e,L,0)) (he:es.getLast?.any (fun q=>decide (e.seq=q.seq))=false):iG b cpu m l (es++[e]) (u+L) e.at:=by
 have h1:=qyu bk cpu (l.drop u)
 rw [hq,List.length_drop] at h1
 simp only at h1
 have h2:=h1.2 trivial
 have h3:=h.fits
 have h4:=h.most
 refine ⟨by omega,by simp;omega,by simp;omega,fun q hq=>?_,?_⟩
 ·simp at hq;rw [hq]
 ·rw [h.said,show m-es.length=(m-es.length-1)+1 by omega,qwl hq he es u,List.drop_drop]
  simp [Nat.sub_sub]
theorem iG.done (h:iG b cpu m l es u bk) (hm:m≤es.length):ni cpu m b none l=(es,u,0):=by
 rw [h.said,show m-es.length=0 by omega]
 simp [ni,kg]
end
theorem qt9 {cpu:Nat}:∀(l:List Ev) (p:Option Ev) (b:Bs),Chain cpu p b l→∀e∈l,e.cpu=cpu
 |[],_,_,_,e,he=>by cases he
 |x::r,p,b,h,e,he=>by
  obtain ⟨h1,h2,h3,h4⟩:=h
  rcases List.mem_cons.1 he with rfl|he
  ·exact h2
  ·exact qt9 r (some x) x.at h4 e he
theorem NK {b:Bk} (h:b.kind=2):b.fits=decide (1≤b.next∧b.next≤281474976710657∧b.cpu=0∧b.lost=0∧b.evs.length=0):=by
 unfold Bk.fits;rw [if_neg om,if_pos h];rfl
theorem Li {b:Bk} (h2:b.kind≠2) (h:b.kind≠1∨63<b.cpu∨b.lost<0∨281474976710656<b.lost∨b.next≠0∨(b.lost=0∧b.evs.length=0)):b.fits=false:=by grind [Bk.fits,Bk.rZ,Ww]
theorem qua {b:Bk} (hok:b.Ok) (h2:b.kind≠2) {k:Nat} (hk:k<b.evs.length) (h:(b.evs.getD k Ev.zero).cpu≠b.cpu):b.fits=false:=by
 rw [Bool.eq_false_iff]
 intro hf
 obtain ⟨h1,hE⟩:=Nk hf h2
 obtain ⟨e,r,g⟩:=Wv hok hE om
 exact h (qt9 _ _ _ g.chain _ (qi Ev.zero hk))
theorem qpf {b:Bk} (h1:b.kind=1) (h2:b.cpu≤63) (h3:0≤b.lost) (h4:b.lost≤281474976710656) (h5:b.next=0) (h6:¬(b.lost=0∧b.evs.length=0)) (hall:∀k,k<b.evs.length→(b.evs.getD k Ev.zero).cpu=b.cpu):
  b.fits=decide ((eu b.evs).2=0):=by grind [Bk.fits,Bk.rZ,qjn,Ww]
def Bk.upto (b:Bk) (n:Nat):Bk:=⟨b.kind,b.cpu,b.lost,b.next,b.evs.take n⟩
theorem BA:SI Tryz.prog 80 5:=⟨by kernel_rfl,by kernel_rfl⟩
theorem qvq {b:Bk} (hk:b.kind=2):aj b.next.toNat=b.body:=by unfold Bk.body;rw [if_pos hk]
theorem qqr {b:Bk} (hk:b.kind≠2) (h:b.evs.length=0): [b.cpu,b.lost.toNat,b.evs.length].flatMap aj=b.body:=by
 unfold Bk.body
 rw [if_neg hk,if_pos h]
 simp
theorem qqs {b:Bk} (hk:b.kind≠2) (h:b.evs.length≠0): [b.cpu,b.lost.toNat,b.evs.length].flatMap aj++[(b.evs.getD 0 Ev.zero).seq.toNat,(b.evs.getD 0 Ev.zero).time.toNat].flatMap aj++recs b.base b.evs=b.body:=by
 unfold Bk.body
 rw [if_neg hk,if_neg h,Nq]
 simp
theorem Gb (b:Bk):((#[Value.int .u8 (((b.body.length+12)%256:Nat):Int),.int .u8 (((b.body.length+12)/256%256:Nat):Int),.int .u8 (((b.body.length+12)/65536%256:Nat):Int),.int .u8 (((b.body.length+12)/16777216%256:Nat):Int),.int .u8 113,.int .u8 116,.int .u8 1,.int .u8 (b.kind:Int)]:Array Value).toList++b.body.map B8)=b.raw.map B8:=by
 unfold Bk.raw uY
 rw [Nat.add_comm 12]
 rfl
theorem Qf {w w':World} {b:Bk} {A:Option Addr} {c:Nat} (h:b.err=0) (ho:w'.ownsRow w.heap.size 5 1 (.slice A (bF b.raw).length c) (bF b.raw).length ((bF b.raw).map B8)) (hc:(bF b.raw).length≤c) (hb:Below w.heap.size w w'):
  qx w b.err b.out (.returned (.tuple #[.slice A (bF b.raw).length c,.int .i64 0])) w':=
 qx.as (er:=0) (R:=bF b.raw) ⟨⟨A,c,rfl,ho,hc⟩,hb⟩ h.symm (q8p h).symm
def zet (w:World) (b:Bk) (r:Ending) (w':World):Prop:=
 (∃A c,r= .returned (.agg (b.cells A c))∧w'.ownsRow w.heap.size 242 11 (.slice A b.evs.length c) b.evs.length (b.evs.flatMap eF)∧b.evs.length≤c)∧Below w.heap.size w w'
def j4 (l:List Nat) (k:Nat):List Nat:=(l.take k).flatMap aj
theorem qqt {l:List Nat} {k:Nat} (h:k<l.length):j4 l (k+1)=j4 l k++aj (l.getD k 0):=by grind [j4,List.getElem?_eq_getElem,List.take_append_getElem]
theorem qvr (l:List Nat) (k:Nat):(j4 l k).length≤10*k:=by grind [q6,j4]
def fD {α:Type} (f:α→α) (l:List α) (k:Nat):List α:=(l.take k).map f++l.drop k
theorem Zi {α:Type} (f:α→α) (l:List α) (k:Nat):(fD f l k).length=l.length:=by
 unfold fD
 rw [List.length_append,List.length_map,List.length_take,List.length_drop]
 omega
theorem qxp {α:Type} (f:α→α) (l:List α):fD f l 0=l:=by simp [fD]
theorem L8 {α:Type} (f:α→α) (l:List α) {k:Nat} (d:α) (h:k<l.length):(fD f l k)[k]?=some (l.getD k d):=by
 unfold fD
 rw [List.getElem?_append_right (by rw [List.length_map,List.length_take];omega),List.length_map,List.length_take,Nat.min_eq_left om,Nat.sub_self,List.getElem?_drop,List.getD_eq_getElem?_getD,Nat.add_zero,List.getElem?_eq_getElem h]
 rfl
theorem qxq {α:Type} (f:α→α) (l:List α) {k:Nat} (d:α) (h:k<l.length):(fD f l k).set k (f (l.getD k d))=fD f l (k+1):=by
 unfold fD
 have hk:(l.take k).length=k:=by rw [List.length_take];omega
 have hd:l.drop k=l.getD k d::l.drop (k+1):=by
  rw [List.getD_eq_getElem?_getD,List.getElem?_eq_getElem h]
  exact List.drop_eq_getElem_cons h
 have ht:l.take (k+1)=l.take k++[l.getD k d]:=by
  rw [List.take_succ_eq_append_getElem h,List.getD_eq_getElem?_getD,List.getElem?_eq_getElem h]
  rfl
 rw [List.set_append,if_neg (by rw [List.length_map];omega),List.length_map,hk,Nat.sub_self,hd,List.set_cons_zero,ht,List.map_append,List.append_assoc]
 rfl
theorem qs2 {l:List Ev} {k:Nat} (h:k<l.length):(l.take (k+1)).flatMap eF=(l.take k).flatMap eF++eF (l.getD k Ev.zero):=by
 rw [List.take_succ_eq_append_getElem h,List.getD_eq_getElem?_getD,List.getElem?_eq_getElem h,List.flatMap_append]
 simp
theorem qin (b:Bk) (A:Option Addr) (c:Nat) (w:World) (hr:Rd w w.heap.size 11 A b.evs.length (b.evs.flatMap eF)) (hn:b.evs.length≤1000000):
    Calls Tryz.prog 79 #[.agg (b.cells A c)] w (zet w b):=by
 refine (bZ Tryz.func79 30) ?_
 refine (JP∘JE) fun w1 g1=>(JA #[vB 0,vB 0,vI 0,vI 0,.slice none 0 0]) fun w2 g2=>(Jr∘Jg 0 O1∘Jg 1 O1∘Jg 2 O1∘Jg 3 O1∘Jy (v:= .agg #[vB b.kind,vB b.cpu,vI b.lost,vI b.next,.slice none 0 0]) (h:=by exact Yl.build (vs:=[(0,vB b.kind),(1,vB b.cpu),(2,vI b.lost),(3,vI b.next)]) rfl kr kr)∘JA #[vB 0,vB 0,vI 0,vI 0,.slice none 0 0]) fun w3 g3=>(JV BA bg) fun Rl=>(jq∘Jq) fun a Z E=>?_
 replace E:=E.nil 242 11
 refine Jb Z E ((JG∘JQ∘JP∘Jg 4 O3∘Jl∘Jp 1∘Jj∘JB) fun a Z E=>?_)
 refine qc (fun mS aS wS=>∃(k:Nat) (Ak:Option Addr) (ck:Nat),(k≤b.evs.length)∧(k≤ck)∧mS=b.evs.length-k∧Fr aS 30 [] [(18,vI k),(17,vI b.evs.length),(16,.slice A b.evs.length c),(3,vP g3 0),(2,vP g2 0),(1,vP g1 0)]∧Mem w wS [.row (.slice Ak k ck) k ((b.evs.take k).flatMap eF) 242 11,.blk g3 #[vB b.kind,vB b.cpu,vI b.lost,vI b.next,.slice Ak k ck] 80,.blk g2 #[vB 0,vB 0,vI 0,vI 0,.slice none 0 0] 80,.blk g1 (b.cells A c) 85]) (m:=b.evs.length-0) ⟨0,none,0,Nat.zero_le _,Nat.le_refl _,rfl,Z.sub kr,E.pk [0,1,2,3]⟩ ?_
 clear Z E;rintro mS a w_ ⟨k,Ak,ck,hk,hck,rfl,Z,E⟩
 refine Jb Z E ((JP∘Jp 1∘Jj∘JQ) (Ju (fun gJ=>?_) fun gJ=>?_))
 ·
  intro a Z E
  have mQ:=of_decide_eq_true gJ
  have Ei:k<b.evs.length:=by omega
  refine Jb Z E ((JT∘aG∘JQ∘JB∘JP) ?_)
  repeat (first|clear Z|clear E)
  intro a Z E
  obtain ⟨gA,oA,rfl,_⟩:=hr.qd (Nat.lt_of_le_of_lt (Nat.zero_le _) (show k<b.evs.length from by omega)) de
  refine Jb Z E ((Jy (h:=by exact Yl.ix gA oA k 11 rfl rfl rfl)∘Jy (v:= .agg ((b.evs.getD k Ev.zero).cells)) (h:=by exact Yl.qf rfl rfl ⟨kr,kr⟩ rfl (fun _ h=>(h.old hr).qm zf ((getD_at Ev.zero (k:=k) (by first|omega|(simp;omega))))))∘JA #[vI 0,vI 0,vB 0,vB 0,vI 0,vI 0,vI 0,vI 0,vI 0,vQ 0,vI 0]) fun w5 g5=>(JV ⟨kr,kr⟩ bg (h1:=by exact MF (b.evs.getD k Ev.zero))) fun PK=>(aT∘Jj∘JR∘Jg 4 O2∘Jy (v:= .agg ((b.evs.getD k Ev.zero).cells)) (h:=by exact Yl.qf rfl rfl ⟨kr,kr⟩ rfl (fun _ h=>qb (h.blk (i:=0) rfl)))∘JU q9j (b.evs.getD k Ev.zero).cells) fun Le g25=>(JD (eF (b.evs.getD k Ev.zero)) 2 (fun _ _=>gH) q9j (hr:=by exact fun E=>E.aN (i:=0) (n:=1) (size:=11) rfl rfl) (h1:=by exact MF _)) fun vJ dh bN bD=>fun a Z E=>?_)
  rw [show ((b.evs.take k).flatMap eF)++(eF (b.evs.getD k Ev.zero))=(b.evs.take (k+1)).flatMap eF from by rw [qs2 om]] at E
  refine Jb Z E ((Jf 4∘JW xR sO) fun QC=>(E9∘Jj∘JR∘bn 1∘Jp 1∘aQ∘Jq) fun a Z E=>?_)
  exact ⟨_,om,k+1,dh,bN,by omega,bD,rfl,Z.sub kr,E.pk [2,3,4,5]⟩
 intro a Z E
 have mQ:=of_decide_eq_false gJ
 have hkn:k=b.evs.length:=by omega
 refine Jb Z E ((JF∘JX∘JG∘JP∘Jy (v:= .agg #[vB b.kind,vB b.cpu,vI b.lost,vI b.next,.slice Ak k ck]) (h:=by exact Yl.qf rfl rfl BA rfl (fun _ h=>qb (h.blk (i:=1) rfl)))∘JV BA gH) fun Jm=>(wK∘Jj∘JZ) fun a Z E=>?_)
 exact nN rfl Z (.cellS (i:=2) Z E rfl rfl BA rfl) (⟨⟨Ak,ck,by rw [hkn];rfl,by have h:=E.own (i:=0) rfl;rw [hkn,List.take_length] at h;exact h,by omega⟩,E.below⟩)
theorem Zt (x:Nat) (w:World) (hx:x<18446744073709551616):Calls Tryz.prog 92 #[vQ x] w (zz w (aj x)):=
 (Uu x w hx).mono fun e w' ⟨v, h1, h2, h3⟩ => by
  obtain ⟨A,c,rfl,hc⟩:=EY h2
  exact ⟨⟨A,c,h1,h2,hc⟩,h3⟩
theorem Uv (A:Option Addr) (n c:Nat) (l:List Nat) (w:World) (hr:Rd w w.heap.size 1 A n (l.map aR)) (hln:l.length=n) (hl:∀x∈l,x<18446744073709551616) (hn:n≤1000000):
    Calls Tryz.prog 95 #[.slice A n c] w (zz w (l.flatMap aj)):=by
 refine (bZ Tryz.func95 19) ?_
 refine (JP∘Jp 1∘Jr∘Jp 1∘Jq) fun a Z E=>?_
 replace E:=E.nil 5 1
 refine Jb Z E ((JG∘JQ∘JP∘Jp 1∘Jj∘JB) fun a Z E=>?_)
 refine qc (fun mS aS wS=>∃(k:Nat) (Ak:Option Addr) (ck:Nat),(k≤n)∧((j4 l k).length≤ck)∧mS=n-k∧Fr aS 19 [] [(4,vI k),(3,.slice Ak ((j4 l k).length) ck),(2,vN),(0,.slice A n c)]∧Mem w wS [.row (.slice Ak ((j4 l k).length) ck) ((j4 l k).length) ((j4 l k).map B8) 5 1]) (m:=n-0) ⟨0,none,0,Nat.zero_le _,Nat.le_refl _,rfl,Z.sub kr,E.pk [0]⟩ ?_
 clear Z E;rintro mS a w_ ⟨k,Ak,ck,hk,hck,rfl,Z,E⟩
 refine Jb Z E ((JQ∘JP∘Jp 2∘Jl∘Jp 1∘bQ∘Jj) (Ju (fun kP=>?_) fun kP=>?_))
 ·
  intro a Z E
  have pQ:=of_decide_eq_true kP
  have hk8:k<n:=by omega
  refine Jb Z E ((JT∘aG∘JQ∘JB∘JR∘Jp 3) ?_)
  repeat (first|clear Z|clear E)
  intro a Z E
  obtain ⟨gA,oA,rfl,_⟩:=hr.qd (Nat.lt_of_le_of_lt (Nat.zero_le _) (show k<n from by omega)) de
  refine Jb Z E ((Jy (h:=by exact Yl.ix gA oA k 1 rfl rfl rfl)∘JH (getD_lt hl (k:=k) (by first|omega|(simp;omega)))) fun hx1=>(Jy (h:=by exact Yl.o1 hr k 0 (by first|omega|(simp;omega)) rfl rfl)∘JK (h:=by exact fun E=>Zt (l.getD k 0) _ (hl _ (qi 0 om)))) fun jg c16 w16 hc16=>(JD ((aj (l.getD k 0)).map B8) 1 (fun _ _=>gQ) aL (hr:=by exact fun E=>E.rd (i:=0) rfl) (h1:=by exact mH _) (hb:=by have:=qvr l k;have:=qy (l.getD k 0);omega) (h63:=by have:=qvr l k;have:=qy (l.getD k 0);omega)) fun DF LY c17 hc17=>(Jp 1∘aF∘Jq) fun a Z E=>?_)
  have oO:((j4 l k).length)+(((aj (l.getD k 0))).length)=(j4 l (k+1)).length:=by rw [qqt om];simp
  replace E:=E.aI (i:=1) (ys:=(j4 l (k+1)).map B8) rfl oO (by rw [qqt om];simp)
  rw [oO] at hc17
  replace Z:=Z.sp 3 (.slice LY ((j4 l (k+1)).length) c17) rfl (by rw [oO])
  refine Jb Z E ((JG∘JR∘Jp 1∘bn 1∘Jp 1∘aT∘Jq) fun a Z E=>?_)
  exact ⟨_,om,k+1,LY,c17,by omega,hc17,rfl,Z.sub kr,E.pk [1]⟩
 intro a Z E
 have pQ:=of_decide_eq_false kP
 have hkn:k=n:=by omega
 have EO:j4 l k=l.flatMap aj:=by unfold j4;rw [List.take_of_length_le om]
 exact Jb Z E ((JF∘JX∘JG∘JP∘Jp 2∘aQ∘Jj∘JZ∘aH) fun E=>qid (E.own (i:=0) rfl) hck (by rw [EO]) EO E.below)
theorem qv5 (A:Option Addr) (c y:Nat) (hy:y<256) (w:World) (hr:Rd w w.heap.size 1 A 1 ([y].map B8)):
    Calls Tryz.prog 259 #[.slice A 1 c] w (xD w (bitsOf y)):=by
 refine (bZ Tryz.func259 52) ?_
 refine (JP∘Jp 1∘Jr∘Jp 1∘Jl∘Jv 2 [(3,vI 8)]∘aT∘Jr∘Jv 2 [(10,vI 40)]) fun a Z E=>?_
 refine fo Z 2 rfl rfl ?_
 refine q99 Z E (m:=40) rfl sH rfl rfl om om rfl de ?_
 clear Z E;intro a wN g11 Z E
 refine Jb Z E ((Jp 1∘aT∘Jq) fun a Z E=>?_)
 have jQ:40=40:=rfl
 replace E:=E.aI (i:=0) (ys:=(uj y 0).map bI) rfl jQ (by rw [qs8];kernel_rfl)
 replace Z:=Z.sp 4 (vS g11 40 40) rfl (by rw [jQ])
 refine Jb Z E ((JG∘JQ∘JP∘Jp 1∘Jj∘JB) fun a Z E=>?_)
 refine qc (fun mS aS wS=>∃(k:Nat),(k≤8)∧mS=8-k∧Fr aS 52 [] [(5,vI k),(4,vS g11 40 40),(3,vI 8),(2,vN),(0,.slice A 1 c)]∧Mem w wS [.row (vS g11 40 40) 40 ((uj y k).map bI) 3 1]) (m:=8-0) ⟨0,by omega,rfl,Z.sub kr,E.pk [0]⟩ ?_
 clear Z E;rintro mS a w_ ⟨k,hk,rfl,Z,E⟩
 refine Jb Z E ((JQ∘JP∘Jp 3∘aT∘Jj) (Ju (fun fZ=>?_) fun fZ=>?_))
 ·
  intro a Z E
  have kV:=of_decide_eq_true fZ
  have hk8:k<8:=by omega
  refine Jb Z E ((JT∘aG∘JQ∘JB∘JR∘Jv 6 [(22,vI (IntKind.i64.wrap (39- (k:Int)))),(17,vS g11 40 40)]∘Jo (vI (39-k:Nat)) (by exact wJ om om)∘Jp 3∘Jo (vI (k/8:Nat)) (by exact zF .i64 8 (by show _≤9223372036854775807;omega))) ?_)
  repeat (first|clear Z|clear E)
  intro a Z E
  obtain ⟨gA,oA,rfl,_⟩:=hr.qd (Nat.lt_of_le_of_lt (Nat.zero_le _) (show k/8<1 from by omega)) de
  refine Jb Z E ((Jy (h:=by exact Yl.ix gA oA (k/8) 1 rfl rfl rfl)∘Jy (v:=vB ([y].getD (k/8) 0)) (h:=by exact Yl.o1 hr (k/8) 0 (by first|omega|(simp;omega)) rfl rfl)∘Jo (vB y) (by rw [show k/8=0 by omega];try rfl)∘Jp 2∘Jo (vI (k%8:Nat)) (by exact zy .i64 _ 8)∘Jy (v:=vB (y/2^ (k%8):Nat)) (h:=by exact Yl.xZ (m:=y) (n:=(k%8)) rfl rfl rfl (by show _≤8;omega))∘Jp 1∘Jo (vB ((y/2^ (k%8))%2:Nat)) (by exact zy .u8 _ 2)∘Jw .i64∘Jy (h:=by exact Yl.uV g11 (39-k) 1 rfl rfl rfl)) fun a Z E=>?_)
  refine fo Z 17 rfl rfl ?_
  refine SB Z E (i:=0) rfl rfl rfl rfl kr rfl rfl (by rw [List.length_map,Gg];omega) ?_
  clear E;intro ag7 E
  replace E:=E.lN (i:=0) (ys:=(uj y (k+1)).map bI) rfl ((qy3 bI (uj y k) (39-k) (y/2^ (k%8)%2) (by rw [Gg];omega)).trans (by rw [show k%8=k by omega,qs9 om]))
  refine Jb Z E ((lH∘Jj∘JR∘Jp 1∘bn 1∘Jp 1∘aF∘Jq) fun a Z E=>?_)
  exact ⟨_,om,k+1,by omega,rfl,Z.sub kr,E.pk [0]⟩
 intro a Z E
 have kV:=of_decide_eq_false fZ
 revert E;revert a;repeat (first|clear Z|clear E)
 intro a Z E
 obtain rfl:k=8:=by omega
 refine Jb Z E ((JF∘JX∘JG∘JQ∘JB) fun a Z E=>?_)
 refine qc (fun mS aS wS=>∃(j:Nat),(j≤40)∧(bE ((uj y 8).take j)=bE (uj y 8))∧mS=0+j∧Fr aS 52 [] [(14,.bool false),(5,vI 8),(4,vS g11 j 40),(3,vI 8),(2,vN),(0,.slice A 1 c)]∧Mem w wS [.row (vS g11 40 40) 40 ((uj y 8).map bI) 3 1]) (m:=0+40) ⟨40,by omega,by rw [List.take_of_length_le (by rw [Gg];omega)],rfl,Z.sub kr,E.pk [0]⟩ ?_
 clear Z E;rintro mS a w_ ⟨j,hj,ht,rfl,Z,E⟩
 have hbl:=Gg y 8
 refine Jb Z E ((JQ∘JP∘Jp 1∘Jl∘Jp 2) (Ju (fun JY=>?_) fun JY=>?_))
 ·
  intro a Z E
  have ZC:=of_decide_eq_true JY
  have hj0:0<j:=by omega
  refine Jb Z E ((Jp 2∘Jl∘yO 1∘Jy (h:=by exact Yl.uV g11 (j-1) 1 rfl rfl rfl)∘Jy (h:=by exact Yl.r1 0 (j-1) 0 (by first|omega|(simp;omega)) rfl rfl rfl)∘Jp 2∘aF∘Jj) (Je (fun zO=>?_) fun zO=>?_))
  ·
   refine (JT∘aG∘JB∘JR∘Jp 2∘Jl∘yO 1∘Jy (h:=by exact Yl.zG sH (j:=j-1) rfl rfl rfl om)∘Jp 1∘jq∘Jq) fun a Z E=>?_
   exact ⟨_,om,(j-1),by omega,qqy om om om ht,rfl,Z.sub kr,E.pk [0]⟩
  refine (JF∘JX∘JG∘JP∘Jp 2∘aQ∘Jj∘JZ) fun a Z E=>?_
  have hjt:=Ux (l:=uj y 8) (k:=j) om (fun _=>by omega) ht
  have hjl:(bitsOf y).length=j:=by rw [←qmg,hjt,List.length_take];omega
  have eX:=E.rW (i:=0) (m:=(bitsOf y).length) (ys:=(bitsOf y).map bI) rfl om (by rw [Nat.mul_one,←List.map_take,hjl,←hjt];rfl)
  exact jB rfl Z rfl (⟨⟨some ⟨g11,0,none⟩,40,by rw [hjl],eX.own (i:=0) rfl,by omega⟩,E.below⟩)
 intro a Z E
 have ZC:=of_decide_eq_false JY
 refine Jb Z E ((Jv 8 [(45,.bool false)]∘eZ∘Jj∘JF∘JX∘JG∘JP∘Jp 2∘aQ∘Jj∘JZ) fun a Z E=>?_)
 have hjt:=Ux (l:=uj y 8) (k:=j) om (fun _=>by omega) ht
 have hjl:(bitsOf y).length=j:=by rw [←qmg,hjt,List.length_take];omega
 have eX:=E.rW (i:=0) (m:=(bitsOf y).length) (ys:=(bitsOf y).map bI) rfl om (by rw [Nat.mul_one,←List.map_take,hjl,←hjt];rfl)
 exact jB rfl Z rfl (⟨⟨some ⟨g11,0,none⟩,40,by rw [hjl],eX.own (i:=0) rfl,by omega⟩,E.below⟩)
theorem qq1 (w:World):Calls Tryz.prog 260 #[vQ 4374732215] w (xD w rF):=q3m 4374732215 de w
theorem BI:0<rF.length:=by rw [JC];decide
theorem qta (A:Option Addr) (c:Nat) (w:World) (hr:Rd w w.heap.size 1 A 1 ([0].map B8)):
    Calls Tryz.prog 190 #[.slice A 1 c] w (Is w (vW (dY 0:Int))):=by
 refine (bZ Tryz.func190 31) ?_
 refine (JP∘Jp 1∘Jr∘Jp 1∘JK (h:=by exact fun E=>qv5 _ _ 0 om _ (E.old hr))) fun A9 c9 w9 Si=>(JK (h:=by exact fun E=>qq1 _)) fun A10 c10 ru ZE=>(JL (h:=by exact fun E=>qmi _ _ _ _ (bitsOf 0) rF _ (UC _) (UA _) (UE _) (UD _) BI (E.rd (i:=1) rfl) (E.rd (i:=0) rfl) (by have:=ZA 0;omega) (by rw [JC];decide))) ?_
 rintro E _ wN ⟨⟨vq,X,cX,rfl,hd1,hd2⟩,hbw⟩
 refine ⟨_,rfl,_,E.call hbw,?_⟩
 refine (Jp 1∘Jx∘Jx∘Jp 2∘aF∘Jq) fun a Z E=>?_
 have ZF:=qv2 0
 have hl0:(iw 0).length=0:=by rw [q3l];rfl
 refine Jb Z E ((JG∘JP∘Jp 1∘Jj∘JQ∘JP∘Jp 1∘Jj∘JB) fun a Z E=>?_)
 replace E:=E.pk (fs':=[]) []
 refine qc (fun mS aS wS=>∃(k:Nat),(k≤(iw 0).length)∧mS=(iw 0).length-k∧Fr aS 31 [] [(6,vI k),(5,vW (kI (iw 0) k)),(4,.slice X ((iw 0).length) cX),(2,vW 0)]∧Mem w wS []) (m:=(iw 0).length-0) ⟨0,Nat.zero_le _,rfl,Z.sub kr,E.pk []⟩ ?_
 clear Z E;rintro mS a w_ ⟨k,hk,rfl,Z,E⟩
 refine Jb Z E ((JQ∘JP∘Jp 2∘Jl∘Jp 1∘bQ∘Jj) (Ju (fun jh=>?_) fun jh=>?_))
 ·
  intro a Z E
  have iQ:=of_decide_eq_true jh
  omega
 intro a Z E
 have iQ:=of_decide_eq_false jh
 exact Jb Z E ((JF∘JX∘JG∘JP∘Jp 2∘aQ∘Jj∘JZ∘aH) fun E=>by exact ⟨by rw [show k=(iw 0).length by omega,qq0,q3k,qo0 0 om],E.below⟩)
theorem qxr (A:Option Addr) (c y:Nat) (hy:y<256) (hy0:y≠0) (w:World) (hr:Rd w w.heap.size 1 A 1 ([y].map B8)):
    Calls Tryz.prog 190 #[.slice A 1 c] w (Is w (vW (dY y:Int))):=by
 refine (bZ Tryz.func190 31) ?_
 refine (JP∘Jp 1∘Jr∘Jp 1∘JK (h:=by exact fun E=>qv5 _ _ y om _ (E.old hr))) fun A9 c9 w9 Si=>(JK (h:=by exact fun E=>qq1 _)) fun A10 c10 ru ZE=>(JL (h:=by exact fun E=>qmi _ _ _ _ (bitsOf y) rF _ (UC _) (UA _) (UE _) (UD _) BI (E.rd (i:=1) rfl) (E.rd (i:=0) rfl) (by have:=ZA y;omega) (by rw [JC];decide))) ?_
 rintro E _ wN ⟨⟨vq,X,cX,rfl,hd1,hd2⟩,hbw⟩
 obtain ⟨ho,hcX⟩:=hd2 (by rw [JC];exact q7s y hy hy0)
 refine ⟨_,rfl,_,E.bq hbw ho,?_⟩
 refine (Jp 1∘Jx∘Jx∘Jp 2∘aF∘Jq) fun a Z E=>?_
 have ZF:=qv2 y
 refine Jb Z E ((JG∘JP∘Jp 1∘Jj∘JQ∘JP∘Jp 1∘Jj∘JB∘JM (.t (.f (.f .n)))) fun a Z E=>?_)
 refine qc (fun mS aS wS=>∃(k:Nat),(k≤(iw y).length)∧mS=(iw y).length-k∧Fr aS 31 [] [(6,vI k),(5,vW (kI (iw y) k)),(4,.slice X ((iw y).length) cX),(2,vW 0)]∧Mem w wS [.row (.slice X ((iw y).length) cX) ((iw y).length) ((iw y).map bI) 3 1]) (m:=(iw y).length-0) ⟨0,Nat.zero_le _,rfl,Z.sub kr,E.pk [0]⟩ ?_
 clear Z E;rintro mS a w_ ⟨k,hk,rfl,Z,E⟩
 refine Jb Z E ((JQ∘JP∘Jp 2∘Jl∘Jp 1∘bQ∘Jj) (Ju (fun jh=>?_) fun jh=>?_))
 ·
  intro a Z E
  have iQ:=of_decide_eq_true jh
  have hk31:k<32:=by omega
  refine Jb Z E ((JT∘aG∘JQ∘JB∘JP∘Jp 2) ?_)
  repeat (first|clear Z|clear E)
  intro a Z E
  obtain ⟨gX,rfl⟩:=Dq (E.own (i:=0) rfl) (Nat.lt_of_le_of_lt (Nat.zero_le _) (show k<(iw y).length from by omega))
  refine Jb Z E ((Jy (h:=by exact Yl.uV gX k 1 rfl rfl rfl)∘Jy (h:=by exact Yl.r1 0 k 0 (by first|omega|(simp;omega)) rfl rfl rfl)∘Jp 1∘eZ∘Jj) (Ju (fun rG=>?_) fun rG=>?_))
  ·
   intro a Z E
   have hd24:=eq_of_beq rG
   have hrs:=zcd (iw y) hk31
   refine Jb Z E ((JT∘JR∘Jp 3∘Jo (vI (31-k:Nat)) (by exact wJ om om)∘Jy (v:=vW (1*2^ (31-k):Nat)) (h:=by exact Yl.WZ (m:=1) (n:=(31-k)) rfl rfl rfl (by show _≤32;omega) (Qo k))∘Jp 1∘Jo (vW (kI (iw y) (k+1))) (by exact E8 (by rw [UF,if_pos om];omega) (by rw [UF,if_pos om];omega))∘Jp 1∘jq∘Jj∘JR∘Jp 1∘bn 1∘Jp 1∘aT∘Jq) fun a Z E=>?_)
   exact ⟨_,om,k+1,by omega,rfl,Z.sub kr,E.pk [0]⟩
  intro a Z E
  have hd24:=ne_of_beq_false rG
  replace Z:=Z.sp 5 (vW (kI (iw y) (k+1):Int)) rfl (by rw [UF,if_neg om,Nat.add_zero])
  refine Jb Z E ((JF∘aG∘JR∘Jp 1∘bn 1∘Jp 1∘aT∘Jq) fun a Z E=>?_)
  exact ⟨_,om,k+1,by omega,rfl,Z.sub kr,E.pk [0]⟩
 intro a Z E
 have iQ:=of_decide_eq_false jh
 exact Jb Z E ((JF∘JX∘JG∘JP∘Jp 2∘aQ∘Jj∘JZ∘aH) fun E=>by exact ⟨by rw [show k=(iw y).length by omega,qq0,q3k,qo0 y om],E.below⟩)
theorem qxs (A:Option Addr) (c y:Nat) (hy:y<256) (w:World) (hr:Rd w w.heap.size 1 A 1 ([y].map B8)):Calls Tryz.prog 190 #[.slice A 1 c] w (Is w (vW (dY y:Int))):=by
 by_cases h:y=0
 ·subst h;exact qta A c w hr
 ·exact qxr A c y hy h w hr
theorem q3n (c:Nat) (hc:c<4294967296) (A:Option Addr) (n cp:Nat) (l:List Nat) (w:World) (hr:Rd w w.heap.size 1 A n (l.map B8)) (hln:l.length=n) (hn:n≤1000000000) (hl:∀b∈l,b<256):
    Calls Tryz.prog 145 #[vW c,.slice A n cp] w (Is w (vW ((4294967295-qw (4294967295-c) l:Nat):Int))):=by
 refine (jw Tryz.func145 29) ?_
 refine (JP∘Jp 1∘Jr∘Jp 2∘Jo (vW (4294967295-c:Nat)) (by exact E8 om om)∘Jp 1∘aT∘Jj∘JQ∘JP∘Jp 1∘Jj∘JB) fun a Z E=>?_
 refine qc (fun mS aS wS=>∃(k:Nat),(k≤n)∧mS=n-k∧Fr aS 29 [] [(5,vI k),(0,vW (qw (4294967295-c) (l.take k))),(4,vW 0),(1,.slice A n cp)]∧Mem w wS []) (m:=n-0) ⟨0,Nat.zero_le _,rfl,Z.sub kr,E.pk []⟩ ?_
 clear Z E;rintro mS a w_ ⟨k,hk,rfl,Z,E⟩
 have hcr:=M9 (l.take k) (c:=4294967295-c) om (yQ hl k)
 refine Jb Z E ((JQ∘JP∘Jp 2∘Jl∘Jp 1∘bQ∘Jj) (Ju (fun cK=>?_) fun cK=>?_))
 ·
  intro a Z E
  have gI:=of_decide_eq_true cK
  have nV:k<n:=by omega
  have hxk:=getD_lt hl (k:=k) om
  have hy8:(qw (4294967295-c) (l.take k)%256^^^l.getD k 0)<256:=Nat.xor_lt_two_pow (n:=8) om om
  refine Jb Z E ((JT∘aG∘JQ∘JB∘JR∘Jp 2∘Jo (vW ((qw (4294967295-c) (l.take k))/256:Nat)) (by exact zF .u32 256 (by show _≤4294967295;omega))∘Jp 2∘Jo (vW ((qw (4294967295-c) (l.take k))%256:Nat)) (by exact zy .u32 _ 256)∘Jv 1 [(18,vB (IntKind.u8.wrap (((qw (4294967295-c) (l.take k))%256:Nat):Int)))]∘Jo (vB (qw (4294967295-c) (l.take k)%256:Nat)) (by exact (rC (qw (4294967295-c) (l.take k)%256)).trans (by rw [Nat.mod_mod]))∘Jp 2) ?_)
  repeat (first|clear Z|clear E)
  intro a Z E
  obtain ⟨gA,oA,rfl,_⟩:=hr.qd (Nat.lt_of_le_of_lt (Nat.zero_le _) (show k<n from by omega)) de
  refine Jb Z E ((Jy (h:=by exact Yl.ix gA oA k 1 rfl rfl rfl)∘JH (getD_lt hl (k:=k) (by first|omega|(simp;omega)))) fun hx1=>(Jy (h:=by exact Yl.o1 hr k 0 (by first|omega|(simp;omega)) rfl rfl)∘Jp 1∘Jo (vB ((qw (4294967295-c) (l.take k)%256)^^^ (l.getD k 0):Nat)) (by exact zdd (m:=qw (4294967295-c) (l.take k)%256) (n:=(l.getD k 0)) om om)∘JU aL #[vB ((qw (4294967295-c) (l.take k)%256)^^^ (l.getD k 0):Nat)]) fun S9 g24=>(JI (h:=by exact fun E=>qxs _ _ (qw (4294967295-c) (l.take k)%256^^^l.getD k 0) hy8 _ (E.aN (i:=0) (n:=1) (size:=1) rfl rfl))) fun Le hbw=>(Jp 1∘Jo (vW (qw (4294967295-c) (l.take (k+1)))) (by have h:=MP (m:=(qw (4294967295-c) (l.take k))/256) (n:=dY (qw (4294967295-c) (l.take k)%256^^^l.getD k 0)) om (qzf om);rw [qjk om,qks];exact h)∘Jp 1∘aF∘Jj∘JR∘Jp 1∘bn 1∘Jp 1∘aT∘Jq) fun a Z E=>?_)
  exact ⟨_,om,k+1,by omega,rfl,Z.sub kr,E.pk []⟩
 intro a Z E
 have gI:=of_decide_eq_false cK
 exact Jb Z E ((JF∘JX∘JG∘JP∘Jp 2∘Jo (vW (4294967295- (qw (4294967295-c) (l.take k)):Nat)) (by exact E8 om om)∘Jp 1∘aT∘Jj∘JZ∘aH) fun E=>by exact ⟨by rw [List.take_of_length_le om],E.below⟩)
theorem q3o (A:Option Addr) (n cp:Nat) (l:List Nat) (w:World) (hr:Rd w w.heap.size 1 A n (l.map B8)) (hln:l.length=n) (hn:n≤1000000000) (hl:∀b∈l,b<256):
    Calls Tryz.prog 97 #[.slice A n cp] w (Is w (vW (qu l:Int))):=by
 refine (bZ Tryz.func97 5) ?_
 exact (JP∘Jp 1∘Jr∘Jp 1∘JI (h:=by exact fun E=>q3n 0 de _ _ _ l _ (E.old hr) hln hn hl)) fun w4 hbw=>(Jp 1∘aT∘Jj∘JZ) uI
theorem ZG (A:Option Addr) (n cp:Nat) (l:List Nat) (w:World) (hr:Rd w w.heap.size 1 A n (l.map B8)) (hln:l.length=n) (hn:n≤100000000) (hl:∀b∈l,b<256):
    Calls Tryz.prog 37 #[.slice A n cp] w (zz w (bF l)):=by
 refine (bZ Tryz.func37 25) ?_
 refine (JP∘Jp 1∘Jr∘Jp 1∘JI (h:=by exact fun E=>q3o _ _ _ l _ (E.old hr) hln om hl)) fun w5 hbw=>(Jp 1∘aT∘Jq) fun a Z E=>?_
 have hcs:=qo1 l
 refine Jb Z E ((JG∘JP) fun a Z E=>?_)
 refine fo Z 0 rfl rfl ?_
 refine q43 Z E rfl aL rfl de ?_
 clear Z E;intro a w6 g6 Z E
 refine Jb Z E ((Jp 1∘JD (l.map B8) 0 (fun _ _=>bg) aL (hr:=by exact fun E=>E.old hr) (h1:=by exact mH _)) fun w8 A8 c8 hc8=>(Jp 2∘Jo (vW ((qu l)%256:Nat)) (by exact zy .u32 _ 256)∘Jv 1 [(11,vB (IntKind.u8.wrap (((qu l)%256:Nat):Int)))]∘Jo (vB (qu l%256:Nat)) (by exact (rC (qu l%256)).trans (by rw [Nat.mod_mod]))∘Jp 2∘Jo (vW ((qu l)/256:Nat)) (by exact zF .u32 256 (by show _≤4294967295;omega))∘Jp 1∘Jo (vW (((qu l)/256)%256:Nat)) (by exact zy .u32 _ 256)∘Jv 1 [(15,vB (IntKind.u8.wrap ((((qu l)/256)%256:Nat):Int)))]∘Jo (vB (qu l/256%256:Nat)) (by exact (rC (qu l/256%256)).trans (by rw [Nat.mod_mod]))∘Jp 2∘Jo (vW ((qu l)/65536:Nat)) (by exact zF .u32 65536 (by show _≤4294967295;omega))∘Jp 1∘Jo (vW (((qu l)/65536)%256:Nat)) (by exact zy .u32 _ 256)∘Jv 1 [(19,vB (IntKind.u8.wrap ((((qu l)/65536)%256:Nat):Int)))]∘Jo (vB (qu l/65536%256:Nat)) (by exact (rC (qu l/65536%256)).trans (by rw [Nat.mod_mod]))∘Jp 2∘Jo (vW ((qu l)/16777216:Nat)) (by exact zF .u32 16777216 (by show _≤4294967295;omega))∘Jv 1 [(22,vB (IntKind.u8.wrap (((qu l)/16777216:Nat):Int)))]∘Jo (vB (((qu l)/16777216)%256:Nat)) (by exact rC ((qu l)/16777216))∘JU aL #[vB (qu l%256:Nat),vB (qu l/256%256:Nat),vB (qu l/65536%256:Nat),vB (((qu l)/16777216)%256:Nat)]) fun K6 g23=>(JD ((uY (qu l)).map B8) 1 (fun _ _=>gQ) aL (hr:=by exact fun E=>E.aN (i:=0) (n:=4) (size:=1) rfl rfl) (h1:=by exact mH _)) fun S9 Wz c24 hc24=>(Jp 1∘aF∘Jq) fun a Z E=>?_)
 have BJ:0+n+4=(bF l).length:=by rw [Fe];omega
 replace E:=E.aI (i:=1) (ys:=(bF l).map B8) rfl BJ (by simp [bF])
 rw [BJ] at hc24
 replace Z:=Z.sp 2 (.slice Wz ((bF l).length) c24) rfl (by rw [BJ])
 exact Jb Z E ((JG∘JZ∘JM (.f .n)∘aH) fun E=>by exact ⟨⟨_,_,rfl,E.own (i:=0) rfl,hc24⟩,E.below⟩)
theorem Ey:SI Tryz.prog 382 3:=⟨by kernel_rfl,by kernel_rfl⟩
theorem UJ:EI Tryz.prog 379 382 (.agg #[vQ 0,vI 0,vI 0]) 3 24:=⟨by kernel_rfl,by kernel_rfl,rfl,by omega⟩
theorem QA {x:Gr} (h1:x.parent=0) (h2:x.weight=1):x=⟨0,1⟩:=by
 obtain ⟨a,b⟩:=x
 simp only at h1 h2
 rw [h1,h2]
theorem qxu {l:List Tk} {id:Int} (h:∀k,k<l.length→(l.getD k Tk.zero).id≠id):fidx l id= -1:=by unfold fidx;rw [Xm h]
theorem q34 {l:List Tk} {id:Int} {i:Nat} (hi:i<l.length) (h:(l.getD i Tk.zero).id=id) (hn:∀k,k<i→(l.getD k Tk.zero).id≠id):fidx l id=i:=by unfold fidx;rw [qpl hi h hn]
theorem qil (v r:Nat) (wt:Int) (hv:v<18446744073709551616) (hr:r<4294967296) (hw:0≤wt∧wt<4294967296) (w:World):
    Calls Tryz.prog 294 #[.agg #[vQ v,vW r,vW wt]] w (Is w (.bool (iC v r wt))):=by
 obtain ⟨z,rfl⟩:∃z:Nat,wt=(z:Int):=⟨wt.toNat,by omega⟩
 refine (bZ Tryz.func294 29) ?_
 refine (JP∘JE) fun w1 g1=>(Jp 1∘Jr∘Jg 2 O0∘Jp 2) (Ji (fun hd6=>?_) fun hd6=>?_)
 ·
  refine (Jg 2 O0∘Jp 3) (Ji (fun gI=>?_) fun gI=>?_)
  ·
   refine (Jg 1 O0∘Jg 2 O0∘Jp 3) (Ji (fun kQ=>?_) fun kQ=>?_)
   ·
    refine (Jg 0 O0∘Jp 2) (Je (fun jf=>?_) fun jf=>?_)
    ·
     exact (Jg 1 O0∘Jp 5∘aF∘Jj∘JZ∘aH) fun E=>aM (by unfold iC;rw [←decide_not];exact decide_eq_decide.2 om) E.below
    exact (Jp 7∘aF∘Jj∘JZ∘aH) fun E=>Lr om E.below
   exact (Jv 11 [(2,.bool false)]∘aF∘Jj∘JZ∘aH) fun E=>bX om E.below
  exact (Jv 18 [(2,.bool false)]∘aF∘Jj∘JZ∘aH) fun E=>bX om E.below
 exact (Jv 23 [(2,.bool false)]∘bQ∘Jj∘JZ∘aH) fun E=>bX om E.below
theorem qkj (v r:Nat) (wt:Int) (hw:0≤wt∧wt<4294967296) (w:World):
    Calls Tryz.prog 295 #[vQ v,vW r,vI wt] w (Is w (.agg #[vQ v,vW r,vW wt])):=by
 obtain ⟨z,rfl⟩:∃z:Nat,wt=(z:Int):=⟨wt.toNat,by omega⟩
 refine (Hg Tryz.func295 12) ?_
 refine (JP∘JA #[vQ 0,vW 0,vW 0]) fun w6 g6=>(Jr∘Jp 3∘Jv 1 [(10,vW (IntKind.u32.wrap (z:Int)))]∘Jo (vW z) (by exact E8 rfl om)∘Jy (v:= .agg #[vQ v,vW r,vW z]) (h:=by exact Yl.build (vs:=[(0,vQ v),(1,vW r),(2,vW z)]) rfl kr kr)∘JV q0q bg) fun Ht=>(E9∘Jj∘JZ) fun a Z E=>?_
 exact nN rfl Z (.cellS (i:=0) Z E rfl rfl q0q rfl) (⟨rfl,E.below⟩)
theorem q35 (m n:Nat) (hm:m<18446744073709551616) (hn:1≤n∧n≤64) (w:World):
    Calls Tryz.prog 296 #[vQ m,vI n] w (Is w (.bool (decide (2^n≤m)))):=by
 refine (jw Tryz.func296 16) ?_
 refine (JP∘Jp 1∘Jj∘JQ∘JP∘Jp 2∘aQ∘Jj∘JB) fun a Z E=>?_
 refine qc (fun mS aS wS=>∃(k:Nat),(n≤k)∧(k≤64)∧(∀i,n≤i→i<k→m/2^i%2=0)∧mS=64-k∧Fr aS 16 [] [(5,vI k),(4,.bool false),(0,vQ m)]∧Mem w wS []) (m:=64-n) ⟨n,Nat.le_refl _,hn.2,fun i h1 h2=>by omega,rfl,Z.sub kr,E.pk []⟩ ?_
 clear Z E;rintro mS a w_ ⟨k,hkn,hk,hu,rfl,Z,E⟩
 refine Jb Z E ((JQ∘JP∘Jp 2∘aQ∘Jj) (Ju (fun kP=>?_) fun kP=>?_))
 ·
  intro a Z E
  have pQ:=of_decide_eq_true kP
  have hsh:=Nat.div_le_self m (2^k)
  refine Jb Z E ((JT∘aG∘JQ∘JB∘JP∘Jp 2∘Jy (v:=vQ (m/2^k:Nat)) (h:=by exact Yl.xZ (m:=m) (n:=k) rfl rfl rfl (by show _≤64;omega))∘Jp 1∘Jo (vQ ((m/2^k)%2:Nat)) (by exact zy .u64 _ 2)∘Jp 1∘eZ∘Jj) (Je (fun kM=>?_) fun kM=>?_))
  ·
   exact (JT∘JP∘Jp 1∘Jj∘JZ∘aH) fun E=>Lr (q3t hkn om) E.below
  refine (JF∘aG∘JR∘Jp 1∘bn 1∘Jp 1∘aT∘Jq) fun a Z E=>?_
  exact ⟨_,om,k+1,by omega,by omega,fun i h1 h2=>by rcases Nat.lt_or_ge i k with h3|h3;exact hu i h1 h3;obtain rfl:i=k:=om;omega,rfl,Z.sub kr,E.pk []⟩
 intro a Z E
 have pQ:=of_decide_eq_false kP
 exact Jb Z E ((JF∘JX∘JG∘JP∘Jp 1∘Jj∘JZ∘aH) fun E=>bX (q3s hm hn.2 (fun i h1 h2=>hu i h1 om)) E.below)
theorem qxv (A:Option Addr) (c:Nat) (l:List Gr) (g:Nat) (w:World) (hok:∀x∈l,x.Ok) (hr:Rd w w.heap.size 2 A l.length (l.flatMap gZ)) (hn:l.length≤1000000) (hg:0<g∧g<l.length) (hp:∀i,0<i→i<g→gK l i):
    Calls Tryz.prog 313 #[.slice A l.length c,vI g] w (BN w l g):=by
 refine (jw Tryz.func313 35) ?_
 refine (JP∘Jp 1∘Jr∘Jp 1∘Jj∘JQ∘JB) fun a Z E=>?_
 refine qc (fun mS aS wS=>∃(y:Nat) (n:Nat),(y≤g)∧(n≤5)∧(gY l g=n+gY l y)∧(y=g∨gK l g)∧mS=0+y∧Fr aS 35 [] [(5,vI n),(4,vI 0),(0,.slice A l.length c),(1,vI y)]∧Mem w wS []) (m:=0+g) ⟨g,0,Nat.le_refl _,by decide,(Nat.zero_add _).symm,.inl rfl,rfl,Z.sub kr,E.pk []⟩ ?_
 clear Z E;rintro mS a w_ ⟨y,n,hyg,hn5,hd,hpg,rfl,Z,E⟩
 refine Jb Z E ((JQ∘JP∘Jp 3) (Ji (fun pQ=>?_) fun pQ=>?_))
 ·
  refine (Jp 3∘jq∘Jj) (Ji (fun gI=>?_) fun gI=>?_)
  ·
   refine (JT∘aG∘JB∘JQ∘JP∘Jp 2) ?_
   repeat (first|clear Z|clear E)
   intro a Z E
   obtain ⟨gA,oA,rfl,_⟩:=hr.qd (Nat.lt_of_le_of_lt (Nat.zero_le _) (show y<l.length from by omega)) de
   refine Jb Z E ((Jy (h:=by exact Yl.ix gA oA y 2 rfl rfl rfl)∘Jf 0∘Jy (v:=vI ((l.getD y Gr.zero).parent)) (h:=by exact Yl.qj rfl rfl kr (fun _ h=>(by have:=(h.old hr).partAt zx (k:=y) (j:=0) (x:=(l.getD y Gr.zero)) ((getD_at Gr.zero om)) rfl;simpa using this)))∘Jp 2) (Ji (fun kQ=>?_) fun kQ=>?_))
   ·
    exact (Jv 8 [(26,.bool true)]∘aF∘Jj∘JT∘JP∘Jp 1∘Jj∘JZ∘aH) fun E=>qv6 hp hyg om om E.below
   refine (Jp 2∘Jy (h:=by exact Yl.ix gA oA y 2 rfl rfl rfl)∘Jf 0∘Jy (v:=vI ((l.getD y Gr.zero).parent)) (h:=by exact Yl.qj rfl rfl kr (fun _ h=>(by have:=(h.old hr).partAt zx (k:=y) (j:=0) (x:=(l.getD y Gr.zero)) ((getD_at Gr.zero om)) rfl;simpa using this)))∘Jp 3∘aF∘Jj) (Ju (fun kR=>?_) fun kR=>?_)
   ·
    intro a Z E
    have zY:=of_decide_eq_true kR
    exact Jb Z E ((JT∘JP∘Jp 1∘Jj∘JZ∘aH) fun E=>qv6 hp hyg om om E.below)
   intro a Z E
   have zY:=of_decide_eq_false kR
   obtain ⟨z,hz⟩:∃z:Nat,(l.getD y Gr.zero).parent=(z:Int):=⟨(l.getD y Gr.zero).parent.toNat,by omega⟩
   have hds:=q7u hp hyg om hz om
   refine Jb Z E ((JF∘aG∘JP∘Jp 2∘Jy (h:=by exact Yl.ix gA oA y 2 rfl rfl rfl)∘Jf 0∘Jy (v:=vI ((l.getD y Gr.zero).parent)) (h:=by exact Yl.qj rfl rfl kr (fun _ h=>(by have:=(h.old hr).partAt zx (k:=y) (j:=0) (x:=(l.getD y Gr.zero)) ((getD_at Gr.zero om)) rfl;simpa using this)))∘Jo (vI z) (by rw [hz])∘Jp 1∘jq∘Jj∘JR∘Jp 1∘bn 1∘Jp 1∘aT∘Jq) fun a Z E=>?_)
   exact ⟨_,om,z,n+1,by omega,by omega,by omega,.inr (hpg.elim (fun e=>e▸zcf hz om) id),rfl,Z.sub kr,E.pk []⟩
  exact (JF∘JX∘JG∘JP∘Jp 2∘aQ∘Jj∘JZ∘aH) fun E=>qv7 hd om hpg hg.1 E.below
 exact (Jp 3∘jq∘Jj∘JF∘JX∘JG∘JP∘Jp 2∘aQ∘Jj∘JZ∘aH) fun E=>qv7 hd om hpg hg.1 E.below
theorem qio (x:dK) (hok:x.aD.Ok) (hf:aX x) (w:World) (hx:cB w x):
    Calls Tryz.prog 293 #[.agg #[vI x.aB,vQ (x.ak:Int),.slice x.gA x.gs.length x.gc]] w (Is w (.bool (eO x.aD))):=by
 have hc:=hok.aB
 have hcr:=hok.ak
 replace hc:bP x.aB:=hc
 replace hcr:x.ak<18446744073709551616:=hcr
 unfold bP at hc
 have hfg:=hf.g
 have ate:∀y∈x.gs,y.Ok:=hok.gs
 refine (bZ Tryz.func293 65) ?_
 refine (JP∘JE) fun w1 g1=>(Jp 1∘Jj∘JQ∘JP∘Jg 0 O0∘Jp 2) (Ji (fun hd7=>?_) fun hd7=>?_)
 ·
  exact (Jv 21 [(28,.bool true)]∘bQ∘Jj∘JT∘JP∘Jp 1∘Jj∘JZ∘aH) fun E=>aM (Lv om).symm E.below
 refine (Jg 0 O0∘Jp 3) (Ji (fun iR=>?_) fun iR=>?_)
 ·
  exact (Jv 16 [(28,.bool true)]∘aF∘Jj∘JT∘JP∘Jp 1∘Jj∘JZ∘aH) fun E=>aM (Lv om).symm E.below
 refine (Jg 1 O0∘Jp 3) (Ji (fun iQ=>?_) fun iQ=>?_)
 ·
  exact (Jv 11 [(28,.bool true)]∘aF∘Jj∘JT∘JP∘Jp 1∘Jj∘JZ∘aH) fun E=>aM (Lv om).symm E.below
 refine (Jg 2 O0∘Jl∘Jp 3) (Ji (fun oF=>?_) fun oF=>?_)
 ·
  exact (Jp 5∘aF∘Jj∘JT∘JP∘Jp 1∘Jj∘JZ∘aH) fun E=>aM (Mg (Ij om)).symm E.below
 refine (Jg 2 O0∘Jl∘Jp 2∘aF∘Jj) (Ji (fun hd28=>?_) fun hd28=>?_)
 ·
  exact (JT∘JP∘Jp 1∘Jj∘JZ∘aH) fun E=>aM (Mg (Ij om)).symm E.below
 refine (JF∘aG∘JQ∘JP∘Jg 2 O0) fun a Z E=>?_
 obtain ⟨dU,dV,hq1,_⟩:=Rd.qd hx.g (Nat.lt_of_le_of_lt (Nat.zero_le _) (show 0<x.gs.length from by omega)) de
 have aZ:=hx.g;rw [hq1] at aZ
 replace Z:=Z.sp 30 (.slice (some ⟨dU,dV,none⟩) x.gs.length x.gc) rfl (by rw [hq1];try rfl)
 refine Jb Z E ((Jy (v:=vP dU dV) (h:=by exact Yl.indexAddr (ad:=⟨dU,dV,none⟩) (y:=0) (sz:=2) rfl rfl rfl om kr)∘Jf 0∘Jy (v:=vI ((x.gs.getD 0 Gr.zero).parent)) (h:=by exact Yl.qj rfl rfl kr (fun _ h=>(by have:=(h.old aZ).partAt zx (k:=0) (j:=0) (x:=(x.gs.getD 0 Gr.zero)) ((getD_at Gr.zero om)) rfl;simpa using this)))∘Jp 2) (Jh (fun lV=>?_) fun lV=>?_))
 ·
  exact (Jp 7∘aF∘Jj∘JT∘JP∘Jp 1∘Jj∘JZ∘aH) fun E=>aM (Mg (Ij (fun h=>by rw [h.2.2] at lV;exact lV rfl))).symm E.below
 refine (Jg 2 O0) fun a Z E=>?_
 replace Z:=Z.sp 37 (.slice (some ⟨dU,dV,none⟩) x.gs.length x.gc) rfl (by rw [hq1];try rfl)
 refine Jb Z E ((Jy (v:=vP dU dV) (h:=by exact Yl.indexAddr (ad:=⟨dU,dV,none⟩) (y:=0) (sz:=2) rfl rfl rfl om kr)∘Jf 1∘Jy (v:=vI ((x.gs.getD 0 Gr.zero).weight)) (h:=by exact Yl.qj rfl rfl kr (fun _ h=>(h.old aZ).partAt zx (k:=0) (j:=1) (x:=(x.gs.getD 0 Gr.zero)) ((getD_at Gr.zero om)) rfl))∘Jp 2∘aF∘Jj) (Ju (fun vV=>?_) fun vV=>?_))
 ·
  intro a Z E
  have uo:=bne_iff_ne.1 vV
  exact Jb Z E ((JT∘JP∘Jp 1∘Jj∘JZ∘aH) fun E=>aM (Mg (Ij (fun h=>by rw [h.2.2] at uo;exact uo rfl))).symm E.below)
 intro a Z E
 have uo:=bne_eq_false_iff_eq.1 vV
 have hg0:(x.gs.getD 0 Gr.zero)=⟨0,1⟩:=QA lV uo
 refine Jb Z E ((JF∘aG∘JQ∘JP∘Jp 1∘Jj∘JB) fun a Z E=>?_)
 refine qc (fun mS aS wS=>∃(g:Nat),(1≤g)∧(g≤x.gs.length)∧(bL g (sj x.gs))∧mS=x.gs.length-g∧Fr aS 65 [] [(3,vI g),(42,.bool false),(28,.bool false),(2,.bool false),(1,vP g1 0)]∧Mem w wS [.blk g1 #[vI x.aB,vQ x.ak,.slice x.gA x.gs.length x.gc] 44]) (m:=x.gs.length-1) ⟨1,Nat.le_refl _,by omega,bL.zero.succ (quf x.gs),rfl,Z.sub kr,E.pk [0]⟩ ?_
 clear Z E;rintro mS a w_ ⟨g,hg1,hgl,hu,rfl,Z,E⟩
 refine Jb Z E ((JQ∘JP∘Jp 1∘Jg 2 O0∘Jl∘Jp 1∘bQ∘Jj) (Ju (fun J8=>?_) fun J8=>?_))
 ·
  intro a Z E
  have J9:=of_decide_eq_true J8
  have Ka:g<x.gs.length:=by omega
  have TA:=hok.gs _ (qi Gr.zero Ka)
  have Xy:=TA.weight
  unfold bP at Xy
  refine Jb Z E ((JT∘aG∘JQ∘JB∘JP∘Jg 2 O0∘Jp 1) fun a Z E=>?_)
  replace Z:=Z.sp 51 (.slice (some ⟨dU,dV,none⟩) x.gs.length x.gc) rfl (by rw [hq1];try rfl)
  refine Jb Z E ((Jy (h:=by exact Yl.ix dU dV g 2 rfl rfl rfl)∘Jf 1∘Jy (v:=vI ((x.gs.getD g Gr.zero).weight)) (h:=by exact Yl.qj rfl rfl kr (fun _ h=>(h.old aZ).partAt zx (k:=g) (j:=1) (x:=(x.gs.getD g Gr.zero)) ((getD_at Gr.zero om)) rfl))∘JL (h:=by exact fun E=>qnf ((x.gs.getD g Gr.zero).weight) _)) ?_)
  rintro E _ w56 ⟨rfl,hbw⟩
  refine ⟨_,rfl,_,E.call hbw,?_⟩
  refine (Jp 2) (Ju (fun ji=>?_) fun ji=>?_)
  ·
   intro a Z E
   have oV:=of_decide_eq_false ((Bool.not_eq_true' _).mp ji)
   exact Jb Z E ((Jp 6∘aF∘Jj∘JT∘JP∘Jp 1∘Jj∘JZ∘aH) fun E=>aM (Mg (Ls Ka (Lu om (fun h=>oV h.2.2.1)))).symm E.below)
  intro a Z E
  have oV:=of_decide_eq_true ((Bool.not_eq_false' _).mp ji)
  refine Jb Z E ((Jg 2 O0∘Jp 1∘JL (h:=by exact fun E=>qxv x.gA x.gc x.gs g _ hok.gs (E.old hx.g) hf.g ⟨by omega,by omega⟩ (zch hu))) ?_)
  rintro E _ w62 ⟨⟨d,rfl,hd⟩,hbw⟩
  refine ⟨_,rfl,_,E.call hbw,?_⟩
  refine (Jp 2∘aF∘Jj) (Ji (fun Kc=>?_) fun Kc=>?_)
  ·
   exact (JT∘JP∘Jp 1∘Jj∘JZ∘aH) fun E=>aM (Mg (Ls Ka (zcg om (fun h=>by have:=hd.2 h;omega)))).symm E.below
  refine (JF∘aG∘JR∘Jp 1∘bn 1∘Jp 1∘aT∘Jq) fun a Z E=>?_
  exact ⟨_,om,g+1,by omega,by omega,hu.succ (q7v (hd.1 om) (by simpa using ji)),rfl,Z.sub kr,E.pk [0]⟩
 intro a Z E
 have J9:=of_decide_eq_false J8
 exact Jb Z E ((JF∘JX∘JG∘JP∘Jp 1∘Jj∘JZ∘aH) fun E=>by exact aM ((q0x om).trans (que ⟨by omega,by omega,hg0⟩ (fun i hi=>hu i om))).symm E.below)
theorem q36 (x:dK) (id:Int) (w:World) (hx:cB w x) (hn:x.ts.length≤1000000):
    Calls Tryz.prog 253 #[.agg x.cells,vI id] w (Is w (vI (fidx x.ts id))):=by
 refine (jw Tryz.func253 22) ?_
 refine (JP∘JE) fun w2 g2=>(Jp 1∘Jj∘JQ∘JP∘Jp 1∘Jj∘JB) fun a Z E=>?_
 refine qc (fun mS aS wS=>∃(i:Nat),(i≤x.ts.length)∧(∀k,k<i→(x.ts.getD k Tk.zero).id≠id)∧mS=x.ts.length-i∧Fr aS 22 [] [(5,vI i),(4,vI 0),(2,vP g2 0),(1,vI id)]∧Mem w wS [.blk g2 x.cells 48]) (m:=x.ts.length-0) ⟨0,Nat.zero_le _,fun k h=>by omega,rfl,Z.sub kr,E.pk [0]⟩ ?_
 clear Z E;rintro mS a w_ ⟨i,hi,hu,rfl,Z,E⟩
 refine Jb Z E ((JQ∘JP∘Jp 1∘Jg 5 O0∘Jl∘Jp 1∘bQ∘Jj) (Ju (fun fO=>?_) fun fO=>?_))
 ·
  intro a Z E
  have fM:=of_decide_eq_true fO
  have Z4:i<x.ts.length:=by omega
  refine Jb Z E ((JT∘aG∘JQ∘JB∘JP∘Jg 5 O0∘Jp 1) fun a Z E=>?_)
  obtain ⟨dU,dV,hq1,_⟩:=Rd.qd hx.t (Nat.lt_of_le_of_lt (Nat.zero_le _) (show i<x.ts.length from by omega)) de
  have aZ:=hx.t;rw [hq1] at aZ
  replace Z:=Z.sp 14 (.slice (some ⟨dU,dV,none⟩) x.ts.length x.tc) rfl (by rw [hq1];try rfl)
  refine Jb Z E ((Jy (h:=by exact Yl.ix dU dV i 8 rfl rfl rfl)∘Jf 0∘Jy (v:=vI ((x.ts.getD i Tk.zero).id)) (h:=by exact Yl.qj rfl rfl kr (fun _ h=>(by have:=(h.old aZ).partAt sw (k:=i) (j:=0) (x:=(x.ts.getD i Tk.zero)) ((getD_at Tk.zero om)) rfl;simpa using this)))∘Jp 2∘eZ∘Jj) (Je (fun iA=>?_) fun iA=>?_))
  ·
   exact (JT∘JP∘Jp 2∘aQ∘Jj∘JZ∘aH) fun E=>by exact ⟨by rw [q34 Z4 iA hu],E.below⟩
  refine (JF∘aG∘JR∘Jp 1∘bn 1∘Jp 1∘aT∘Jq) fun a Z E=>?_
  exact ⟨_,om,i+1,by omega,XI hu iA,rfl,Z.sub kr,E.pk [0]⟩
 intro a Z E
 have fM:=of_decide_eq_false fO
 exact Jb Z E ((JF∘JX∘JG∘JP∘Jp 1∘Jj∘JZ∘aH) fun E=>by exact ⟨by rw [qxu (fun k h=>hu k om)],E.below⟩)
theorem qtf (p q:Mb) (w:World):
    Calls Tryz.prog 297 #[.agg p.fE,.agg q.fE] w (Is w (.bool (p.lt q))):=by
 refine (jw Tryz.func297 30) ?_
 refine (JP∘JE) fun w2 g2=>(JE) fun w3 g3=>(Jp 1∘Jj∘JQ∘JP∘Jg 0 O1∘Jg 0 O0∘Jp 1∘aT∘Jj) (Jh (fun vv=>?_) fun vv=>?_)
 ·
  exact (JT∘JP∘Jg 0 O1∘Jg 0 O0∘Jp 2∘bQ∘Jj∘JZ∘aH) fun E=>ZY (ZW om) E.below
 refine (JF∘aG∘JQ∘JP∘Jg 1 O1∘Jg 1 O0∘Jp 1∘aT∘Jj) (Jh (fun mQ=>?_) fun mQ=>?_)
 ·
  exact (JT∘JP∘Jg 1 O1∘Jg 1 O0∘Jp 2∘bQ∘Jj∘JZ∘aH) fun E=>ZY (ZX om om) E.below
 exact (JF∘aG∘JP∘Jg 2 O1∘Jg 2 O0∘Jp 2∘bQ∘Jj∘JZ∘aH) fun E=>ZY (Qz om om) E.below
theorem qtg (x:dK) (hok:x.aD.Ok) (hf:aX x) (w:World) (hx:cB w x):
    Calls Tryz.prog 251 #[.agg x.cells] w (Is w (.bool (jS x.aD))):=by
 have hfs:=hf.s;have hft:=hf.t;have hfg:=hf.g;have hfl:=hf.l;have hfu:=hf.u
 refine (bZ Tryz.func251 123) ?_
 refine (JP∘JE) fun w1 g1=>(Jp 1∘Jj∘JQ∘JP∘Jf 0∘Jy (v:= .agg #[vI x.aB,vQ x.ak,.slice x.gA x.gs.length x.gc]) (h:=by exact Yl.qf rfl rfl uL rfl (fun _ h=>h.sub (i:=0) rfl 0 rfl))∘JI (h:=by exact fun E=>qio x hok hf _ (hx.old E))) fun w9 hbw=>(Jp 2) (Ju (fun cK=>?_) fun cK=>?_)
 ·
  exact (Jv 27 [(38,.bool true)]∘jq∘Jj∘JT∘JP∘Jp 1∘Jj∘JZ∘aH) fun E=>aM (zci (by simpa using cK)).symm E.below
 intro a Z E
 have hcf:eO x.aD=true:=by simpa using cK
 obtain ⟨hc1,hc2,hc3,hgs⟩:=yS hcf
 refine Jb Z E ((Jg 3 O0∘Jl∘Jf 0∘Jg 0 O0∘Jp 3) (Jh (fun iA=>?_) fun iA=>?_))
 ·
  exact (Jv 18 [(38,.bool true)]∘aF∘Jj∘JT∘JP∘Jp 1∘Jj∘JZ∘aH) fun E=>aM (ZR om).symm E.below
 refine (Jg 4 O0∘Jl∘Jf 0∘Jg 0 O0∘Jp 3) (Jh (fun hd29=>?_) fun hd29=>?_)
 ·
  exact (Jv 9 [(38,.bool true)]∘aF∘Jj∘JT∘JP∘Jp 1∘Jj∘JZ∘aH) fun E=>aM (ZR om).symm E.below
 refine (Jg 6 O0∘Jl∘Jf 0∘Jg 2 O0∘Jl∘Jp 2∘aF∘Jj) (Jh (fun hd38=>?_) fun hd38=>?_)
 ·
  exact (JT∘JP∘Jp 1∘Jj∘JZ∘aH) fun E=>aM (ZR om).symm E.below
 refine (JF∘aG∘JQ∘JP∘Jp 1∘Jj∘JB) fun a Z E=>?_
 refine qc (fun mS aS wS=>∃(k:Nat),(k≤x.cl.length)∧(bL k (fun c=>gL (x.cl.getD c 0)))∧mS=x.cl.length-k∧Fr aS 123 [] [(3,vI k),(38,.bool false),(2,.bool false),(1,vP g1 0)]∧Mem w wS [.blk g1 x.cells 48]) (m:=x.cl.length-0) ⟨0,Nat.zero_le _,bL.zero,rfl,Z.sub kr,E.pk [0]⟩ ?_
 clear Z E;rintro mS a w_ ⟨k,hk,hu0,rfl,Z,E⟩
 refine Jb Z E ((JQ∘JP∘Jp 1∘Jg 3 O0∘Jl∘Jp 1∘bQ∘Jj) (Ju (fun kN=>?_) fun kN=>?_))
 ·
  intro a Z E
  have uZ:=of_decide_eq_true kN
  have QB:k<x.cl.length:=by omega
  refine Jb Z E ((JT∘aG∘JQ∘JB∘JP∘Jg 3 O0∘Jp 1) fun a Z E=>?_)
  obtain ⟨dU,dV,hq1,_⟩:=Rd.qd hx.l (Nat.lt_of_le_of_lt (Nat.zero_le _) (show k<x.cl.length from by omega)) de
  have aZ:=hx.l;rw [hq1] at aZ
  replace Z:=Z.sp 47 (.slice (some ⟨dU,dV,none⟩) x.cl.length x.lc) rfl (by rw [hq1];try rfl)
  refine Jb Z E ((Jy (h:=by exact Yl.ix dU dV k 1 rfl rfl rfl)∘Jy (h:=by exact Yl.o1 aZ k 0 om rfl rfl)∘Jp 2) (Ji (fun zZ=>?_) fun zZ=>?_))
  ·
   exact (Jp 7∘aF∘Jj∘JT∘JP∘Jp 1∘Jj∘JZ∘aH) fun E=>aM (q9s QB (q3v om)).symm E.below
  refine (Jg 3 O0∘Jp 1) fun a Z E=>?_
  replace Z:=Z.sp 54 (.slice (some ⟨dU,dV,none⟩) x.cl.length x.lc) rfl (by rw [hq1];try rfl)
  refine Jb Z E ((Jy (h:=by exact Yl.ix dU dV k 1 rfl rfl rfl)∘Jy (h:=by exact Yl.o1 aZ k 0 om rfl rfl)∘Jp 2∘aF∘Jj) (Ji (fun BO=>?_) fun BO=>?_))
  ·
   exact (JT∘JP∘Jp 1∘Jj∘JZ∘aH) fun E=>aM (q9s QB (q3v om)).symm E.below
  refine (JF∘aG∘JR∘Jp 1∘bn 1∘Jp 1∘aT∘Jq) fun a Z E=>?_
  exact ⟨_,om,k+1,by omega,hu0.succ (q7w om),rfl,Z.sub kr,E.pk [0]⟩
 intro a Z E
 have uZ:=of_decide_eq_false kN
 refine Jb Z E ((JF∘JX∘JG∘JQ∘JP∘Jp 1∘Jj∘JB) fun a Z E=>?_)
 refine qc (fun mS aS wS=>∃(g:Nat),(g≤x.rs.length)∧(bL g (rowOk x.aD))∧mS=x.rs.length-g∧Fr aS 123 [] [(4,vI g),(43,.bool false),(3,vI k),(38,.bool false),(2,.bool false),(1,vP g1 0)]∧Mem w wS [.blk g1 x.cells 48]) (m:=x.rs.length-0) ⟨0,Nat.zero_le _,bL.zero,rfl,Z.sub kr,E.pk [0]⟩ ?_
 clear Z E;rintro mS a w_ ⟨g,hg,hu,rfl,Z,E⟩
 refine Jb Z E ((JQ∘JP∘Jp 1∘Jg 6 O0∘Jl∘Jp 1∘bQ∘Jj) (Ju (fun wB=>?_) fun wB=>?_))
 ·
  intro a Z E
  have Kc:=of_decide_eq_true wB
  have iD:g<x.rs.length:=by omega
  obtain ⟨y,hy⟩:∃z,x.rs.getD g Rw.zero=z:=⟨_,rfl⟩
  have jG:Rd w w.heap.size 3 y.A y.l.length (y.l.flatMap jy):=by rw [←hy];exact hx.row iD
  have hyl:y.l.length≤1000000:=by rw [←hy];exact hf.r _ (qi Rw.zero iD)
  have DT:∀z∈y.l,z.Ok:=by rw [←hy,←kC iD];exact hok.sp _ (qi [] (by rw [rO];exact iD))
  obtain ⟨wt,hwt⟩:∃z,(x.gs.getD g Gr.zero).weight=z:=⟨_,rfl⟩
  have hw1:=zR hgs (show g<x.gs.length by omega)
  rw [hwt] at hw1
  obtain ⟨mW,mX,hq2,_⟩:=Rd.qd hx.g (Nat.lt_of_le_of_lt (Nat.zero_le _) (show g<x.gs.length from by omega)) de
  have iq:=hx.g;rw [hq2] at iq
  obtain ⟨lK,lM,hq3,_⟩:=Rd.qd hx.s (Nat.lt_of_le_of_lt (Nat.zero_le _) (show g<x.rs.length from iD)) de
  have gB:=hx.s;rw [hq3] at gB
  refine Jb Z E ((JT∘aG∘JQ∘JB∘JQ) fun a Z E=>?_)
  refine wp_seq ?_
  refine Jb Z E ((Vs .n []) fun Nh=>(Vf 0 6∘Vp [2]∘Vf 6 0∘Vf 7 0∘Vc 1 O0) fun a Z E HS=>?_)
  replace Z:=Z.sp 68 (.slice (some ⟨lK,lM,none⟩) x.rs.length x.sc) rfl (by rw [hq3];try rfl)
  refine Vb Z E HS ((Vy 3 (h:=by exact Yl.ix lK lM g 1 rfl rfl rfl)∘Vy 4 (v:= .slice ((x.rs.getD g Rw.zero).A) ((x.rs.getD g Rw.zero).l.length) ((x.rs.getD g Rw.zero).c)) (h:=by exact Yl.o1 gB g Rw.zero iD rfl rfl)∘Vo (.slice y.A y.l.length y.c) (by rw [hy])∘Vl 5∘Vc 8 O0∘Vp [9]∘Vd∘aF) (Jh (fun Ke=>?_) fun Ke=>?_))
  ·
   exact (JT∘JP∘Jp 1∘Jj∘JZ∘aH) fun E=>aM (q3u iD (q0z iD (by rw [hy];omega))).symm E.below
  refine (JF∘aG∘JP∘Jp 1∘Jj∘JB) fun a Z E=>?_
  refine qc (fun mS aS wS=>∃(c:Nat),(c≤y.l.length)∧(bL c (fun c=>gu x.aD g (y.l.getD c Sp.zero)))∧mS=y.l.length-c∧Fr aS 123 [] [(5,vI c),(76,.bool false),(64,.bool true),(4,vI g),(43,.bool false),(3,vI k),(38,.bool false),(2,.bool false),(1,vP g1 0)]∧Mem w wS [.blk g1 x.cells 48]) (m:=y.l.length-0) ⟨0,Nat.zero_le _,bL.zero,rfl,Z.sub kr,E.pk [0]⟩ ?_
  clear Z E;rintro mS a w_ ⟨c,hc,hu2,rfl,Z,E⟩
  refine Jb Z E ((JQ∘JP∘Jp 1∘Jg 6 O0∘Jp 1) fun a Z E=>?_)
  replace Z:=Z.sp 79 (.slice (some ⟨lK,lM,none⟩) x.rs.length x.sc) rfl (by rw [hq3];try rfl)
  refine Jb Z E ((Jy (h:=by exact Yl.ix lK lM g 1 rfl rfl rfl)∘Jy (v:= .slice ((x.rs.getD g Rw.zero).A) ((x.rs.getD g Rw.zero).l.length) ((x.rs.getD g Rw.zero).c)) (h:=by exact Yl.o1 gB g Rw.zero iD rfl rfl)∘Jo (.slice y.A y.l.length y.c) (by rw [hy])∘Jl∘Jp 1∘aF∘Jj) (Ju (fun Kg=>?_) fun Kg=>?_))
  ·
   intro a Z E
   have Z5:=of_decide_eq_true Kg
   have vH:c<y.l.length:=by omega
   obtain ⟨z,hz⟩:∃q,y.l.getD c Sp.zero=q:=⟨_,rfl⟩
   have yc:=DT _ (qi Sp.zero vH)
   rw [hz] at yc
   have hzv:=yc.v;have XC:=yc.r
   refine Jb Z E ((JT∘aG∘JQ∘JB∘JP∘Jg 6 O0∘Jp 1) fun a Z E=>?_)
   replace Z:=Z.sp 88 (.slice (some ⟨lK,lM,none⟩) x.rs.length x.sc) rfl (by rw [hq3];try rfl)
   refine Jb Z E ((Jy (h:=by exact Yl.ix lK lM g 1 rfl rfl rfl)∘Jy (v:= .slice ((x.rs.getD g Rw.zero).A) ((x.rs.getD g Rw.zero).l.length) ((x.rs.getD g Rw.zero).c)) (h:=by exact Yl.o1 gB g Rw.zero iD rfl rfl)∘Jo (.slice y.A y.l.length y.c) (by rw [hy])∘Jp 1) fun a Z E=>?_)
   obtain ⟨lX,lY,hq4,_⟩:=Rd.qd jG (Nat.lt_of_le_of_lt (Nat.zero_le _) (show c<y.l.length from by omega)) de
   have gP:=jG;rw [hq4] at gP
   replace Z:=Z.sp 91 (.slice (some ⟨lX,lY,none⟩) y.l.length y.c) rfl (by rw [hq4];try rfl)
   refine Jb Z E ((Jy (h:=by exact Yl.ix lX lY c 3 rfl rfl rfl)∘Jy (v:= .agg ((y.l.getD c Sp.zero).cells)) (h:=by exact Yl.qf rfl rfl kD rfl (fun _ h=>(h.old gP).qm vF ((getD_at Sp.zero vH))))∘Jo (.agg z.cells) (by rw [hz])∘JA #[vQ 0,vW 0,vQ 0]) fun w6 g6=>(JV kD bg (h1:=by exact Xe z)) fun ahy=>(aF∘Jj) fun a Z E=>?_)
   refine zn (fun aS wS=>Fr aS 123 [] [(122,.bool (!gu x.aD g z)),(6,vP g6 0),(84,.bool true),(5,vI c),(76,.bool false),(64,.bool true),(4,vI g),(43,.bool false),(3,vI k),(38,.bool false),(2,.bool false),(1,vP g1 0)]∧Mem w wS [.blk g6 z.cells 200,.blk g1 x.cells 48]) ?_ ?_
   ·
    refine Jb Z E ((Vs .n []) fun Z6=>(Vf 0 0∘Vf 2 1∘Vf 4 0∘Vf 5 2∘Vp [7]∘Vc 1 O0∘Vc 3 O0∘Vc 6 O1) fun a Z E HS=>?_)
    replace Z:=Z.sp 101 (.slice (some ⟨mW,mX,none⟩) x.gs.length x.gc) rfl (by rw [hq2];try rfl)
    refine Vb Z E HS ((Vy 8 (h:=by exact Yl.ix mW mX g 2 rfl rfl rfl)∘Vf 9 1∘Vy 10 (v:=vI ((x.gs.getD g Gr.zero).weight)) (h:=by exact Yl.qj rfl rfl kr (fun _ h=>(h.old iq).partAt zx (k:=g) (j:=1) (x:=(x.gs.getD g Gr.zero)) ((getD_at Gr.zero om)) rfl))∘Vo (vI wt) (by rw [hwt])∘VI 11 .n (h:=by exact fun E=>qkj z.v z.r wt om _)) fun ati hbw=>(VI 12 .n (h:=by exact fun E=>qil z.v z.r wt om om om _)) fun Py hbw=>(Vp [13,14]) fun a Z E HS=>?_)
    rcases Z.tf 109 rfl with ⟨mE,Z⟩|⟨mE,Z⟩
    ·
     refine Vb Z E HS ((Vq [15,16,17,18,19,20,21,22,23,24,25,26,27] [(122,.bool true)]∘Vd∘aF) fun a Z E=>?_)
     have Z:=Z.sp 122 (.bool (!gu x.aD g z)) rfl (congrArg Value.bool (by rw [q8w (by rw [hwt];simpa using mE)];rfl))
     exact ⟨Z.sub kr,E.pk [0,1]⟩
    refine ap Z (fun _=>HS) [15,16,17] (bt 28 [18,19,20,21,22,23,24,25,26,27]) [(112,.bool ((g:Int)==(0:Int)))] fun a Z=>?_
    refine Jb Z E (Je (fun hd112=>?_) fun hd112=>?_)
    ·
     intro a Z E
     refine ap Z (fun _=>HS) [18] (bt 28 [19,20,21,22,23,24,25,26,27]) [(113,vP g6 0)] fun a Z=>?_
     refine iJ Z HS 19 0 (v:=vQ z.v) fun a Z=>?_
     refine ap Z (fun _=>HS) [20,21] (bt 28 [22,23,24,25,26,27]) [(116,.bool (decide ((z.v:Int)>(0:Int))))] fun a Z=>?_
     refine Jb Z E (Ji (fun Ah=>?_) fun Ah=>?_)
     ·
      intro a Z E
      refine ap Z (fun _=>HS) [22,23,24,25,26,27] (bt 28 []) [(122,.bool true)] fun a Z=>?_
      refine qg kr ?_
      have Z:=Z.sp 122 (.bool (!gu x.aD g z)) rfl (congrArg Value.bool (by rw [q8x om om];rfl))
      exact ⟨Z.sub kr,E.pk [0,1]⟩
     intro a Z E
     refine ap Z (fun _=>HS) [22] (bt 28 [23,24,25,26,27]) [(117,vP g6 1)] fun a Z=>?_
     refine iJ Z HS 23 0 (v:=vW z.r) fun a Z=>?_
     refine ap Z (fun _=>HS) [24,25,26,27] (bt 28 []) [(122,.bool (decide ((z.r:Int)>(0:Int))))] fun a Z=>?_
     refine qg kr ?_
     have Z:=Z.sp 122 (.bool (!gu x.aD g z)) rfl (congrArg Value.bool (q7x (by rw [hwt];simpa using mE) om om))
     exact ⟨Z.sub kr,E.pk [0,1]⟩
    intro a Z E
    refine ap Z (fun _=>HS) [18,19,20,21,22,23,24,25,26,27] (bt 28 []) [(122,.bool false)] fun a Z=>?_
    refine qg kr ?_
    have Z:=Z.sp 122 (.bool (!gu x.aD g z)) rfl (congrArg Value.bool (by rw [q02 (by rw [hwt];simpa using mE) om];rfl))
    exact ⟨Z.sub kr,E.pk [0,1]⟩
   clear Z E;rintro a DF ⟨Z,E⟩
   refine Jb Z E (Ju (fun oW=>?_) fun oW=>?_)
   ·
    exact (JT∘JP∘Jp 1∘Jj∘JZ∘aH) fun E=>aM (q3u iD (q00 iD (by rw [hy];exact vH) (by rw [hy,hz];simpa using oW))).symm E.below
   refine (JF∘aG∘JR∘Jp 1∘bn 1∘Jp 1∘aT∘Jq) fun a Z E=>?_
   exact ⟨_,om,c+1,by omega,hu2.succ (by rw [hz];simpa using oW),rfl,Z.sub kr,E.pk [1]⟩
  intro a Z E
  have Z5:=of_decide_eq_false Kg
  refine Jb Z E ((JF∘JX∘JG∘JR∘Jp 1∘bn 1∘Jp 1∘aT∘Jq) fun a Z E=>?_)
  exact ⟨_,om,g+1,by omega,hu.succ (q01 iD (by rw [hy];omega) (by rw [hy];exact fun i hi=>hu2 i om)),rfl,Z.sub kr,E.pk [0]⟩
 intro a Z E
 have Kc:=of_decide_eq_false wB
 exact Jb Z E ((JF∘JX∘JG∘JP∘Jp 1∘Jj∘JZ∘aH) fun E=>aM (zcj hcf om (fun i hi=>hu0 i om) (fun i hi=>hu i om)).symm E.below)
theorem qxw (x:dK) (hok:x.aD.Ok) (hf:aX x) (w:World) (hx:cB w x) (hcp:1≤x.aB∧x.aB≤64) (hrs:x.rs.length=x.gs.length):
    Calls Tryz.prog 252 #[.agg x.cells] w (Is w (.bool (eB x.ts.length (fC x.aD)))):=by
 have hft:=hf.t;have hfg:=hf.g
 obtain ⟨n,hn⟩:∃n:Nat,x.aB=(n:Int):=⟨x.aB.toNat,by omega⟩
 have Il:1≤n∧n≤64:=by omega
 refine (bZ Tryz.func252 92) ?_
 refine (JP∘JE) fun w1 g1=>(Jp 1∘Jr∘Jp 1∘Jj∘JQ∘JP∘Jp 1∘Jj∘JB) fun a Z E=>?_
 refine qc (fun mS aS wS=>∃(i:Nat),(i≤x.ts.length)∧(0≤qh x.ts i)∧(bL i (fC x.aD))∧mS=x.ts.length-i∧Fr aS 92 [] [(4,vI i),(3,vI (qh x.ts i)),(2,.bool false),(1,vP g1 0)]∧Mem w wS [.blk g1 x.cells 48]) (m:=x.ts.length-0) ⟨0,Nat.zero_le _,Int.le_refl _,bL.zero,rfl,Z.sub kr,E.pk [0]⟩ ?_
 clear Z E;rintro mS a w_ ⟨i,hi,hpp,hu3,rfl,Z,E⟩
 refine Jb Z E ((JQ∘JP∘Jp 1∘Jg 5 O0∘Jl∘Jp 1∘bQ∘Jj) (Ju (fun fO=>?_) fun fO=>?_))
 ·
  intro a Z E
  have fM:=of_decide_eq_true fO
  have jH:i<x.ts.length:=by omega
  obtain ⟨t,ht⟩:∃q,x.ts.getD i Tk.zero=q:=⟨_,rfl⟩
  have rQ:t.Ok:=by rw [←ht];exact hok.ts _ (qi Tk.zero jH)
  have hti:=rQ.id
  have htv:=rQ.v;have htr:=rQ.r;have htm:=rQ.mask
  unfold bP at hti
  refine Jb Z E ((JT∘aG∘JQ∘JB∘JP∘Jg 5 O0∘Jp 1) fun a Z E=>?_)
  obtain ⟨dU,dV,hq1,_⟩:=Rd.qd hx.t (Nat.lt_of_le_of_lt (Nat.zero_le _) (show i<x.ts.length from by omega)) de
  have aZ:=hx.t;rw [hq1] at aZ
  replace Z:=Z.sp 14 (.slice (some ⟨dU,dV,none⟩) x.ts.length x.tc) rfl (by rw [hq1];try rfl)
  refine Jb Z E ((Jy (h:=by exact Yl.ix dU dV i 8 rfl rfl rfl)∘Jy (v:= .agg ((x.ts.getD i Tk.zero).cells)) (h:=by exact Yl.qf rfl rfl eU rfl (fun _ h=>(h.old aZ).qm sw ((getD_at Tk.zero jH))))∘Jo (.agg t.cells) (by rw [ht])∘JA #[vI 0,vI 0,vI 0,vI 0,vQ 0,.bool false,vQ 0,vW 0]) fun w5 g5=>(JV eU bg (h1:=by exact Lm t)) fun QC=>(jq∘Jj∘JQ∘JP∘Jg 0 O0∘Jp 3) (Ji (fun jf=>?_) fun jf=>?_))
  ·
   exact (Jv 41 [(63,.bool true)]∘eZ∘Jj∘JT∘JP∘Jp 1∘Jj∘JZ∘aH) fun E=>aM (zj jH (q3y ht om)).symm E.below
  refine (Jg 0 O0∘Jp 3) (Ji (fun hd27=>?_) fun hd27=>?_)
  ·
   exact (Jv 36 [(63,.bool true)]∘aF∘Jj∘JT∘JP∘Jp 1∘Jj∘JZ∘aH) fun E=>aM (zj jH (CZ ht (yR om))).symm E.below
  refine (Jg 1 O0∘Jp 3) (Ji (fun hd32=>?_) fun hd32=>?_)
  ·
   exact (Jv 31 [(63,.bool true)]∘aF∘Jj∘JT∘JP∘Jp 1∘Jj∘JZ∘aH) fun E=>aM (zj jH (CZ ht (yR om))).symm E.below
  refine (Jg 1 O0∘Jf 0∘Jg 2 O1∘Jl∘Jp 3) (Ji (fun J3=>?_) fun J3=>?_)
  ·
   exact (Jv 22 [(63,.bool true)]∘aF∘Jj∘JT∘JP∘Jp 1∘Jj∘JZ∘aH) fun E=>aM (zj jH (CZ ht (yR om))).symm E.below
  refine (Jg 3 O0∘Jp 3) (Ji (fun BL=>?_) fun BL=>?_)
  ·
   exact (Jv 17 [(63,.bool true)]∘aF∘Jj∘JT∘JP∘Jp 1∘Jj∘JZ∘aH) fun E=>aM (zj jH (CZ ht (yR om))).symm E.below
  refine (Jg 3 O0∘Jf 0∘Jg 0 O1∘Jp 3) (Ji (fun Z7=>?_) fun Z7=>?_)
  ·
   exact (Jv 9 [(63,.bool true)]∘aF∘Jj∘JT∘JP∘Jp 1∘Jj∘JZ∘aH) fun E=>aM (zj jH (CZ ht (yR om))).symm E.below
  refine (Jg 2 O0∘Jp 3) (Ji (fun BO=>?_) fun BO=>?_)
  ·
   exact (Jp 4∘aF∘Jj∘JT∘JP∘Jp 1∘Jj∘JZ∘aH) fun E=>aM (zj jH (CZ ht (Xh om))).symm E.below
  refine (Jg 2 O0∘Jp 2∘aF∘Jj) (Ju (fun Kh=>?_) fun Kh=>?_)
  ·
   intro a Z E
   have Z8:=of_decide_eq_true Kh
   exact Jb Z E ((JT∘JP∘Jp 1∘Jj∘JZ∘aH) fun E=>aM (zj jH (CZ ht (Xh om))).symm E.below)
  intro a Z E
  have Z8:=of_decide_eq_false Kh
  obtain ⟨k,hk⟩:∃k:Nat,t.cpu=(k:Int):=⟨t.cpu.toNat,by omega⟩
  have hsh:=Nat.div_le_self t.mask (2^k)
  refine Jb Z E ((JF∘aG∘JQ∘JP∘Jg 4 O0∘Jf 0∘Jf 0∘Jc O1∘Jo (vI n) (by rw [hn])∘JI (h:=by exact fun E=>q35 t.mask n rQ.mask Il _)) fun XA hbw=>(Jp 1) (Ju (fun yI=>?_) fun yI=>?_))
  ·
   intro a Z E
   have Z9:=of_decide_eq_true yI
   exact Jb Z E ((Jv 19 [(89,.bool true)]∘aF∘Jj∘JT∘JP∘Jp 1∘Jj∘JZ∘aH) fun E=>aM (zj jH (CZ ht (q8t (by rw [hn,Int.toNat_natCast];simpa using yI)))).symm E.below)
  intro a Z E
  have Z9:=of_decide_eq_false yI
  refine Jb Z E ((Jg 4 O0∘Jf 3∘Jc O0∘Jo (vI k) (by rw [hk])∘Jy (v:=vQ (t.mask/2^k:Nat)) (h:=by exact Yl.xZ (m:=t.mask) (n:=k) rfl rfl rfl (by show _≤64;omega))∘Jp 1∘Jo (vQ ((t.mask/2^k)%2:Nat)) (by exact zy .u64 _ 2)∘Jp 3) (Je (fun Ki=>?_) fun Ki=>?_))
  ·
   exact (Jv 10 [(89,.bool true)]∘aF∘Jj∘JT∘JP∘Jp 1∘Jj∘JZ∘aH) fun E=>aM (zj jH (CZ ht (q8u (by rw [hk,Int.toNat_natCast];omega)))).symm E.below
  refine (Jg 6 O0∘Jg 7 O0∘Jg 2 O0∘JI (h:=by exact fun E=>qkj t.v t.r t.weight om _)) fun w86 hbw=>(JI (h:=by exact fun E=>qil t.v t.r t.weight om om om _)) fun w87 hbw=>(Jp 2∘aF∘Jq) fun a Z E=>?_
  replace Z:=Z.to [(89,.bool (!(iC t.v t.r t.weight))),(63,.bool false),(5,vP g5 0),(10,.bool true),(4,vI i),(3,vI (qh x.ts i)),(2,.bool false),(1,vP g1 0)]
  refine Jb Z E (Ju (fun Kj=>?_) fun Kj=>?_)
  ·
   exact (JT∘JP∘Jp 1∘Jj∘JZ∘aH) fun E=>aM (zj jH (CZ ht ((Xi om om (by rw [hn,Int.toNat_natCast];simpa using yI) (by rw [hk,Int.toNat_natCast];omega)).trans (by simpa using Kj)))).symm E.below
  refine (JF∘aG∘JR∘Jf 0∘Jc O0∘Jo (vI (qh x.ts (i+1))) (by rw [zt,ht])∘Jp 1∘aT∘Jj∘JR∘Jp 1∘bn 1∘Jp 1∘aT∘Jq) fun a Z E=>?_
  exact ⟨_,om,i+1,by omega,by rw [zt,ht];omega,hu3.succ (ze1 ht om ((Xi om om (by rw [hn,Int.toNat_natCast];simpa using yI) (by rw [hk,Int.toNat_natCast];omega)).trans (by simpa using Kj))),rfl,Z.sub kr,E.pk [1]⟩
 intro a Z E
 have fM:=of_decide_eq_false fO
 exact Jb Z E ((JF∘JX∘JG∘JP∘Jp 1∘Jj∘JZ∘aH) fun E=>aM (q0l (fun j hj=>hu3 j om)).symm E.below)
def qth (x:dK) (c g:Nat):Prop:=∀w:World,cB w x→Calls Tryz.prog 254 #[.agg x.cells,vI g,vI c] w (q9t 382 w (dB x.aD g c))
theorem qxx (x:dK) (hok:x.aD.Ok) (hf:aX x) (hsh:ShAt x) (c:Nat) (hc:(c:Int)<x.aB) (g:Nat) (hg:g<x.rs.length) (ih:∀h,g<h→h<x.rs.length→qth x c h):qth x c g:=by
 intro w hx
 have hfs:=hf.s;have hft:=hf.t;have hfg:=hf.g;have hrl:=hsh.rs;have hto:=hok.ts
 obtain ⟨hc1,hc2,_,hgs⟩:=yS hsh.cfg
 refine (Hg Tryz.func254 84) ?_
 refine (JP∘JE) fun w3 g3=>(Jp 1∘Jr∘Jp 1∘Jq) fun a Z E=>?_
 replace E:=E.nil 382 3
 refine Jb Z E ((JG∘JQ∘JP∘Jp 1∘Jj∘JB) fun a Z E=>?_)
 refine qc (fun mS aS wS=>∃(i:Nat) (q:List Mb) (Ao:Option Addr) (co:Nat),(i≤x.ts.length)∧(q=(x.ts.take i).filterMap (su · g c))∧(q.length≤i)∧(q.length≤co)∧mS=x.ts.length-i∧Fr aS 84 [] [(8,vI i),(7,.slice Ao q.length co),(6,vN),(3,vP g3 0),(1,vI g),(2,vI c)]∧Mem w wS [.row (.slice Ao q.length co) q.length (q.flatMap lC) 382 3,.blk g3 x.cells 48]) (m:=x.ts.length-0) ⟨0,[],none,0,Nat.zero_le _,rfl,Nat.le_refl _,Nat.le_refl _,rfl,Z.sub kr,E.pk [0,1]⟩ ?_
 clear Z E;rintro mS a w_ ⟨i,q,Ao,co,hi,hq,kF,hco,rfl,Z,E⟩
 refine Jb Z E ((JQ∘JP∘Jp 1∘Jg 5 O1∘Jl∘Jp 1∘bQ∘Jj) (Ju (fun fP=>?_) fun fP=>?_))
 ·
  intro a Z E
  have kM:=of_decide_eq_true fP
  have Ez:i<x.ts.length:=by omega
  obtain ⟨t,ht⟩:∃z,(x.ts.getD i Tk.zero)=z:=⟨_,rfl⟩
  have vK:=qF (hsh.tk i Ez)
  rw [ht] at vK
  refine Jb Z E ((JT∘aG∘JQ∘JB∘JP∘Jg 5 O1∘Jp 1) fun a Z E=>?_)
  obtain ⟨dU,dV,hq1,_⟩:=Rd.qd hx.t (Nat.lt_of_le_of_lt (Nat.zero_le _) (show i<x.ts.length from by omega)) de
  have aZ:=hx.t;rw [hq1] at aZ
  replace Z:=Z.sp 19 (.slice (some ⟨dU,dV,none⟩) x.ts.length x.tc) rfl (by rw [hq1];try rfl)
  refine Jb Z E ((Jy (h:=by exact Yl.ix dU dV i 8 rfl rfl rfl)∘Jy (v:= .agg ((x.ts.getD i Tk.zero).cells)) (h:=by exact Yl.qf rfl rfl eU rfl (fun _ h=>(h.old aZ).qm sw ((getD_at Tk.zero Ez))))∘Jo (.agg t.cells) (by rw [ht])∘JA #[vI 0,vI 0,vI 0,vI 0,vQ 0,.bool false,vQ 0,vW 0]) fun w9 g9=>(JV eU bg (h1:=by exact Lm t)) fun QC=>(jq∘Jj) fun a Z E=>?_)
  refine zn (fun aS wS=>Fr aS 84 [] [(36,.bool (t.here g c)),(9,vP g9 0),(15,.bool true),(8,vI i),(7,.slice Ao q.length co),(6,vN),(3,vP g3 0),(1,vI g),(2,vI c)]∧Mem w wS [.blk g9 t.cells 232,.row (.slice Ao q.length co) q.length (q.flatMap lC) 382 3,.blk g3 x.cells 48]) ?_ ?_
  ·
   refine zg ?_
   refine Jb Z E ((Jg 5 O0∘Jp 1) (Ju (fun je=>?_) fun je=>?_))
   ·
    refine (Jg 1 O0∘Jp 4) (Je (fun hd31=>?_) fun hd31=>?_)
    ·
     refine (Jg 3 O0∘Jp 3∘aF∘Jq) fun a Z E=>?_
     have Z:=Z.sp 36 (.bool (t.here g c)) rfl (congrArg Value.bool (by unfold Tk.here;rw [je,decide_eq_true om,Bool.true_and,Bool.true_and,Bool.eq_iff_iff,beq_iff_eq,decide_eq_true_eq]))
     exact ⟨Z.sub kr,E.pk [0,1,2]⟩
    refine (Jp 5∘aF∘Jq) fun a Z E=>?_
    have Z:=Z.sp 36 (.bool (t.here g c)) rfl (congrArg Value.bool (by unfold Tk.here;rw [je,decide_eq_false om];rfl))
    exact ⟨Z.sub kr,E.pk [0,1,2]⟩
   refine (Jv 11 [(36,.bool false)]∘aT∘Jq) fun a Z E=>?_
   have Z:=Z.sp 36 (.bool (t.here g c)) rfl (congrArg Value.bool (by unfold Tk.here;rw [je];rfl))
   exact ⟨Z.sub kr,E.pk [0,1,2]⟩
  clear Z E;rintro a w6 ⟨Z,E⟩
  refine Jb Z E (Ju (fun mR=>?_) fun mR=>?_)
  ·
   intro a Z E
   have hq2:q++[(⟨t.v,0,t.id.toNat⟩:Mb)]=(x.ts.take (i+1)).filterMap (su · g c):=by rw [NS Tk.zero Ez,←hq,ht,su,if_pos mR];rfl
   refine Jb Z E ((JT∘JR∘Jp 1∘Jg 6 O0∘Jf 0∘Jc O0∘Jo (vI t.id.toNat) (by rw [Int.toNat_of_nonneg om])∘Jy (v:= .agg #[vQ t.v,vI 0,vI t.id.toNat]) (h:=by exact Yl.build (vs:=[(0,vQ t.v),(1,vI 0),(2,vI t.id.toNat)]) rfl kr kr)∘JU UJ #[vQ t.v,vI 0,vI t.id.toNat]) fun Hw Hu=>(JD ([(⟨t.v,0,t.id.toNat⟩:Mb)].flatMap lC) 2 (fun _ _=>gH) UJ (hr:=by exact fun E=>E.aN (i:=0) (n:=1) (size:=3) rfl rfl) (h1:=by exact q3w _)) fun Nv wQ wR sS=>(Jp 1∘aF∘Jq) fun a Z E=>?_)
   have BP:q.length+1=(q++[(⟨t.v,0,t.id.toNat⟩:Mb)]).length:=q0 rfl
   replace E:=E.aI (i:=2) (ys:=(q++[(⟨t.v,0,t.id.toNat⟩:Mb)]).flatMap lC) rfl BP (List.flatMap_append.symm)
   rw [BP] at sS
   replace Z:=Z.sp 7 (.slice wQ ((q++[(⟨t.v,0,t.id.toNat⟩:Mb)]).length) wR) rfl (by rw [BP])
   refine Jb Z E ((JG∘JR∘Jp 1∘bn 1∘Jp 1∘aT∘Jq) fun a Z E=>?_)
   exact ⟨_,om,i+1,(q++[(⟨t.v,0,t.id.toNat⟩:Mb)]),wQ,wR,by omega,hq2,by rw [List.length_append,show [(⟨t.v,0,t.id.toNat⟩:Mb)].length=1 from rfl];omega,sS,rfl,Z.sub kr,E.pk [2,3]⟩
  intro a Z E
  have hq2:q=(x.ts.take (i+1)).filterMap (su · g c):=by rw [NS Tk.zero Ez,←hq,ht,su,if_neg (by rw [mR];decide)];simp
  refine Jb Z E ((JF∘aG∘JR∘Jp 1∘bn 1∘Jp 1∘aT∘Jq) fun a Z E=>?_)
  exact ⟨_,om,i+1,q,Ao,co,by omega,hq2,by omega,hco,rfl,Z.sub kr,E.pk [1,2]⟩
 intro a Z E
 have kM:=of_decide_eq_false fP
 rw [List.take_of_length_le (by omega:x.ts.length≤i)] at hq
 refine Jb Z E ((JF∘JX∘JG∘JQ∘JP∘Jp 1∘Jj∘JB) fun a Z E=>?_)
 refine qc (fun mS aS wS=>∃(u:Nat) (q:List Mb) (Ao:Option Addr) (co:Nat),(1≤u)∧(u≤x.rs.length)∧(q=x.ts.filterMap (su · g c)++((((List.range x.rs.length).drop (g+1)).take (u- (g+1))).filterMap (kT x.aD c (fun u=>dB x.aD u c) g)))∧(q.length≤x.ts.length+u)∧(q.length≤co)∧mS=x.rs.length-u∧Fr aS 84 [] [(10,vI u),(15,.bool false),(8,vI i),(7,.slice Ao q.length co),(6,vN),(3,vP g3 0),(1,vI g),(2,vI c)]∧Mem w wS [.row (.slice Ao q.length co) q.length (q.flatMap lC) 382 3,.blk g3 x.cells 48]) (m:=x.rs.length-1) ⟨1,q,Ao,co,Nat.le_refl _,by omega,by rw [hq,show 1- (g+1)=0 by omega];simp,by omega,hco,rfl,Z.sub kr,E.pk [0,1]⟩ ?_
 clear Z E;rintro mS a w_ ⟨u,q,Ao,co,hgh,hh,hq,kF,hco,rfl,Z,E⟩
 refine Jb Z E ((JQ∘JP∘Jp 1∘Jg 6 O1∘Jl∘Jp 1∘bQ∘Jj) (Ju (fun uz=>?_) fun uz=>?_))
 ·
  intro a Z E
  have EA:=of_decide_eq_true uz
  have lZ:u<x.rs.length:=by omega
  refine Jb Z E ((JT∘aG∘JQ∘JB∘JP∘Jf 0∘Jg 2 O1∘Jp 1) fun a Z E=>?_)
  obtain ⟨mW,mX,hq2,_⟩:=Rd.qd hx.g (Nat.lt_of_le_of_lt (Nat.zero_le _) (show u<x.gs.length from by omega)) de
  have iq:=hx.g;rw [hq2] at iq
  replace Z:=Z.sp 54 (.slice (some ⟨mW,mX,none⟩) x.gs.length x.gc) rfl (by rw [hq2];try rfl)
  refine Jb Z E ((Jy (h:=by exact Yl.ix mW mX u 2 rfl rfl rfl)∘Jf 0∘Jy (v:=vI ((x.gs.getD u Gr.zero).parent)) (h:=by exact Yl.qj rfl rfl kr (fun _ h=>(by have:=(h.old iq).partAt zx (k:=u) (j:=0) (x:=(x.gs.getD u Gr.zero)) ((getD_at Gr.zero om)) rfl;simpa using this)))∘Jp 3) (Ju (fun oG=>?_) fun oG=>?_))
  ·
   intro a Z E
   have Ac:=eq_of_beq oG
   have hpu:=Tj ((Ll hgs).2.2.2 u om) om
   unfold gK at hpu
   have mZ:=Xn (f:=kT x.aD c (fun u=>dB x.aD u c) g) (show g+1≤u by omega) lZ
   have hml:=Z0 x u c
   refine Jb Z E ((Jy (v:= .agg x.cells) (h:=by exact Yl.qf rfl rfl dD rfl (fun _ h=>qb (h.blk (i:=1) rfl)))∘Jo (.agg x.cells) (by exact rfl)∘Jp 2∘JK (h:=by exact fun E=>ih u om om _ (hx.old E))) fun A65 c65 w65 atn=>(Jl∘Jp 2∘aF∘Jj) (Ju (fun lD=>?_) fun lD=>?_))
   ·
    intro a Z E
    have oZ:=of_decide_eq_true lD
    obtain ⟨y,hy⟩:∃z,x.rs.getD u Rw.zero=z:=⟨_,rfl⟩
    have jG:Rd w w.heap.size 3 y.A y.l.length (y.l.flatMap jy):=by rw [←hy];exact hx.row lZ
    have hyl:(y.l.length:Int)=x.aB:=by rw [←hy];exact (FD lZ (hsh.row u lZ)).1
    rw [qun lZ om (fun e=>by rw [e] at oZ;exact absurd oZ de),hy] at mZ
    refine Jb Z E ((JT∘JR∘Jp 1∘Jg 6 O2∘Jp 1) fun a Z E=>?_)
    obtain ⟨lK,lM,hq3,_⟩:=Rd.qd hx.s (Nat.lt_of_le_of_lt (Nat.zero_le _) (show u<x.rs.length from by omega)) de
    have gB:=hx.s;rw [hq3] at gB
    replace Z:=Z.sp 71 (.slice (some ⟨lK,lM,none⟩) x.rs.length x.sc) rfl (by rw [hq3];try rfl)
    refine Jb Z E ((Jy (h:=by exact Yl.ix lK lM u 1 rfl rfl rfl)∘Jy (v:= .slice ((x.rs.getD u Rw.zero).A) ((x.rs.getD u Rw.zero).l.length) ((x.rs.getD u Rw.zero).c)) (h:=by exact Yl.o1 gB u Rw.zero om rfl rfl)∘Jo (.slice y.A y.l.length y.c) (by rw [hy])∘Jp 1) fun a Z E=>?_)
    obtain ⟨lX,lY,hq4,_⟩:=Rd.qd jG (Nat.lt_of_le_of_lt (Nat.zero_le _) (show c<y.l.length from by omega)) de
    have gP:=jG;rw [hq4] at gP
    replace Z:=Z.sp 74 (.slice (some ⟨lX,lY,none⟩) y.l.length y.c) rfl (by rw [hq4];try rfl)
    refine Jb Z E ((Jy (h:=by exact Yl.ix lX lY c 3 rfl rfl rfl)∘Jf 0∘Jy (v:=vQ ((y.l.getD c Sp.zero).v)) (h:=by exact Yl.qj rfl rfl kr (fun _ h=>(by have:=(h.old gP).partAt vF (k:=c) (j:=0) (x:=(y.l.getD c Sp.zero)) ((getD_at Sp.zero om)) rfl;simpa using this)))∘Jp 1∘Jy (v:= .agg #[vQ ((y.l.getD c Sp.zero).v),vI 1,vI u]) (h:=by exact Yl.build (vs:=[(0,vQ ((y.l.getD c Sp.zero).v)),(1,vI 1),(2,vI u)]) rfl kr kr)∘JU UJ #[vQ ((y.l.getD c Sp.zero).v),vI 1,vI u]) fun w81 g81=>(JD ([(⟨(y.l.getD c Sp.zero).v,1,u⟩:Mb)].flatMap lC) 2 (fun _ _=>gH) UJ (hr:=by exact fun E=>E.aN (i:=0) (n:=1) (size:=3) rfl rfl) (h1:=by exact q3w _)) fun w82 Me Mf uy=>(Jp 1∘aF∘Jq) fun a Z E=>?_)
    have jR:q.length+1=(q++[(⟨(y.l.getD c Sp.zero).v,1,u⟩:Mb)]).length:=q0 rfl
    replace E:=E.aI (i:=2) (ys:=(q++[(⟨(y.l.getD c Sp.zero).v,1,u⟩:Mb)]).flatMap lC) rfl jR (List.flatMap_append.symm)
    rw [jR] at uy
    replace Z:=Z.sp 7 (.slice Me ((q++[(⟨(y.l.getD c Sp.zero).v,1,u⟩:Mb)]).length) Mf) rfl (by rw [jR])
    refine Jb Z E ((JG∘JR∘Jp 1∘bn 1∘Jp 1∘aT∘Jq) fun a Z E=>?_)
    exact ⟨_,om,u+1,(q++[(⟨(y.l.getD c Sp.zero).v,1,u⟩:Mb)]),Me,Mf,by omega,by omega,by rw [mZ,hq,List.append_assoc];rfl,by rw [List.length_append,show [(⟨(y.l.getD c Sp.zero).v,1,u⟩:Mb)].length=1 from rfl];omega,uy,rfl,Z.sub kr,E.pk [2,3]⟩
   intro a Z E
   have oZ:=of_decide_eq_false lD
   rw [qpn (List.length_eq_zero_iff.1 om)] at mZ
   refine Jb Z E ((JF∘aG∘JR∘Jp 1∘bn 1∘Jp 1∘aT∘Jq) fun a Z E=>?_)
   exact ⟨_,om,u+1,q,Ao,co,by omega,by omega,by rw [mZ,hq];try simp,by omega,hco,rfl,Z.sub kr,E.pk [1,2]⟩
  intro a Z E
  have Ac:=ne_of_beq_false oG
  have mZ:=q70 (g:=g) (f:=kT x.aD c (fun u=>dB x.aD u c) g) lZ (fun _=>qpm om)
  refine Jb Z E ((Jp 7∘aF∘Jj∘JF∘aG∘JR∘Jp 1∘bn 1∘Jp 1∘aT∘Jq) fun a Z E=>?_)
  exact ⟨_,om,u+1,q,Ao,co,by omega,by omega,by rw [mZ,hq];try simp,by omega,hco,rfl,Z.sub kr,E.pk [0,1]⟩
 intro a Z E
 have EA:=of_decide_eq_false uz
 have hqm:q=dB x.aD g c:=by rw [hq,Tp,rO,show u=x.rs.length by omega,q09];rfl
 exact Jb Z E ((JF∘JX∘JG∘JP∘Jp 2∘aQ∘Jj∘JZ∘aH) fun E=>q33 hqm (E.own (i:=0) rfl) hco E.below)
theorem qq4 (x:dK) (hok:x.aD.Ok) (hf:aX x) (hsh:ShAt x) (c:Nat) (hc:(c:Int)<x.aB):∀(n g:Nat),x.rs.length-g≤n→g<x.rs.length→qth x c g:=by
 intro n
 induction n with
 |zero=>intro g h1 h2;omega
 |succ n ih=>intro g h1 h2;exact qxx x hok hf hsh c hc g h2 fun h h3 h4=>ih h om h4
theorem qml (A:Option Addr) (c:Nat) (l:List Mb) (w:World) (hr:Rd w w.heap.size 3 A l.length (l.flatMap lC)) (h0:0<l.length) (hn:l.length≤2000000):
    Calls Tryz.prog 255 #[.slice A l.length c] w (Is w (.agg (Mh l).fE)):=by
 refine (bZ Tryz.func255 25) ?_
 refine (JP∘JA #[vQ 0,vI 0,vI 0]) fun w2 g2=>(Jr∘Jp 1) ?_
 repeat (first|clear Z|clear E)
 intro a Z E
 obtain ⟨gA,oA,rfl,_⟩:=hr.qd (Nat.lt_of_le_of_lt (Nat.zero_le _) (show 0<l.length from by omega)) de
 refine Jb Z E ((Jy (v:=vP gA oA) (h:=by exact Yl.indexAddr (ad:=⟨gA,oA,none⟩) (y:=0) (sz:=3) rfl rfl rfl om kr)∘Jy (v:= .agg ((l.getD 0 Mb.zero).fE)) (h:=by exact Yl.qf rfl rfl Ey rfl (fun _ h=>(h.old hr).qm ZU ((getD_at Mb.zero om))))∘JA #[vQ 0,vI 0,vI 0]) fun w3 g3=>(JV Ey bg (h1:=by exact ZV (l.getD 0 Mb.zero))) fun DC=>(bQ∘Jq) fun a Z E=>?_)
 replace E:=E.wT (i:=0) (ds:=(fF l 1).fE) rfl (by rw [q30])
 refine Jb Z E ((JG∘JQ∘JP∘Jp 1∘Jj∘JB) fun a Z E=>?_)
 refine qc (fun mS aS wS=>∃(k:Nat),(1≤k)∧(k≤l.length)∧mS=l.length-k∧Fr aS 25 [] [(4,vI k),(3,vP g3 0),(2,vP g2 0),(0,.slice (some ⟨gA,oA,none⟩) l.length c)]∧Mem w wS [.blk g3 ((fF l k).fE) 382,.blk g2 #[vQ 0,vI 0,vI 0] 382]) (m:=l.length-1) ⟨1,Nat.le_refl _,by omega,rfl,Z.sub kr,E.pk [0,1]⟩ ?_
 clear Z E;rintro mS a w_ ⟨k,hk1,hk,rfl,Z,E⟩
 refine Jb Z E ((JQ∘JP∘Jp 2∘Jl∘Jp 1∘bQ∘Jj) (Ju (fun cK=>?_) fun cK=>?_))
 ·
  intro a Z E
  have gI:=of_decide_eq_true cK
  have nV:k<l.length:=by omega
  refine Jb Z E ((JT∘aG∘JQ∘JB) fun a Z E=>?_)
  refine wp_seq ?_
  refine Jb Z E ((Vs .n []) fun wd5=>(Vp [0,1]∘Vy 2 (h:=by exact Yl.ix gA oA k 3 rfl rfl rfl)∘Vy 3 (v:= .agg ((l.getD k Mb.zero).fE)) (h:=by exact Yl.qf rfl rfl Ey rfl (fun _ h=>(h.old hr).qm ZU ((getD_at Mb.zero nV))))∘Vy 4 (v:= .agg ((fF l k).fE)) (h:=by exact Yl.qf rfl rfl Ey rfl (fun _ h=>qb (h.blk (i:=0) rfl)))∘VI 5 .n (h:=by exact fun E=>qtf (l.getD k Mb.zero) (fF l k) _)) fun FJ hbw=>(Vd∘jq) (Ju (fun gJ=>?_) fun gJ=>?_))
  ·
   refine (JT∘JR∘Jp 2∘Jy (h:=by exact Yl.ix gA oA k 3 rfl rfl rfl)∘Jy (v:= .agg ((l.getD k Mb.zero).fE)) (h:=by exact Yl.qf rfl rfl Ey rfl (fun _ h=>(h.old hr).qm ZU ((getD_at Mb.zero nV))))∘JV Ey bg (h1:=by exact ZV (l.getD k Mb.zero))) fun atp=>(KY∘Jq) fun a Z E=>?_
   replace E:=E.wT (i:=0) (ds:=(fF l (k+1)).fE) rfl (by rw [q31 hk1 nV gJ])
   refine Jb Z E ((JG∘JR∘Jp 1∘bn 1∘Jp 1∘aT∘Jq) fun a Z E=>?_)
   exact ⟨_,om,k+1,by omega,by omega,rfl,Z.sub kr,E.pk [0,1]⟩
  intro a Z E
  replace E:=E.wT (i:=0) (ds:=(fF l (k+1)).fE) rfl (by rw [q71 hk1 nV gJ])
  refine Jb Z E ((JF∘aG∘JR∘Jp 1∘bn 1∘Jp 1∘aT∘Jq) fun a Z E=>?_)
  exact ⟨_,om,k+1,by omega,by omega,rfl,Z.sub kr,E.pk [0,1]⟩
 intro a Z E
 have gI:=of_decide_eq_false cK
 refine Jb Z E ((JF∘JX∘JG∘JP∘Jy (v:= .agg ((fF l k).fE)) (h:=by exact Yl.qf rfl rfl Ey rfl (fun _ h=>qb (h.blk (i:=0) rfl)))∘JV Ey gQ (h1:=by exact ZV (fF l k))) fun Jm=>(wK∘Jj∘JZ) fun a Z E=>?_)
 exact nN rfl Z (.cellS (i:=1) Z E rfl rfl Ey rfl) (⟨by rw [q32 om],E.below⟩)
theorem qxy (x:dK) (hok:x.aD.Ok) (hf:aX x) (w:World) (hx:cB w x):
    Calls Tryz.prog 183 #[.agg x.cells] w (Is w (.bool (sV x.aD))):=by
 have Ph:=hf.s;have hft:=hf.t;have hfg:=hf.g;have hfl:=hf.l;have hfu:=hf.u
 refine (bZ Tryz.func183 83) ?_
 refine (JP∘JE) fun w1 g1=>(Jp 1∘Jj∘JQ∘JP∘Jy (v:= .agg x.cells) (h:=by exact Yl.qf rfl rfl dD rfl (fun _ h=>qb (h.blk (i:=0) rfl)))∘Jo (.agg x.cells) (by exact rfl)∘JI (h:=by exact fun E=>qtg x hok hf _ (hx.old E))) fun w9 hbw=>(Jp 2) (Ju (fun cK=>?_) fun cK=>?_)
 ·
  exact (Jp 4∘aF∘Jj∘JT∘JP∘Jp 1∘Jj∘JZ∘aH) fun E=>aM (zT (by rw [ZT,show jS x.aD=false by simpa using cK];rfl)).symm E.below
 intro a Z E
 have hsp:jS x.aD=true:=by simpa using cK
 have QD:=ze0 hsp
 obtain ⟨hc1,hc2,_,_⟩:=yS QD.cfg
 refine Jb Z E ((Jy (v:= .agg x.cells) (h:=by exact Yl.qf rfl rfl dD rfl (fun _ h=>qb (h.blk (i:=0) rfl)))∘Jo (.agg x.cells) (by exact rfl)∘JI (h:=by exact fun E=>qxw x hok hf _ (hx.old E) ⟨hc1,hc2⟩ QD.rs)) fun wP hbw=>(Jp 2∘aF∘Jj) (Ju (fun fP=>?_) fun fP=>?_))
 ·
  exact (JT∘JP∘Jp 1∘Jj∘JZ∘aH) fun E=>aM (zT (by rw [ZT,show eB x.ts.length (fC x.aD)=false by simpa using fP,Bool.and_false])).symm E.below
 intro a Z E
 have hsd:zw x.aD=true:=by rw [ZT,hsp,show eB x.ts.length (fC x.aD)=true by simpa using fP];rfl
 have hsh:=zQ hsd
 have YB:=hsh.cu
 refine Jb Z E ((JF∘aG∘JQ∘JP∘Jp 1∘Jj∘JB) fun a Z E=>?_)
 refine qc (fun mS aS wS=>∃(c:Nat),(c≤x.cu.length)∧(bL c fun c=>eP x.aD c&&eB x.rs.length fun g=>iV x.aD g c)∧mS=x.cu.length-c∧Fr aS 83 [] [(3,vI c),(15,.bool false),(2,.bool false),(1,vP g1 0)]∧Mem w wS [.blk g1 x.cells 48]) (m:=x.cu.length-0) ⟨0,Nat.zero_le _,bL.zero,rfl,Z.sub kr,E.pk [0]⟩ ?_
 clear Z E;rintro mS a w_ ⟨c,hc,hu,rfl,Z,E⟩
 refine Jb Z E ((JQ∘JP∘Jp 1∘Jf 0∘Jg 0 O0∘Jp 1∘bQ∘Jj) (Ju (fun fB=>?_) fun fB=>?_))
 ·
  intro a Z E
  have iA:=of_decide_eq_true fB
  have hc21:c<x.cu.length:=by omega
  obtain ⟨id,hid⟩:∃z,(x.cu.getD c 0)=z:=⟨_,rfl⟩
  refine Jb Z E ((JT∘aG∘JQ∘JB∘JQ∘JP∘Jg 4 O0∘Jp 1) fun a Z E=>?_)
  obtain ⟨dU,dV,hq1,_⟩:=Rd.qd hx.u (Nat.lt_of_le_of_lt (Nat.zero_le _) (show c<x.cu.length from by omega)) de
  have aZ:=hx.u;rw [hq1] at aZ
  replace Z:=Z.sp 24 (.slice (some ⟨dU,dV,none⟩) x.cu.length x.uc) rfl (by rw [hq1];try rfl)
  refine Jb Z E ((Jy (h:=by exact Yl.ix dU dV c 1 rfl rfl rfl)∘Jy (v:=vI (x.cu.getD c 0)) (h:=by exact Yl.o1 aZ c 0 om rfl rfl)∘Jo (vI id) (by rw [hid])∘Jp 1∘jq∘Jr∘Jp 2∘aQ∘Jj) (Ju (fun ou=>?_) fun ou=>?_))
  ·
   intro a Z E
   have hd29:=bne_iff_ne.1 ou
   refine Jb Z E ((JT∘JP∘Jy (v:= .agg x.cells) (h:=by exact Yl.qf rfl rfl dD rfl (fun _ h=>qb (h.blk (i:=0) rfl)))∘Jo (.agg x.cells) (by exact rfl)∘Jp 1∘JI (h:=by exact fun E=>q36 x id _ (hx.old E) hf.t)) fun w32 hbw=>(Jp 1∘bQ∘Jr∘Jp 3) (Ju (fun vZ=>?_) fun vZ=>?_))
   ·
    intro a Z E
    have lV:=of_decide_eq_true vZ
    exact Jb Z E ((Jv 18 [(53,.bool true)]∘bQ∘Jj∘JT∘JP∘Jp 1∘Jj∘JZ∘aH) fun E=>aM (wU hc21 (qln (by rw [hid];omega) (by rw [hid];exact q2p om))).symm E.below)
   intro a Z E
   have lV:=of_decide_eq_false vZ
   obtain ⟨i,hfi,hfs,hil,YC⟩:=qvg (l:=x.ts) (id:=id) om
   refine Jb Z E ((Jg 5 O0∘Jp 1∘Jo (vI i) (by rw [hfi])) fun a Z E=>?_)
   obtain ⟨mW,mX,hq2,_⟩:=Rd.qd hx.t (Nat.lt_of_le_of_lt (Nat.zero_le _) (show i<x.ts.length from by omega)) de
   have iq:=hx.t;rw [hq2] at iq
   replace Z:=Z.sp 37 (.slice (some ⟨mW,mX,none⟩) x.ts.length x.tc) rfl (by rw [hq2];try rfl)
   refine Jb Z E ((Jy (h:=by exact Yl.ix mW mX i 8 rfl rfl rfl)∘Jf 5∘Jy (v:= .bool ((x.ts.getD i Tk.zero).ready)) (h:=by exact Yl.qj rfl rfl kr (fun _ h=>(h.old iq).partAt sw (k:=i) (j:=5) (x:=(x.ts.getD i Tk.zero)) ((getD_at Tk.zero om)) rfl))∘Jp 3) (Ju (fun lq=>?_) fun lq=>?_))
   ·
    exact (Jv 9 [(53,.bool true)]∘aF∘Jj∘JT∘JP∘Jp 1∘Jj∘JZ∘aH) fun E=>aM (wU hc21 (by rw [NR (by rw [hid];omega) (by rw [hid];exact hfs),show (x.ts.getD i Tk.zero).ready=false by simpa using lq,Bool.false_and])).symm E.below
   refine (Jg 5 O0∘Jp 1∘Jo (vI i) (by rw [hfi])) fun a Z E=>?_
   replace Z:=Z.sp 46 (.slice (some ⟨mW,mX,none⟩) x.ts.length x.tc) rfl (by rw [hq2];try rfl)
   refine Jb Z E ((Jy (h:=by exact Yl.ix mW mX i 8 rfl rfl rfl)∘Jf 3∘Jy (v:=vI ((x.ts.getD i Tk.zero).cpu)) (h:=by exact Yl.qj rfl rfl kr (fun _ h=>(h.old iq).partAt sw (k:=i) (j:=3) (x:=(x.ts.getD i Tk.zero)) ((getD_at Tk.zero om)) rfl))∘Jp 3∘jq∘Jj) (Ju (fun rP=>?_) fun rP=>?_))
   ·
    intro a Z E
    have Aa:=bne_iff_ne.1 rP
    exact Jb Z E ((JT∘JP∘Jp 1∘Jj∘JZ∘aH) fun E=>aM (wU hc21 (by rw [NR (by rw [hid];omega) (by rw [hid];exact hfs),decide_eq_false om,Bool.and_false])).symm E.below)
   intro a Z E
   have Aa:=bne_eq_false_iff_eq.1 rP
   have IB:eP x.aD c=true:=by rw [NR (by rw [hid];omega) (by rw [hid];exact hfs),show (x.ts.getD i Tk.zero).ready=true by simpa using lq,decide_eq_true om];rfl
   refine Jb Z E ((JF∘aG∘JP∘Jp 1∘Jj∘JB) fun a Z E=>?_)
   refine qc (fun mS aS wS=>∃(g:Nat),(g≤x.rs.length)∧(bL g fun g=>iV x.aD g c)∧mS=x.rs.length-g∧Fr aS 83 [] [(6,vI g),(53,.bool false),(5,vI (fidx x.ts id)),(29,.bool true),(4,vI id),(20,.bool true),(3,vI c),(15,.bool false),(2,.bool false),(1,vP g1 0)]∧Mem w wS [.blk g1 x.cells 48]) (m:=x.rs.length-0) ⟨0,Nat.zero_le _,bL.zero,rfl,Z.sub kr,E.pk [0]⟩ ?_
   clear Z E;rintro mS a w_ ⟨g,hg,hu2,rfl,Z,E⟩
   refine Jb Z E ((JQ∘JP∘Jp 1∘Jg 6 O0∘Jl∘Jp 1∘bQ∘Jj) (Ju (fun ji=>?_) fun ji=>?_))
   ·
    intro a Z E
    have oV:=of_decide_eq_true ji
    have jT:g<x.rs.length:=by omega
    have hml:=Z0 x g c
    obtain ⟨y,hy⟩:∃z,x.rs.getD g Rw.zero=z:=⟨_,rfl⟩
    have jG:Rd w w.heap.size 3 y.A y.l.length (y.l.flatMap jy):=by rw [←hy];exact hx.row jT
    have hyl:(y.l.length:Int)=x.aB:=by rw [←hy];exact (FD jT (hsh.row g jT)).1
    obtain ⟨lK,lM,hq3,_⟩:=Rd.qd hx.s (Nat.lt_of_le_of_lt (Nat.zero_le _) (show g<x.rs.length from jT)) de
    have gB:=hx.s;rw [hq3] at gB
    obtain ⟨lX,lY,hq4,_⟩:=Rd.qd jG (Nat.lt_of_le_of_lt (Nat.zero_le _) (show c<y.l.length from (by omega:c<y.l.length))) de
    have gP:=jG;rw [hq4] at gP
    refine Jb Z E ((JT∘aG∘JQ∘JB∘JP∘Jy (v:= .agg x.cells) (h:=by exact Yl.qf rfl rfl dD rfl (fun _ h=>qb (h.blk (i:=0) rfl)))∘Jo (.agg x.cells) (by exact rfl)∘Jp 2∘JK (h:=by exact fun E=>qq4 x hok hf hsh c om _ g (Nat.le_refl _) jT _ (hx.old E))) fun Kk c64 w64 aad=>(Jp 1∘eZ∘Jj) fun a Z E=>?_)
    refine zn (fun aS wS=>Fr aS 83 [] [(82,.bool (!iV x.aD g c)),(7,.slice Kk ((dB x.aD g c).length) c64),(58,.bool true),(6,vI g),(53,.bool false),(5,vI (fidx x.ts id)),(29,.bool true),(4,vI id),(20,.bool true),(3,vI c),(15,.bool false),(2,.bool false),(1,vP g1 0)]∧Mem w wS [.row (.slice Kk ((dB x.aD g c).length) c64) ((dB x.aD g c).length) ((dB x.aD g c).flatMap lC) 382 3,.blk g1 x.cells 48]) ?_ ?_
    ·
     refine Jb Z E ((Vs .n []) fun Kl=>(Vp [0]∘Vl 1∘Vp [2,3]) fun a Z E HS=>?_)
     rcases Z.tf 68 rfl with ⟨lD,Z⟩|⟨lD,Z⟩
     ·
      have oZ:=of_decide_eq_true lD
      have hne:dB x.aD g c≠[]:=fun e=>by rw [e] at oZ;exact absurd oZ de
      refine Vb Z E HS ((Vp [4]∘Vf 7 6∘Vp [9,12]∘Vc 8 O1) fun a Z E HS=>?_)
      replace Z:=Z.sp 73 (.slice (some ⟨lK,lM,none⟩) x.rs.length x.sc) rfl (by rw [hq3];try rfl)
      refine Vb Z E HS ((Vy 10 (h:=by exact Yl.ix lK lM g 1 rfl rfl rfl)∘Vy 11 (v:= .slice ((x.rs.getD g Rw.zero).A) ((x.rs.getD g Rw.zero).l.length) ((x.rs.getD g Rw.zero).c)) (h:=by exact Yl.o1 gB g Rw.zero jT rfl rfl)∘Vo (.slice y.A y.l.length y.c) (by rw [hy])) fun a Z E HS=>?_)
      replace Z:=Z.sp 76 (.slice (some ⟨lX,lY,none⟩) y.l.length y.c) rfl (by rw [hq4];try rfl)
      refine Vb Z E HS ((Vy 13 (h:=by exact Yl.ix lX lY c 3 rfl rfl rfl)∘Vf 14 2∘Vy 15 (v:=vQ ((y.l.getD c Sp.zero).floor)) (h:=by exact Yl.qj rfl rfl kr (fun _ h=>(h.old gP).partAt vF (k:=c) (j:=2) (x:=(y.l.getD c Sp.zero)) ((getD_at Sp.zero om)) rfl))∘VI 5 .n (h:=by exact fun E=>qml Kk c64 (dB x.aD g c) _ (E.rd (i:=0) rfl) om om)) fun TD hbw=>(Vy 6 (v:=vQ ((Mh (dB x.aD g c)).v)) (h:=by exact Yl.field rfl rfl kr)∘Vp [16,17]∘Vd∘aF) fun a Z E=>?_)
      have Z:=Z.sp 82 (.bool (!iV x.aD g c)) rfl (congrArg Value.bool (by rw [Xp hne,Xq jT,hy,←qq2 hne (q3z hok g c),←decide_not];exact decide_eq_decide.2 om))
      exact ⟨Z.sub kr,E.pk [0,1]⟩
     have oZ:=of_decide_eq_false lD
     refine ap Z (fun _=>HS) [4,5,6,7,8,9,10,11,12,13,14,15,16,17] (bt 18 []) [(82,.bool false)] fun a Z=>?_
     refine qg kr ?_
     have Z:=Z.sp 82 (.bool (!iV x.aD g c)) rfl (congrArg Value.bool (by rw [Xo (List.length_eq_zero_iff.1 om)];rfl))
     exact ⟨Z.sub kr,E.pk [0,1]⟩
    clear Z E;rintro a CO ⟨Z,E⟩
    refine Jb Z E (Ju (fun jJ=>?_) fun jJ=>?_)
    ·
     exact (JT∘JP∘Jp 1∘Jj∘JZ∘aH) fun E=>aM (zU hc21 jT (by simpa using jJ)).symm E.below
    refine (JF∘aG∘JR∘Jp 1∘bn 1∘Jp 1∘aT∘Jq) fun a Z E=>?_
    exact ⟨_,om,g+1,by omega,hu2.succ (by simpa using jJ),rfl,Z.sub kr,E.pk [1]⟩
   intro a Z E
   have oV:=of_decide_eq_false ji
   refine Jb Z E ((JF∘JX∘JG∘JR∘Jp 1∘bn 1∘Jp 1∘aT∘Jq) fun a Z E=>?_)
   exact ⟨_,om,c+1,by omega,hu.succ (by rw [IB,Bool.true_and];exact bL.all fun i hi=>hu2 i om),rfl,Z.sub kr,E.pk [0]⟩
  intro a Z E
  have hd29:=bne_eq_false_iff_eq.1 ou
  have IB:eP x.aD c=true:=qlo (by rw [hid];omega)
  refine Jb Z E ((JF∘aG∘JP∘Jp 1∘Jj∘JB) fun a Z E=>?_)
  refine qc (fun mS aS wS=>∃(g:Nat),(g≤x.rs.length)∧(bL g fun g=>iV x.aD g c)∧mS=x.rs.length-g∧Fr aS 83 [] [(6,vI g),(29,.bool false),(4,vI id),(20,.bool true),(3,vI c),(15,.bool false),(2,.bool false),(1,vP g1 0)]∧Mem w wS [.blk g1 x.cells 48]) (m:=x.rs.length-0) ⟨0,Nat.zero_le _,bL.zero,rfl,Z.sub kr,E.pk [0]⟩ ?_
  clear Z E;rintro mS a w_ ⟨g,hg,hu2,rfl,Z,E⟩
  refine Jb Z E ((JQ∘JP∘Jp 1∘Jg 6 O0∘Jl∘Jp 1∘bQ∘Jj) (Ju (fun ji=>?_) fun ji=>?_))
  ·
   intro a Z E
   have oV:=of_decide_eq_true ji
   have jT:g<x.rs.length:=by omega
   have hml:=Z0 x g c
   obtain ⟨y,hy⟩:∃z,x.rs.getD g Rw.zero=z:=⟨_,rfl⟩
   have jG:Rd w w.heap.size 3 y.A y.l.length (y.l.flatMap jy):=by rw [←hy];exact hx.row jT
   have hyl:(y.l.length:Int)=x.aB:=by rw [←hy];exact (FD jT (hsh.row g jT)).1
   obtain ⟨qV,qW,xG,_⟩:=Rd.qd hx.s (Nat.lt_of_le_of_lt (Nat.zero_le _) (show g<x.rs.length from jT)) de
   have mF:=hx.s;rw [xG] at mF
   obtain ⟨uQ,uR,zA,_⟩:=Rd.qd jG (Nat.lt_of_le_of_lt (Nat.zero_le _) (show c<y.l.length from (by omega:c<y.l.length))) de
   have nW:=jG;rw [zA] at nW
   refine Jb Z E ((JT∘aG∘JQ∘JB∘JP∘Jy (v:= .agg x.cells) (h:=by exact Yl.qf rfl rfl dD rfl (fun _ h=>qb (h.blk (i:=0) rfl)))∘Jo (.agg x.cells) (by exact rfl)∘Jp 2∘JK (h:=by exact fun E=>qq4 x hok hf hsh c om _ g (Nat.le_refl _) jT _ (hx.old E))) fun Kk c64 w64 aad=>(Jp 1∘eZ∘Jj) fun a Z E=>?_)
   refine zn (fun aS wS=>Fr aS 83 [] [(82,.bool (!iV x.aD g c)),(7,.slice Kk ((dB x.aD g c).length) c64),(58,.bool true),(6,vI g),(29,.bool false),(4,vI id),(20,.bool true),(3,vI c),(15,.bool false),(2,.bool false),(1,vP g1 0)]∧Mem w wS [.row (.slice Kk ((dB x.aD g c).length) c64) ((dB x.aD g c).length) ((dB x.aD g c).flatMap lC) 382 3,.blk g1 x.cells 48]) ?_ ?_
   ·
    refine Jb Z E ((Vs .n []) fun Kl=>(Vp [0]∘Vl 1∘Vp [2,3]) fun a Z E HS=>?_)
    rcases Z.tf 68 rfl with ⟨lD,Z⟩|⟨lD,Z⟩
    ·
     have oZ:=of_decide_eq_true lD
     have hne:dB x.aD g c≠[]:=fun e=>by rw [e] at oZ;exact absurd oZ de
     refine Vb Z E HS ((Vp [4]∘Vf 7 6∘Vp [9,12]∘Vc 8 O1) fun a Z E HS=>?_)
     replace Z:=Z.sp 73 (.slice (some ⟨qV,qW,none⟩) x.rs.length x.sc) rfl (by rw [xG];try rfl)
     refine Vb Z E HS ((Vy 10 (h:=by exact Yl.ix qV qW g 1 rfl rfl rfl)∘Vy 11 (v:= .slice ((x.rs.getD g Rw.zero).A) ((x.rs.getD g Rw.zero).l.length) ((x.rs.getD g Rw.zero).c)) (h:=by exact Yl.o1 mF g Rw.zero jT rfl rfl)∘Vo (.slice y.A y.l.length y.c) (by rw [hy])) fun a Z E HS=>?_)
     replace Z:=Z.sp 76 (.slice (some ⟨uQ,uR,none⟩) y.l.length y.c) rfl (by rw [zA];try rfl)
     refine Vb Z E HS ((Vy 13 (h:=by exact Yl.ix uQ uR c 3 rfl rfl rfl)∘Vf 14 2∘Vy 15 (v:=vQ ((y.l.getD c Sp.zero).floor)) (h:=by exact Yl.qj rfl rfl kr (fun _ h=>(h.old nW).partAt vF (k:=c) (j:=2) (x:=(y.l.getD c Sp.zero)) ((getD_at Sp.zero om)) rfl))∘VI 5 .n (h:=by exact fun E=>qml Kk c64 (dB x.aD g c) _ (E.rd (i:=0) rfl) om om)) fun TD hbw=>(Vy 6 (v:=vQ ((Mh (dB x.aD g c)).v)) (h:=by exact Yl.field rfl rfl kr)∘Vp [16,17]∘Vd∘aF) fun a Z E=>?_)
     have Z:=Z.sp 82 (.bool (!iV x.aD g c)) rfl (congrArg Value.bool (by rw [Xp hne,Xq jT,hy,←qq2 hne (q3z hok g c),←decide_not];exact decide_eq_decide.2 om))
     exact ⟨Z.sub kr,E.pk [0,1]⟩
    have oZ:=of_decide_eq_false lD
    refine ap Z (fun _=>HS) [4,5,6,7,8,9,10,11,12,13,14,15,16,17] (bt 18 []) [(82,.bool false)] fun a Z=>?_
    refine qg kr ?_
    have Z:=Z.sp 82 (.bool (!iV x.aD g c)) rfl (congrArg Value.bool (by rw [Xo (List.length_eq_zero_iff.1 om)];rfl))
    exact ⟨Z.sub kr,E.pk [0,1]⟩
   clear Z E;rintro a CO ⟨Z,E⟩
   refine Jb Z E (Ju (fun jJ=>?_) fun jJ=>?_)
   ·
    exact (JT∘JP∘Jp 1∘Jj∘JZ∘aH) fun E=>aM (zU hc21 jT (by simpa using jJ)).symm E.below
   refine (JF∘aG∘JR∘Jp 1∘bn 1∘Jp 1∘aT∘Jq) fun a Z E=>?_
   exact ⟨_,om,g+1,by omega,hu2.succ (by simpa using jJ),rfl,Z.sub kr,E.pk [1]⟩
  intro a Z E
  have oV:=of_decide_eq_false ji
  refine Jb Z E ((JF∘JX∘JG∘JR∘Jp 1∘bn 1∘Jp 1∘aT∘Jq) fun a Z E=>?_)
  exact ⟨_,om,c+1,by omega,hu.succ (by rw [IB,Bool.true_and];exact bL.all fun i hi=>hu2 i om),rfl,Z.sub kr,E.pk [0]⟩
 intro a Z E
 have iA:=of_decide_eq_false fB
 exact Jb Z E ((JF∘JX∘JG∘JP∘Jp 1∘Jj∘JZ∘aH) fun E=>aM (FE hsd (fun i hi=>hu i om)).symm E.below)
theorem zck:EI Tryz.prog 319 9 (.string (ByteArray.mk #[])) 1 16:=⟨by kernel_rfl,by kernel_rfl,rfl,by omega⟩
theorem qx0 (w:World):
    Calls Tryz.prog 186 #[] w (q73 9 w):=by
 refine (JN0 Tryz.func186 2) ?_
 refine (JP∘Jp 1∘Jr∘JU zck #[.string (ByteArray.mk #[104,101,97,100]),.string (ByteArray.mk #[110,101,120,116]),.string (ByteArray.mk #[99,111,110,102,105,103]),.string (ByteArray.mk #[103,114,111,117,112,115]),.string (ByteArray.mk #[99,108,111,99,107,115]),.string (ByteArray.mk #[99,117,114,114,101,110,116]),.string (ByteArray.mk #[116,97,115,107,115]),.string (ByteArray.mk #[115,112,111,116,115]),.string (ByteArray.mk #[115,117,109])]) fun w1 g1=>(Jp 1∘aQ∘Jq) fun a Z E=>?_
 replace E:=(E.dJ (i:=0) (n:=9) (size:=1) rfl rfl de).lN (i:=0) (ys:=nL.map Km) rfl kr
 exact Jb Z E ((JG∘JZ∘aH) fun E=>by exact ⟨⟨_,rfl,E.own (i:=0) rfl⟩,E.below⟩)
theorem qmm (s:bH) (hok:s.st.aD.Ok) (hf:aX s.st) (w:World) (hx:cB w s.st):
    Calls Tryz.prog 135 #[.agg s.cells] w (Is w (vI (bJ s:Int))):=by
 refine (bZ Tryz.func135 15) ?_
 refine (JP∘JE) fun w1 g1=>(Jp 1∘Jj∘JQ∘JP∘Jg 0 O0∘Jp 2) (Ji (fun hd6=>?_) fun hd6=>?_)
 ·
  exact (Jp 4∘aF∘Jj∘JT∘JP∘Jp 1∘Jj∘JZ∘aH) fun E=>by exact ⟨by rw [TG om];rfl,E.below⟩
 refine (Jg 0 O0∘Jp 2∘jq∘Jj) (Ji (fun fM=>?_) fun fM=>?_)
 ·
  exact (JT∘JP∘Jp 1∘Jj∘JZ∘aH) fun E=>by exact ⟨by rw [TG om];rfl,E.below⟩
 refine (JF∘aG∘JQ∘JP∘Jf 1∘Jy (v:= .agg #[vI s.st.aB,vQ s.st.ak,.slice s.st.gA s.st.gs.length s.st.gc,.slice s.st.lA s.st.cl.length s.st.lc,.slice s.st.uA s.st.cu.length s.st.uc,.slice s.st.tA s.st.ts.length s.st.tc,.slice s.st.sA s.st.rs.length s.st.sc]) (h:=by exact Yl.qf rfl rfl dD rfl (fun _ h=>h.sub (i:=0) rfl 1 rfl))∘Jo (.agg s.st.cells) (by exact rfl)∘JI (h:=by exact fun E=>qxy s.st hok hf _ (hx.old E))) fun wP hbw=>(Jp 1∘bQ∘Jj) (Ju (fun fZ=>?_) fun fZ=>?_)
 ·
  exact (JT∘JP∘Jp 1∘Jj∘JZ∘aH) fun E=>by exact ⟨by rw [qpt om (by simpa using fZ)];rfl,E.below⟩
 exact (JF∘aG∘JP∘Jp 1∘Jj∘JZ∘aH) fun E=>by exact ⟨by rw [qpu om (by simpa using fZ)];rfl,E.below⟩
theorem zcl (s:bH) (hok:s.st.aD.Ok) (hf:aX s.st) (hsh:ShAt s.st) (nm:ByteArray) (w:World) (hx:cB w s.st):
    Calls Tryz.prog 187 #[.agg s.cells,.string nm] w (yV w (ofR s nm)):=by
 have hgl:=hf.g;have htl:=hf.t;have hll:=hf.l;have Zf:=hf.u;have hrl:=hf.s
 have hg1:=(Ll (yS hsh.cfg).2.2.2).1
 obtain ⟨hc1,hc2,_,_⟩:=yS hsh.cfg
 have Gs:=hok.ak
 replace Gs:s.st.ak<18446744073709551616:=Gs
 refine (jw Tryz.func187 223) ?_
 refine (JP∘JE) fun w2 g2=>(Jp 1∘Jr∘Jp 1∘Jq) fun a Z E=>?_
 replace E:=E.nil 41 1
 refine Jb Z E ((JG∘JP∘Jf 1∘Jy (v:= .agg #[vI s.st.aB,vQ s.st.ak,.slice s.st.gA s.st.gs.length s.st.gc,.slice s.st.lA s.st.cl.length s.st.lc,.slice s.st.uA s.st.cu.length s.st.uc,.slice s.st.tA s.st.ts.length s.st.tc,.slice s.st.sA s.st.rs.length s.st.sc]) (h:=by exact Yl.qf rfl rfl dD rfl (fun _ h=>h.sub (i:=1) rfl 1 rfl))∘Jo (.agg s.st.cells) (by exact rfl)∘JA #[vI 0,vQ 0,vN,vN,vN,vN,vN]) fun w6 g6=>(JV dD bg (h1:=by exact NM s.st)) fun tK=>(aT∘Jj∘JQ∘JP∘Jp 1∘Jj∘JB∘JP∘Jp 2∘aQ∘Jj) (Ju (fun gJ=>?_) fun gJ=>?_))
 ·
  refine (JT∘JR∘Jp 1∘Jg 0 O2∘Jv 1 [(24,vQ (IntKind.u64.wrap s.next))]∘Jo (vQ (ay s.next)) (by exact zl _)∘JU qt #[vQ (ay s.next)]) fun Le g25=>(JD ([ay s.next].map aR) 2 (fun _ _=>gH) qt (hr:=by exact fun E=>E.aN (i:=0) (n:=1) (size:=1) rfl rfl) (h1:=by exact zm _)) fun vJ dh bN bD=>(Jp 1∘jq∘Jq) fun a Z E=>?_
  have BQ:0+1=[ay s.next].length:=rfl
  replace E:=E.aI (i:=2) (ys:=[ay s.next].map aR) rfl BQ (rfl)
  rw [BQ] at bD
  replace Z:=Z.sp 5 (.slice dh ([ay s.next].length) bN) rfl (by rw [BQ])
  exact Jb Z E ((JG∘JP∘Jp 2∘aQ∘Jj∘JZ∘aH) fun E=>zd ((show _=aK s 0 from rfl).trans (Eq.symm (Gp gJ))) (E.own (i:=2) rfl) bD E.below)
 refine (JF∘JP∘Jp 2∘aQ∘Jj) (Ju (fun j5=>?_) fun j5=>?_)
 ·
  refine (JT∘JR∘Jp 1∘Jf 0∘Jg 0 O0∘Jv 1 [(33,vQ (IntKind.u64.wrap s.st.aB))]∘Jo (vQ (ay s.st.aB)) (by exact zl _)∘Jf 0∘Jg 1 O0∘Jf 0∘Jg 2 O0∘Jl∘Jw .u64∘JU qt #[vQ (ay s.st.aB),vQ s.st.ak,vQ s.st.gs.length]) fun NV g42=>(JD ([ay s.st.aB,s.st.ak,s.st.gs.length].map aR) 2 (fun _ _=>gH) qt (hr:=by exact fun E=>E.aN (i:=0) (n:=3) (size:=1) rfl rfl) (h1:=by exact zm _)) fun Hw UG UH BK=>(Jp 1∘aF∘Jq) fun a Z E=>?_
  have oQ:0+3=[ay s.st.aB,s.st.ak,s.st.gs.length].length:=rfl
  replace E:=E.aI (i:=2) (ys:=[ay s.st.aB,s.st.ak,s.st.gs.length].map aR) rfl oQ (rfl)
  rw [oQ] at BK
  replace Z:=Z.sp 5 (.slice UG ([ay s.st.aB,s.st.ak,s.st.gs.length].length) UH) rfl (by rw [oQ])
  exact Jb Z E ((JG∘JP∘Jp 2∘aQ∘Jj∘JZ∘aH) fun E=>zd ((show _=aK s 1 from rfl).trans (Eq.symm ((cZ gJ).trans (Gp j5)))) (E.own (i:=2) rfl) BK E.below)
 refine (JF∘JP∘Jp 2∘aQ∘Jj) (Ju (fun lq=>?_) fun lq=>?_)
 ·
  refine (JT∘JP∘Jp 1∘Jj∘JB) fun a Z E=>?_
  refine qc (fun mS aS wS=>∃(g:Nat) (q:List Nat) (Ao:Option Addr) (co:Nat),(1≤g)∧(g≤s.st.gs.length)∧(q=eG (g-1) (yT s.st.gs))∧(q.length≤2*(g-1))∧(q.length≤co)∧mS=s.st.gs.length-g∧Fr aS 223 [] [(7,vI g),(44,.bool true),(27,.bool false),(19,.bool false),(18,.string nm),(6,vP g6 0),(5,.slice Ao q.length co),(4,vN),(2,vP g2 0)]∧Mem w wS [.blk g6 s.st.cells 48,.row (.slice Ao q.length co) q.length (q.map aR) 41 1,.blk g2 s.cells 180]) (m:=s.st.gs.length-1) ⟨1,[],none,0,Nat.le_refl _,by omega,rfl,Nat.le_refl _,Nat.le_refl _,rfl,Z.sub kr,E.pk [0,1,2]⟩ ?_
  clear Z E;rintro mS a w_ ⟨g,q,Ao,co,hg1,hg,hq,kF,hco,rfl,Z,E⟩
  refine Jb Z E ((JQ∘JP∘Jp 1∘Jf 0∘Jg 2 O0∘Jl∘Jp 1∘eZ∘Jj) (Ju (fun Ko=>?_) fun Ko=>?_))
  ·
   intro a Z E
   have J4:=of_decide_eq_true Ko
   have Kq:g<s.st.gs.length:=by omega
   obtain ⟨dU,dV,hq1,_⟩:=Rd.qd hx.g (Nat.lt_of_le_of_lt (Nat.zero_le _) (show g<s.st.gs.length from Kq)) de
   have aZ:=hx.g;rw [hq1] at aZ
   refine Jb Z E ((JT∘aG∘JQ∘JB∘Vs (.t (.f .n)) []) fun aaf=>(Vp [0]∘Vf 1 0∘Vf 2 2∘Vp [4]∘Vf 9 0∘Vf 10 2∘Vp [12]∘Vc 3 O0) fun a Z E HS=>?_)
   replace Z:=Z.sp 57 (.slice (some ⟨dU,dV,none⟩) s.st.gs.length s.st.gc) rfl (by rw [hq1];try rfl)
   refine Vb Z E HS ((Vy 5 (h:=by exact Yl.ix dU dV g 2 rfl rfl rfl)∘Vf 6 0∘Vy 7 (v:=vI ((s.st.gs.getD g Gr.zero).parent)) (h:=by exact Yl.qj rfl rfl kr (fun _ h=>(by have:=(h.old aZ).partAt zx (k:=g) (j:=0) (x:=(s.st.gs.getD g Gr.zero)) ((getD_at Gr.zero Kq)) rfl;simpa using this)))∘Vq [8] [(62,vQ (IntKind.u64.wrap ((s.st.gs.getD g Gr.zero).parent)))]∘Vo (vQ (ay (s.st.gs.getD g Gr.zero).parent)) (by exact zl _)∘Vc 11 O0) fun a Z E HS=>?_)
   replace Z:=Z.sp 65 (.slice (some ⟨dU,dV,none⟩) s.st.gs.length s.st.gc) rfl (by rw [hq1];try rfl)
   refine Vb Z E HS ((Vy 13 (h:=by exact Yl.ix dU dV g 2 rfl rfl rfl)∘Vf 14 1∘Vy 15 (v:=vI ((s.st.gs.getD g Gr.zero).weight)) (h:=by exact Yl.qj rfl rfl kr (fun _ h=>(h.old aZ).partAt zx (k:=g) (j:=1) (x:=(s.st.gs.getD g Gr.zero)) ((getD_at Gr.zero Kq)) rfl))∘Vq [16] [(70,vQ (IntKind.u64.wrap ((s.st.gs.getD g Gr.zero).weight)))]∘Vo (vQ (ay (s.st.gs.getD g Gr.zero).weight)) (by exact zl _)) fun a Z E HS=>?_)
   refine s_on Z 17 rfl (lT Z E qt [(0,vQ (ay (s.st.gs.getD g Gr.zero).parent)),(1,vQ (ay (s.st.gs.getD g Gr.zero).weight))] #[vQ (ay (s.st.gs.getD g Gr.zero).parent),vQ (ay (s.st.gs.getD g Gr.zero).weight)] ?_)
   clear Z E;intro a w71 g71 Z E
   refine au (E.pk [1,3]) (fun HS=>?_)
   refine s_on Z 18 rfl (qz Z E (i:=2) rfl qt rfl rfl rfl (news:=([ay (s.st.gs.getD g Gr.zero).parent,ay (s.st.gs.getD g Gr.zero).weight].map aR)) (E.aN (i:=0) (n:=2) (size:=1) rfl rfl) (zm _) om om rfl de ?_)
   clear Z E;intro a w72 A72 c72 Z E QE
   refine au (E.pk [1,3]) (fun HS=>?_)
   refine Vb Z E HS ((Vp [19]∘Vd∘aF) fun a Z E=>?_)
   have BR:q.length+2=(q++[ay (s.st.gs.getD g Gr.zero).parent,ay (s.st.gs.getD g Gr.zero).weight]).length:=q0 rfl
   replace E:=E.aI (i:=2) (ys:=(q++[ay (s.st.gs.getD g Gr.zero).parent,ay (s.st.gs.getD g Gr.zero).weight]).map aR) rfl BR (List.map_append.symm)
   rw [BR] at QE
   replace Z:=Z.sp 5 (.slice A72 ((q++[ay (s.st.gs.getD g Gr.zero).parent,ay (s.st.gs.getD g Gr.zero).weight]).length) c72) rfl (by rw [BR])
   refine Jb Z E ((JG∘JR∘Jp 1∘bn 1∘Jp 1∘aT∘Jq) fun a Z E=>?_)
   exact ⟨_,om,g+1,(q++[ay (s.st.gs.getD g Gr.zero).parent,ay (s.st.gs.getD g Gr.zero).weight]),A72,c72,by omega,by omega,by rw [show g+1-1=(g-1)+1 by omega,qr,←hq,ze3 hg1],by rw [List.length_append,show [ay (s.st.gs.getD g Gr.zero).parent,ay (s.st.gs.getD g Gr.zero).weight].length=2 from rfl];omega,QE,rfl,Z.sub kr,E.pk [1,2,3]⟩
  intro a Z E
  have J4:=of_decide_eq_false Ko
  exact Jb Z E ((JF∘JX∘JG∘JP∘Jp 2∘aQ∘Jj∘JZ∘aH) fun E=>zd ((show _=aK s 2 from by rw [hq,show g=s.st.gs.length by omega];rfl).trans (Eq.symm ((cZ gJ).trans ((cZ j5).trans (Gp lq))))) (E.own (i:=1) rfl) hco E.below)
 refine (JF∘JP∘Jp 2∘aQ∘Jj) (Ju (fun yJ=>?_) fun yJ=>?_)
 ·
  refine (JT∘JP∘Jp 1∘Jj∘JB) fun a Z E=>?_
  refine qc (fun mS aS wS=>∃(k:Nat) (q:List Nat) (Ao:Option Addr) (co:Nat),(k≤s.st.cl.length)∧(q=(s.st.cl.take k).map ay)∧(q.length≤k)∧(q.length≤co)∧mS=s.st.cl.length-k∧Fr aS 223 [] [(8,vI k),(73,.bool true),(44,.bool false),(27,.bool false),(19,.bool false),(18,.string nm),(6,vP g6 0),(5,.slice Ao q.length co),(4,vN),(2,vP g2 0)]∧Mem w wS [.blk g6 s.st.cells 48,.row (.slice Ao q.length co) q.length (q.map aR) 41 1,.blk g2 s.cells 180]) (m:=s.st.cl.length-0) ⟨0,[],none,0,Nat.zero_le _,rfl,Nat.le_refl _,Nat.le_refl _,rfl,Z.sub kr,E.pk [0,1,2]⟩ ?_
  clear Z E;rintro mS a w_ ⟨k,q,Ao,co,hk,hq,kF,hco,rfl,Z,E⟩
  refine Jb Z E ((JQ∘JP∘Jp 1∘Jg 3 O0∘Jl∘Jp 1∘bQ∘Jj) (Ji (fun Ki=>?_) fun Ki=>?_))
  ·
   refine (JT∘aG∘JQ∘JB∘JR∘Jp 1∘Jg 3 O0∘Jp 1) fun a Z E=>?_
   obtain ⟨mW,mX,hq2,_⟩:=Rd.qd hx.l (Nat.lt_of_le_of_lt (Nat.zero_le _) (show k<s.st.cl.length from by omega)) de
   have iq:=hx.l;rw [hq2] at iq
   replace Z:=Z.sp 84 (.slice (some ⟨mW,mX,none⟩) s.st.cl.length s.st.lc) rfl (by rw [hq2];try rfl)
   refine Jb Z E ((Jy (h:=by exact Yl.ix mW mX k 1 rfl rfl rfl)∘Jy (h:=by exact Yl.o1 iq k 0 om rfl rfl)∘Jv 1 [(88,vQ (IntKind.u64.wrap (s.st.cl.getD k 0)))]∘Jo (vQ (ay (s.st.cl.getD k 0))) (by exact zl _)∘JU qt #[vQ (ay (s.st.cl.getD k 0))]) fun w89 g89=>(JD ([ay (s.st.cl.getD k 0)].map aR) 2 (fun _ _=>gH) qt (hr:=by exact fun E=>E.aN (i:=0) (n:=1) (size:=1) rfl rfl) (h1:=by exact zm _)) fun w90 A90 c90 hc90=>(Jp 1∘jq∘Jq) fun a Z E=>?_)
   have BS:q.length+1=(q++[ay (s.st.cl.getD k 0)]).length:=q0 rfl
   replace E:=E.aI (i:=2) (ys:=(q++[ay (s.st.cl.getD k 0)]).map aR) rfl BS (List.map_append.symm)
   rw [BS] at hc90
   replace Z:=Z.sp 5 (.slice A90 ((q++[ay (s.st.cl.getD k 0)]).length) c90) rfl (by rw [BS])
   refine Jb Z E ((JG∘JR∘Jp 1∘bn 1∘Jp 1∘aT∘Jq) fun a Z E=>?_)
   exact ⟨_,om,k+1,(q++[ay (s.st.cl.getD k 0)]),A90,c90,by omega,by rw [hq,Xu om],by rw [List.length_append,show [ay (s.st.cl.getD k 0)].length=1 from rfl];omega,hc90,rfl,Z.sub kr,E.pk [1,2,3]⟩
  exact (JF∘JX∘JG∘JP∘Jp 2∘aQ∘Jj∘JZ∘aH) fun E=>zd ((show _=aK s 3 from by rw [hq,List.take_of_length_le om];rfl).trans (Eq.symm ((cZ gJ).trans ((cZ j5).trans ((cZ lq).trans (Gp yJ)))))) (E.own (i:=1) rfl) hco E.below
 refine (JF∘JP∘Jp 2∘aQ∘Jj) (Ju (fun mY=>?_) fun mY=>?_)
 ·
  refine (JT∘JP∘Jp 1∘Jj∘JB) fun a Z E=>?_
  refine qc (fun mS aS wS=>∃(k:Nat) (q:List Nat) (Ao:Option Addr) (co:Nat),(k≤s.st.cu.length)∧(q=(s.st.cu.take k).map ay)∧(q.length≤k)∧(q.length≤co)∧mS=s.st.cu.length-k∧Fr aS 223 [] [(9,vI k),(91,.bool true),(73,.bool false),(44,.bool false),(27,.bool false),(19,.bool false),(18,.string nm),(6,vP g6 0),(5,.slice Ao q.length co),(4,vN),(2,vP g2 0)]∧Mem w wS [.blk g6 s.st.cells 48,.row (.slice Ao q.length co) q.length (q.map aR) 41 1,.blk g2 s.cells 180]) (m:=s.st.cu.length-0) ⟨0,[],none,0,Nat.zero_le _,rfl,Nat.le_refl _,Nat.le_refl _,rfl,Z.sub kr,E.pk [0,1,2]⟩ ?_
  clear Z E;rintro mS a w_ ⟨k,q,Ao,co,hk,hq,kF,hco,rfl,Z,E⟩
  refine Jb Z E ((JQ∘JP∘Jp 1∘Jg 4 O0∘Jl∘Jp 1∘bQ∘Jj) (Ji (fun aag=>?_) fun aag=>?_))
  ·
   refine (JT∘aG∘JQ∘JB∘JR∘Jp 1∘Jg 4 O0∘Jp 1) fun a Z E=>?_
   obtain ⟨lK,lM,hq3,_⟩:=Rd.qd hx.u (Nat.lt_of_le_of_lt (Nat.zero_le _) (show k<s.st.cu.length from by omega)) de
   have gB:=hx.u;rw [hq3] at gB
   replace Z:=Z.sp 102 (.slice (some ⟨lK,lM,none⟩) s.st.cu.length s.st.uc) rfl (by rw [hq3];try rfl)
   refine Jb Z E ((Jy (h:=by exact Yl.ix lK lM k 1 rfl rfl rfl)∘Jy (h:=by exact Yl.o1 gB k 0 om rfl rfl)∘Jv 1 [(106,vQ (IntKind.u64.wrap (s.st.cu.getD k 0)))]∘Jo (vQ (ay (s.st.cu.getD k 0))) (by exact zl _)∘JU qt #[vQ (ay (s.st.cu.getD k 0))]) fun Py atD=>(JD ([ay (s.st.cu.getD k 0)].map aR) 2 (fun _ _=>gH) qt (hr:=by exact fun E=>E.aN (i:=0) (n:=1) (size:=1) rfl rfl) (h1:=by exact zm _)) fun atE QF QG Gt=>(Jp 1∘jq∘Jq) fun a Z E=>?_)
   have wC:q.length+1=(q++[ay (s.st.cu.getD k 0)]).length:=q0 rfl
   replace E:=E.aI (i:=2) (ys:=(q++[ay (s.st.cu.getD k 0)]).map aR) rfl wC (List.map_append.symm)
   rw [wC] at Gt
   replace Z:=Z.sp 5 (.slice QF ((q++[ay (s.st.cu.getD k 0)]).length) QG) rfl (by rw [wC])
   refine Jb Z E ((JG∘JR∘Jp 1∘bn 1∘Jp 1∘aT∘Jq) fun a Z E=>?_)
   exact ⟨_,om,k+1,(q++[ay (s.st.cu.getD k 0)]),QF,QG,by omega,by rw [hq,Xu om],by rw [List.length_append,show [ay (s.st.cu.getD k 0)].length=1 from rfl];omega,Gt,rfl,Z.sub kr,E.pk [1,2,3]⟩
  exact (JF∘JX∘JG∘JP∘Jp 2∘aQ∘Jj∘JZ∘aH) fun E=>zd ((show _=aK s 4 from by rw [hq,List.take_of_length_le om];rfl).trans (Eq.symm ((cZ gJ).trans ((cZ j5).trans ((cZ lq).trans ((cZ yJ).trans (Gp mY))))))) (E.own (i:=1) rfl) hco E.below
 refine (JF∘JP∘Jp 2∘aQ∘Jj) (Ju (fun mE=>?_) fun mE=>?_)
 ·
  refine (JT∘JP∘Jp 1∘Jg 5 O0∘Jl∘Jw .u64∘JU qt #[vQ s.st.ts.length]) fun atF aah=>(JD ([s.st.ts.length].map aR) 2 (fun _ _=>gH) qt (hr:=by exact fun E=>E.aN (i:=0) (n:=1) (size:=1) rfl rfl) (h1:=by exact zm _)) fun YM QI c117 Gu=>(Jp 1∘aF∘Jq) fun a Z E=>?_
  have wD:0+1=[s.st.ts.length].length:=rfl
  replace E:=E.aI (i:=2) (ys:=[s.st.ts.length].map aR) rfl wD (rfl)
  rw [wD] at Gu
  replace Z:=Z.sp 5 (.slice QI ([s.st.ts.length].length) c117) rfl (by rw [wD])
  refine Jb Z E ((JG∘JP∘Jp 1∘Jj∘JB) fun a Z E=>?_)
  refine qc (fun mS aS wS=>∃(i:Nat) (q:List Nat) (Ao:Option Addr) (co:Nat),(i≤s.st.ts.length)∧(0≤qh s.st.ts i∧qh s.st.ts i≤65535)∧(q=[s.st.ts.length]++eG i fun i=>sD (qh s.st.ts i) (s.st.ts.getD i Tk.zero))∧(q.length≤8*i+1)∧(q.length≤co)∧mS=s.st.ts.length-i∧Fr aS 223 [] [(10,vI i),(5,.slice Ao q.length co),(109,.bool true),(91,.bool false),(73,.bool false),(44,.bool false),(27,.bool false),(19,.bool false),(18,.string nm),(6,vP g6 0),(4,vN),(2,vP g2 0)]∧Mem w wS [.blk aah #[vQ s.st.ts.length] 41,.blk g6 s.st.cells 48,.row (.slice Ao q.length co) q.length (q.map aR) 41 1,.blk g2 s.cells 180]) (m:=s.st.ts.length-0) ⟨0,[s.st.ts.length],QI,c117,Nat.zero_le _,by rw [qjv];decide,by rw [qc2,List.append_nil],Nat.le_refl _,Gu,rfl,Z.sub kr,E.pk [0,1,2,3]⟩ ?_
  clear Z E;rintro mS a w_ ⟨i,q,Ao,co,hi,hp,hq,kF,hco,rfl,Z,E⟩
  refine Jb Z E ((JQ∘JP∘Jp 1∘Jg 5 O1∘Jl∘Jp 1∘bQ∘Jj) (Ju (fun oW=>?_) fun oW=>?_))
  ·
   intro a Z E
   have QJ:=of_decide_eq_true oW
   have BU:i<s.st.ts.length:=by omega
   obtain ⟨t,ht⟩:∃z,(s.st.ts.getD i Tk.zero)=z:=⟨_,rfl⟩
   have vK:=qF (hsh.tk i BU)
   rw [ht] at vK
   have hto:=hok.ts _ (qi Tk.zero BU)
   replace hto:Tk.Ok t:=by rw [←ht];exact hto
   have htr:=hto.r
   refine Jb Z E ((JT∘aG∘JQ∘JB∘JP∘Jg 5 O1∘Jp 1) fun a Z E=>?_)
   obtain ⟨lX,lY,hq4,_⟩:=Rd.qd hx.t (Nat.lt_of_le_of_lt (Nat.zero_le _) (show i<s.st.ts.length from by omega)) de
   have gP:=hx.t;rw [hq4] at gP
   replace Z:=Z.sp 126 (.slice (some ⟨lX,lY,none⟩) s.st.ts.length s.st.tc) rfl (by rw [hq4];try rfl)
   refine Jb Z E ((Jy (h:=by exact Yl.ix lX lY i 8 rfl rfl rfl)∘Jy (v:= .agg ((s.st.ts.getD i Tk.zero).cells)) (h:=by exact Yl.qf rfl rfl eU rfl (fun _ h=>(h.old gP).qm sw ((getD_at Tk.zero BU))))∘Jo (.agg t.cells) (by rw [ht])∘JA #[vI 0,vI 0,vI 0,vI 0,vQ 0,.bool false,vQ 0,vW 0]) fun wN g11=>(JV eU bg (h1:=by exact Lm t)) fun ahL=>(jq∘Jr∘Jg 0 O0∘Jp 1∘aQ∘Jj∘JQ∘JP∘Jp 2∘aQ∘Jj) (Ju (fun BX=>?_) fun BX=>?_))
   ·
    intro a Z E
    have QK:=of_decide_eq_true BX
    have hpp:=qxz (l:=s.st.ts) (show 0<i by omega)
    refine Jb Z E ((JT∘JR∘Jp 1∘Jg 5 O2∘Jp 1∘yO 1) fun a Z E=>?_)
    replace Z:=Z.sp 136 (.slice (some ⟨lX,lY,none⟩) s.st.ts.length s.st.tc) rfl (by rw [hq4];try rfl)
    refine Jb Z E ((Jy (h:=by exact Yl.ix lX lY (i-1) 8 rfl rfl rfl)∘Jf 0∘Jy (v:=vI ((s.st.ts.getD (i-1) Tk.zero).id)) (h:=by exact Yl.qj rfl rfl kr (fun _ h=>(by have:=(h.old gP).partAt sw (k:=(i-1)) (j:=0) (x:=(s.st.ts.getD (i-1) Tk.zero)) ((getD_at Tk.zero om)) rfl;simpa using this)))∘Jp 1∘Jo (vI (t.id-qh s.st.ts i)) (by rw [hpp];exact Dp ⟨by omega,by omega⟩)∘Jp 1∘eZ∘Jr∘Jp 1∘Jj∘JQ∘JP∘Jg 5 O0∘Jj) (Ju (fun o7=>?_) fun o7=>?_))
    ·
     refine (JT∘JR∘Jp 1∘Jj∘JR∘Jp 2∘Jv 1 [(147,vQ (IntKind.u64.wrap (t.id-qh s.st.ts i)))]∘Jo (vQ (ay (t.id-qh s.st.ts i))) (by exact zl _)∘Jg 1 O0∘Jv 1 [(150,vQ (IntKind.u64.wrap t.group))]∘Jo (vQ (ay t.group)) (by exact zl _)∘Jg 2 O0∘Jv 1 [(153,vQ (IntKind.u64.wrap t.weight))]∘Jo (vQ (ay t.weight)) (by exact zl _)∘Jg 3 O0∘Jv 1 [(156,vQ (IntKind.u64.wrap t.cpu))]∘Jo (vQ (ay t.cpu)) (by exact zl _)∘Jg 4 O0∘Jp 1∘Jg 6 O0∘Jg 7 O0∘Jw .u64∘JU qt #[vQ (ay (t.id-qh s.st.ts i)),vQ (ay t.group),vQ (ay t.weight),vQ (ay t.cpu),vQ t.mask,vQ 1,vQ t.v,vQ t.r]) fun Eh Kr=>(JD ([ay (t.id-qh s.st.ts i),ay t.group,ay t.weight,ay t.cpu,t.mask,1,t.v,t.r].map aR) 4 (fun _ _=>sO) qt (hr:=by exact fun E=>E.aN (i:=0) (n:=8) (size:=1) rfl rfl) (h1:=by exact zm _)) fun Kt o8 o9 jU=>(Jp 1∘aF∘Jq) fun a Z E=>?_
     have eH:q.length+8=(q++[ay (t.id-qh s.st.ts i),ay t.group,ay t.weight,ay t.cpu,t.mask,1,t.v,t.r]).length:=q0 rfl
     replace E:=E.aI (i:=4) (ys:=(q++[ay (t.id-qh s.st.ts i),ay t.group,ay t.weight,ay t.cpu,t.mask,1,t.v,t.r]).map aR) rfl eH (List.map_append.symm)
     rw [eH] at jU
     replace Z:=Z.sp 5 (.slice o8 ((q++[ay (t.id-qh s.st.ts i),ay t.group,ay t.weight,ay t.cpu,t.mask,1,t.v,t.r]).length) o9) rfl (by rw [eH])
     refine Jb Z E ((JG∘JR∘Jp 1∘bn 1∘Jp 1∘aT∘Jq) fun a Z E=>?_)
     exact ⟨_,om,i+1,(q++[ay (t.id-qh s.st.ts i),ay t.group,ay t.weight,ay t.cpu,t.mask,1,t.v,t.r]),o8,o9,by omega,by rw [zt,ht];omega,by rw [hq,qr,ht,List.append_assoc];unfold sD;rw [o7];rfl,by rw [List.length_append,show [ay (t.id-qh s.st.ts i),ay t.group,ay t.weight,ay t.cpu,t.mask,1,t.v,t.r].length=8 from rfl];omega,jU,rfl,Z.sub kr,E.pk [2,3,4,5]⟩
    refine (JF∘aG∘JR∘Jp 2∘Jv 1 [(147,vQ (IntKind.u64.wrap (t.id-qh s.st.ts i)))]∘Jo (vQ (ay (t.id-qh s.st.ts i))) (by exact zl _)∘Jg 1 O0∘Jv 1 [(150,vQ (IntKind.u64.wrap t.group))]∘Jo (vQ (ay t.group)) (by exact zl _)∘Jg 2 O0∘Jv 1 [(153,vQ (IntKind.u64.wrap t.weight))]∘Jo (vQ (ay t.weight)) (by exact zl _)∘Jg 3 O0∘Jv 1 [(156,vQ (IntKind.u64.wrap t.cpu))]∘Jo (vQ (ay t.cpu)) (by exact zl _)∘Jg 4 O0∘Jp 1∘Jg 6 O0∘Jg 7 O0∘Jw .u64∘JU qt #[vQ (ay (t.id-qh s.st.ts i)),vQ (ay t.group),vQ (ay t.weight),vQ (ay t.cpu),vQ t.mask,vQ 0,vQ t.v,vQ t.r]) fun Eh Kr=>(JD ([ay (t.id-qh s.st.ts i),ay t.group,ay t.weight,ay t.cpu,t.mask,0,t.v,t.r].map aR) 4 (fun _ _=>sO) qt (hr:=by exact fun E=>E.aN (i:=0) (n:=8) (size:=1) rfl rfl) (h1:=by exact zm _)) fun Kt o8 o9 jU=>(Jp 1∘aF∘Jq) fun a Z E=>?_
    have eH:q.length+8=(q++[ay (t.id-qh s.st.ts i),ay t.group,ay t.weight,ay t.cpu,t.mask,0,t.v,t.r]).length:=q0 rfl
    replace E:=E.aI (i:=4) (ys:=(q++[ay (t.id-qh s.st.ts i),ay t.group,ay t.weight,ay t.cpu,t.mask,0,t.v,t.r]).map aR) rfl eH (List.map_append.symm)
    rw [eH] at jU
    replace Z:=Z.sp 5 (.slice o8 ((q++[ay (t.id-qh s.st.ts i),ay t.group,ay t.weight,ay t.cpu,t.mask,0,t.v,t.r]).length) o9) rfl (by rw [eH])
    refine Jb Z E ((JG∘JR∘Jp 1∘bn 1∘Jp 1∘aT∘Jq) fun a Z E=>?_)
    exact ⟨_,om,i+1,(q++[ay (t.id-qh s.st.ts i),ay t.group,ay t.weight,ay t.cpu,t.mask,0,t.v,t.r]),o8,o9,by omega,by rw [zt,ht];omega,by rw [hq,qr,ht,List.append_assoc];unfold sD;rw [o7];rfl,by rw [List.length_append,show [ay (t.id-qh s.st.ts i),ay t.group,ay t.weight,ay t.cpu,t.mask,0,t.v,t.r].length=8 from rfl];omega,jU,rfl,Z.sub kr,E.pk [2,3,4,5]⟩
   intro a Z E
   have QK:=of_decide_eq_false BX
   replace Z:=Z.sp 12 (vI (t.id-qh s.st.ts i)) rfl (by rw [q39 om,Int.sub_zero])
   refine Jb Z E ((JF∘aG∘JP∘Jp 1∘Jj∘JQ∘JP∘Jg 5 O0∘Jj) (Ju (fun o7=>?_) fun o7=>?_))
   ·
    refine (JT∘JR∘Jp 1∘Jj∘JR∘Jp 2∘Jv 1 [(147,vQ (IntKind.u64.wrap (t.id-qh s.st.ts i)))]∘Jo (vQ (ay (t.id-qh s.st.ts i))) (by exact zl _)∘Jg 1 O0∘Jv 1 [(150,vQ (IntKind.u64.wrap t.group))]∘Jo (vQ (ay t.group)) (by exact zl _)∘Jg 2 O0∘Jv 1 [(153,vQ (IntKind.u64.wrap t.weight))]∘Jo (vQ (ay t.weight)) (by exact zl _)∘Jg 3 O0∘Jv 1 [(156,vQ (IntKind.u64.wrap t.cpu))]∘Jo (vQ (ay t.cpu)) (by exact zl _)∘Jg 4 O0∘Jp 1∘Jg 6 O0∘Jg 7 O0∘Jw .u64∘JU qt #[vQ (ay (t.id-qh s.st.ts i)),vQ (ay t.group),vQ (ay t.weight),vQ (ay t.cpu),vQ t.mask,vQ 1,vQ t.v,vQ t.r]) fun Eh Kr=>(JD ([ay (t.id-qh s.st.ts i),ay t.group,ay t.weight,ay t.cpu,t.mask,1,t.v,t.r].map aR) 4 (fun _ _=>sO) qt (hr:=by exact fun E=>E.aN (i:=0) (n:=8) (size:=1) rfl rfl) (h1:=by exact zm _)) fun Kt o8 o9 jU=>(Jp 1∘aF∘Jq) fun a Z E=>?_
    have eH:q.length+8=(q++[ay (t.id-qh s.st.ts i),ay t.group,ay t.weight,ay t.cpu,t.mask,1,t.v,t.r]).length:=q0 rfl
    replace E:=E.aI (i:=4) (ys:=(q++[ay (t.id-qh s.st.ts i),ay t.group,ay t.weight,ay t.cpu,t.mask,1,t.v,t.r]).map aR) rfl eH (List.map_append.symm)
    rw [eH] at jU
    replace Z:=Z.sp 5 (.slice o8 ((q++[ay (t.id-qh s.st.ts i),ay t.group,ay t.weight,ay t.cpu,t.mask,1,t.v,t.r]).length) o9) rfl (by rw [eH])
    refine Jb Z E ((JG∘JR∘Jp 1∘bn 1∘Jp 1∘aT∘Jq) fun a Z E=>?_)
    exact ⟨_,om,i+1,(q++[ay (t.id-qh s.st.ts i),ay t.group,ay t.weight,ay t.cpu,t.mask,1,t.v,t.r]),o8,o9,by omega,by rw [zt,ht];omega,by rw [hq,qr,ht,List.append_assoc];unfold sD;rw [o7];rfl,by rw [List.length_append,show [ay (t.id-qh s.st.ts i),ay t.group,ay t.weight,ay t.cpu,t.mask,1,t.v,t.r].length=8 from rfl];omega,jU,rfl,Z.sub kr,E.pk [2,3,4,5]⟩
   refine (JF∘aG∘JR∘Jp 2∘Jv 1 [(147,vQ (IntKind.u64.wrap (t.id-qh s.st.ts i)))]∘Jo (vQ (ay (t.id-qh s.st.ts i))) (by exact zl _)∘Jg 1 O0∘Jv 1 [(150,vQ (IntKind.u64.wrap t.group))]∘Jo (vQ (ay t.group)) (by exact zl _)∘Jg 2 O0∘Jv 1 [(153,vQ (IntKind.u64.wrap t.weight))]∘Jo (vQ (ay t.weight)) (by exact zl _)∘Jg 3 O0∘Jv 1 [(156,vQ (IntKind.u64.wrap t.cpu))]∘Jo (vQ (ay t.cpu)) (by exact zl _)∘Jg 4 O0∘Jp 1∘Jg 6 O0∘Jg 7 O0∘Jw .u64∘JU qt #[vQ (ay (t.id-qh s.st.ts i)),vQ (ay t.group),vQ (ay t.weight),vQ (ay t.cpu),vQ t.mask,vQ 0,vQ t.v,vQ t.r]) fun Eh Kr=>(JD ([ay (t.id-qh s.st.ts i),ay t.group,ay t.weight,ay t.cpu,t.mask,0,t.v,t.r].map aR) 4 (fun _ _=>sO) qt (hr:=by exact fun E=>E.aN (i:=0) (n:=8) (size:=1) rfl rfl) (h1:=by exact zm _)) fun Kt o8 o9 jU=>(Jp 1∘aF∘Jq) fun a Z E=>?_
   have eH:q.length+8=(q++[ay (t.id-qh s.st.ts i),ay t.group,ay t.weight,ay t.cpu,t.mask,0,t.v,t.r]).length:=q0 rfl
   replace E:=E.aI (i:=4) (ys:=(q++[ay (t.id-qh s.st.ts i),ay t.group,ay t.weight,ay t.cpu,t.mask,0,t.v,t.r]).map aR) rfl eH (List.map_append.symm)
   rw [eH] at jU
   replace Z:=Z.sp 5 (.slice o8 ((q++[ay (t.id-qh s.st.ts i),ay t.group,ay t.weight,ay t.cpu,t.mask,0,t.v,t.r]).length) o9) rfl (by rw [eH])
   refine Jb Z E ((JG∘JR∘Jp 1∘bn 1∘Jp 1∘aT∘Jq) fun a Z E=>?_)
   exact ⟨_,om,i+1,(q++[ay (t.id-qh s.st.ts i),ay t.group,ay t.weight,ay t.cpu,t.mask,0,t.v,t.r]),o8,o9,by omega,by rw [zt,ht];omega,by rw [hq,qr,ht,List.append_assoc];unfold sD;rw [o7];rfl,by rw [List.length_append,show [ay (t.id-qh s.st.ts i),ay t.group,ay t.weight,ay t.cpu,t.mask,0,t.v,t.r].length=8 from rfl];omega,jU,rfl,Z.sub kr,E.pk [2,3,4,5]⟩
  intro a Z E
  have QJ:=of_decide_eq_false oW
  exact Jb Z E ((JF∘JX∘JG∘JP∘Jp 2∘aQ∘Jj∘JZ∘aH) fun E=>zd ((show _=aK s 5 from by rw [hq,show i=s.st.ts.length by omega];rfl).trans (Eq.symm ((cZ gJ).trans ((cZ j5).trans ((cZ lq).trans ((cZ yJ).trans ((cZ mY).trans (Gp mE)))))))) (E.own (i:=2) rfl) hco E.below)
 refine (JF∘JP∘Jp 2∘aQ∘Jj) (Ju (fun BZ=>?_) fun BZ=>?_)
 ·
  refine (JT∘JP∘Jp 1∘Jj∘JB) fun a Z E=>?_
  refine qc (fun mS aS wS=>∃(g:Nat) (q:List Nat) (Ao:Option Addr) (co:Nat),(g≤s.st.rs.length)∧(q=eG g fun i=>zV i (s.st.rs.getD i Rw.zero).l)∧(q.length≤192*g)∧(q.length≤co)∧mS=s.st.rs.length-g∧Fr aS 223 [] [(14,vI g),(167,.bool true),(109,.bool false),(91,.bool false),(73,.bool false),(44,.bool false),(27,.bool false),(19,.bool false),(18,.string nm),(6,vP g6 0),(5,.slice Ao q.length co),(4,vN),(2,vP g2 0)]∧Mem w wS [.blk g6 s.st.cells 48,.row (.slice Ao q.length co) q.length (q.map aR) 41 1,.blk g2 s.cells 180]) (m:=s.st.rs.length-0) ⟨0,[],none,0,Nat.zero_le _,rfl,Nat.le_refl _,Nat.le_refl _,rfl,Z.sub kr,E.pk [0,1,2]⟩ ?_
  clear Z E;rintro mS a w_ ⟨g,q,Ao,co,hg,hq,kF,hco,rfl,Z,E⟩
  refine Jb Z E ((JQ∘JP∘Jp 1∘Jg 6 O0∘Jl∘Jp 1∘bQ∘Jj) (Ju (fun Ca=>?_) fun Ca=>?_))
  ·
   intro a Z E
   have QL:=of_decide_eq_true Ca
   have jV:g<s.st.rs.length:=by omega
   obtain ⟨y,hy⟩:∃z,s.st.rs.getD g Rw.zero=z:=⟨_,rfl⟩
   have jG:Rd w w.heap.size 3 y.A y.l.length (y.l.flatMap jy):=by rw [←hy];exact hx.row jV
   have hyl:(y.l.length:Int)=s.st.aB:=by rw [←hy];exact (FD jV (hsh.row g jV)).1
   have DT:∀z∈y.l,z.Ok:=by rw [←hy,←kC jV];exact hok.sp _ (qi [] (by rw [rO];exact jV))
   obtain ⟨qV,qW,xG,_⟩:=Rd.qd hx.s (Nat.lt_of_le_of_lt (Nat.zero_le _) (show g<s.st.rs.length from jV)) de
   have mF:=hx.s;rw [xG] at mF
   refine Jb Z E ((JT∘aG∘JQ∘JB∘JP∘Jp 1∘Jj∘JB) fun a Z E=>?_)
   refine qc (fun mS aS wS=>∃(c:Nat) (q:List Nat) (Ao:Option Addr) (co:Nat),(c≤y.l.length)∧(q=(eG g fun i=>zV i (s.st.rs.getD i Rw.zero).l)++eG c fun i=>yU g (y.l.getD i Sp.zero))∧(q.length≤192*g+3*c)∧(q.length≤co)∧mS=y.l.length-c∧Fr aS 223 [] [(15,vI c),(173,.bool true),(14,vI g),(167,.bool true),(109,.bool false),(91,.bool false),(73,.bool false),(44,.bool false),(27,.bool false),(19,.bool false),(18,.string nm),(6,vP g6 0),(5,.slice Ao q.length co),(4,vN),(2,vP g2 0)]∧Mem w wS [.blk g6 s.st.cells 48,.row (.slice Ao q.length co) q.length (q.map aR) 41 1,.blk g2 s.cells 180]) (m:=y.l.length-0) ⟨0,q,Ao,co,Nat.zero_le _,by rw [hq,qc2,List.append_nil],by omega,hco,rfl,Z.sub kr,E.pk [0,1,2]⟩ ?_
   clear Z E;rintro mS a w_ ⟨c,q,Ao,co,hc,hq,kF,hco,rfl,Z,E⟩
   refine Jb Z E ((JQ∘JP∘Jp 1∘Jg 6 O0∘Jp 1) fun a Z E=>?_)
   replace Z:=Z.sp 178 (.slice (some ⟨qV,qW,none⟩) s.st.rs.length s.st.sc) rfl (by rw [xG];try rfl)
   refine Jb Z E ((Jy (h:=by exact Yl.ix qV qW g 1 rfl rfl rfl)∘Jy (v:= .slice ((s.st.rs.getD g Rw.zero).A) ((s.st.rs.getD g Rw.zero).l.length) ((s.st.rs.getD g Rw.zero).c)) (h:=by exact Yl.o1 mF g Rw.zero jV rfl rfl)∘Jo (.slice y.A y.l.length y.c) (by rw [hy])∘Jl∘Jp 1∘aF∘Jj) (Ju (fun Cb=>?_) fun Cb=>?_))
   ·
    intro a Z E
    have QM:=of_decide_eq_true Cb
    have qX:c<y.l.length:=by omega
    have yc:=DT _ (qi Sp.zero qX)
    have hzv:=yc.v;have XC:=yc.r
    obtain ⟨uQ,uR,zA,_⟩:=Rd.qd jG (Nat.lt_of_le_of_lt (Nat.zero_le _) (show c<y.l.length from qX)) de
    have nW:=jG;rw [zA] at nW
    refine Jb Z E ((JT∘aG∘JQ∘JB∘JQ∘JP∘Jp 2∘aQ∘Jj) (Ji (fun QN=>?_) fun QN=>?_))
    ·
     refine (JT∘Vs (.t (.f .n)) []) fun atG=>(Vp [0]∘Vf 1 6∘Vp [3,6]∘Vf 10 6∘Vp [12,15]∘Vc 2 O0) fun a Z E HS=>?_
     replace Z:=Z.sp 190 (.slice (some ⟨qV,qW,none⟩) s.st.rs.length s.st.sc) rfl (by rw [xG];try rfl)
     refine Vb Z E HS ((Vy 4 (h:=by exact Yl.ix qV qW g 1 rfl rfl rfl)∘Vy 5 (v:= .slice ((s.st.rs.getD g Rw.zero).A) ((s.st.rs.getD g Rw.zero).l.length) ((s.st.rs.getD g Rw.zero).c)) (h:=by exact Yl.o1 mF g Rw.zero jV rfl rfl)∘Vo (.slice y.A y.l.length y.c) (by rw [hy])) fun a Z E HS=>?_)
     replace Z:=Z.sp 193 (.slice (some ⟨uQ,uR,none⟩) y.l.length y.c) rfl (by rw [zA];try rfl)
     refine Vb Z E HS ((Vy 7 (h:=by exact Yl.ix uQ uR c 3 rfl rfl rfl)∘Vf 8 0∘Vy 9 (v:=vQ ((y.l.getD c Sp.zero).v)) (h:=by exact Yl.qj rfl rfl kr (fun _ h=>(by have:=(h.old nW).partAt vF (k:=c) (j:=0) (x:=(y.l.getD c Sp.zero)) ((getD_at Sp.zero qX)) rfl;simpa using this)))∘Vc 11 O0) fun a Z E HS=>?_)
     replace Z:=Z.sp 199 (.slice (some ⟨qV,qW,none⟩) s.st.rs.length s.st.sc) rfl (by rw [xG];try rfl)
     refine Vb Z E HS ((Vy 13 (h:=by exact Yl.ix qV qW g 1 rfl rfl rfl)∘Vy 14 (v:= .slice ((s.st.rs.getD g Rw.zero).A) ((s.st.rs.getD g Rw.zero).l.length) ((s.st.rs.getD g Rw.zero).c)) (h:=by exact Yl.o1 mF g Rw.zero jV rfl rfl)∘Vo (.slice y.A y.l.length y.c) (by rw [hy])) fun a Z E HS=>?_)
     replace Z:=Z.sp 202 (.slice (some ⟨uQ,uR,none⟩) y.l.length y.c) rfl (by rw [zA];try rfl)
     refine Vb Z E HS ((Vy 16 (h:=by exact Yl.ix uQ uR c 3 rfl rfl rfl)∘Vf 17 1∘Vy 18 (v:=vW ((y.l.getD c Sp.zero).r)) (h:=by exact Yl.qj rfl rfl kr (fun _ h=>(h.old nW).partAt vF (k:=c) (j:=1) (x:=(y.l.getD c Sp.zero)) ((getD_at Sp.zero qX)) rfl))∘Vw 19 .u64) fun a Z E HS=>?_)
     refine s_on Z 20 rfl (lT Z E qt [(0,vQ ((y.l.getD c Sp.zero).v)),(1,vQ ((y.l.getD c Sp.zero).r:Nat))] #[vQ ((y.l.getD c Sp.zero).v),vQ ((y.l.getD c Sp.zero).r:Nat)] ?_)
     clear Z E;intro a atH atI Z E
     refine au (E.pk [1,3]) (fun HS=>?_)
     refine s_on Z 21 rfl (qz Z E (i:=2) rfl qt rfl rfl rfl (news:=([(y.l.getD c Sp.zero).v,(y.l.getD c Sp.zero).r].map aR)) (E.aN (i:=0) (n:=2) (size:=1) rfl rfl) (zm _) om om rfl de ?_)
     clear Z E;intro a atJ aai aaj Z E QO
     refine au (E.pk [1,3]) (fun HS=>?_)
     refine Vb Z E HS ((Vp [22]∘Vd∘aF) fun a Z E=>?_)
     have wE:q.length+2=(q++[(y.l.getD c Sp.zero).v,(y.l.getD c Sp.zero).r]).length:=q0 rfl
     replace E:=E.aI (i:=2) (ys:=(q++[(y.l.getD c Sp.zero).v,(y.l.getD c Sp.zero).r]).map aR) rfl wE (List.map_append.symm)
     rw [wE] at QO
     replace Z:=Z.sp 5 (.slice aai ((q++[(y.l.getD c Sp.zero).v,(y.l.getD c Sp.zero).r]).length) aaj) rfl (by rw [wE])
     refine Jb Z E ((JG∘JR∘Jp 1∘Jg 6 O1∘Jp 1) fun a Z E=>?_)
     replace Z:=Z.sp 212 (.slice (some ⟨qV,qW,none⟩) s.st.rs.length s.st.sc) rfl (by rw [xG];try rfl)
     refine Jb Z E ((Jy (h:=by exact Yl.ix qV qW g 1 rfl rfl rfl)∘Jy (v:= .slice ((s.st.rs.getD g Rw.zero).A) ((s.st.rs.getD g Rw.zero).l.length) ((s.st.rs.getD g Rw.zero).c)) (h:=by exact Yl.o1 mF g Rw.zero jV rfl rfl)∘Jo (.slice y.A y.l.length y.c) (by rw [hy])∘Jp 1) fun a Z E=>?_)
     replace Z:=Z.sp 215 (.slice (some ⟨uQ,uR,none⟩) y.l.length y.c) rfl (by rw [zA];try rfl)
     refine Jb Z E ((Jy (h:=by exact Yl.ix uQ uR c 3 rfl rfl rfl)∘Jf 2∘Jy (v:=vQ ((y.l.getD c Sp.zero).floor)) (h:=by exact Yl.qj rfl rfl kr (fun _ h=>(h.old nW).partAt vF (k:=c) (j:=2) (x:=(y.l.getD c Sp.zero)) ((getD_at Sp.zero qX)) rfl))∘JU qt #[vQ ((y.l.getD c Sp.zero).floor)]) fun aak aal=>(JD ([(y.l.getD c Sp.zero).floor].map aR) 3 (fun _ _=>xR) qt (hr:=by exact fun E=>E.aN (i:=0) (n:=1) (size:=1) rfl rfl) (h1:=by exact zm _)) fun aam Cc Ce uD=>(Jp 1∘jq∘Jq) fun a Z E=>?_)
     have lF:((q++[(y.l.getD c Sp.zero).v,(y.l.getD c Sp.zero).r]).length)+1=((q++[(y.l.getD c Sp.zero).v,(y.l.getD c Sp.zero).r])++[(y.l.getD c Sp.zero).floor]).length:=q0 rfl
     replace E:=E.aI (i:=3) (ys:=((q++[(y.l.getD c Sp.zero).v,(y.l.getD c Sp.zero).r])++[(y.l.getD c Sp.zero).floor]).map aR) rfl lF (List.map_append.symm)
     rw [lF] at uD
     replace Z:=Z.sp 5 (.slice Cc (((q++[(y.l.getD c Sp.zero).v,(y.l.getD c Sp.zero).r])++[(y.l.getD c Sp.zero).floor]).length) Ce) rfl (by rw [lF])
     refine Jb Z E ((JG∘JR∘Jp 1∘bn 1∘Jp 1∘aT∘Jq) fun a Z E=>?_)
     exact ⟨_,om,c+1,((q++[(y.l.getD c Sp.zero).v,(y.l.getD c Sp.zero).r])++[(y.l.getD c Sp.zero).floor]),Cc,Ce,by omega,by rw [hq,qr,Xv om];simp only [List.append_assoc],by (simp only [List.length_append,List.length_cons,List.length_nil];omega),uD,rfl,Z.sub kr,E.pk [2,3,4]⟩
    refine (JF∘aG∘JR∘Jp 1∘Jg 6 O0∘Jp 1) fun a Z E=>?_
    replace Z:=Z.sp 212 (.slice (some ⟨qV,qW,none⟩) s.st.rs.length s.st.sc) rfl (by rw [xG];try rfl)
    refine Jb Z E ((Jy (h:=by exact Yl.ix qV qW g 1 rfl rfl rfl)∘Jy (v:= .slice ((s.st.rs.getD g Rw.zero).A) ((s.st.rs.getD g Rw.zero).l.length) ((s.st.rs.getD g Rw.zero).c)) (h:=by exact Yl.o1 mF g Rw.zero jV rfl rfl)∘Jo (.slice y.A y.l.length y.c) (by rw [hy])∘Jp 1) fun a Z E=>?_)
    replace Z:=Z.sp 215 (.slice (some ⟨uQ,uR,none⟩) y.l.length y.c) rfl (by rw [zA];try rfl)
    refine Jb Z E ((Jy (h:=by exact Yl.ix uQ uR c 3 rfl rfl rfl)∘Jf 2∘Jy (v:=vQ ((y.l.getD c Sp.zero).floor)) (h:=by exact Yl.qj rfl rfl kr (fun _ h=>(h.old nW).partAt vF (k:=c) (j:=2) (x:=(y.l.getD c Sp.zero)) ((getD_at Sp.zero qX)) rfl))∘JU qt #[vQ ((y.l.getD c Sp.zero).floor)]) fun aak aal=>(JD ([(y.l.getD c Sp.zero).floor].map aR) 2 (fun _ _=>gH) qt (hr:=by exact fun E=>E.aN (i:=0) (n:=1) (size:=1) rfl rfl) (h1:=by exact zm _)) fun aam Cc Ce uD=>(Jp 1∘jq∘Jq) fun a Z E=>?_)
    have lF:q.length+1=(q++[(y.l.getD c Sp.zero).floor]).length:=q0 rfl
    replace E:=E.aI (i:=2) (ys:=(q++[(y.l.getD c Sp.zero).floor]).map aR) rfl lF (List.map_append.symm)
    rw [lF] at uD
    replace Z:=Z.sp 5 (.slice Cc ((q++[(y.l.getD c Sp.zero).floor]).length) Ce) rfl (by rw [lF])
    refine Jb Z E ((JG∘JR∘Jp 1∘bn 1∘Jp 1∘aT∘Jq) fun a Z E=>?_)
    exact ⟨_,om,c+1,(q++[(y.l.getD c Sp.zero).floor]),Cc,Ce,by omega,by rw [hq,qr,Xw om,List.append_assoc],by (simp only [List.length_append,List.length_cons,List.length_nil];omega),uD,rfl,Z.sub kr,E.pk [1,2,3]⟩
   intro a Z E
   have QM:=of_decide_eq_false Cb
   refine Jb Z E ((JF∘JX∘JG∘JR∘Jp 1∘bn 1∘Jp 1∘aT∘Jq) fun a Z E=>?_)
   exact ⟨_,om,g+1,q,Ao,co,by omega,by rw [hq,show c=y.l.length by omega,qr,hy];rfl,by omega,hco,rfl,Z.sub kr,E.pk [0,1,2]⟩
  intro a Z E
  have QL:=of_decide_eq_false Ca
  exact Jb Z E ((JF∘JX∘JG∘JP∘Jp 2∘aQ∘Jj∘JZ∘aH) fun E=>zd ((show _=aK s 6 from by rw [hq,show g=s.st.rs.length by omega];rfl).trans (Eq.symm ((cZ gJ).trans ((cZ j5).trans ((cZ lq).trans ((cZ yJ).trans ((cZ mY).trans ((cZ mE).trans (Gp BZ))))))))) (E.own (i:=1) rfl) hco E.below)
 exact (JF∘aG∘JP∘Jp 2∘aQ∘Jj∘JZ∘aH) fun E=>zd ((show _=[] from rfl).trans (Eq.symm ((cZ gJ).trans ((cZ j5).trans ((cZ lq).trans ((cZ yJ).trans ((cZ mY).trans ((cZ mE).trans ((cZ BZ).trans (rfl)))))))))) (E.own (i:=1) rfl) (Nat.le_refl _) E.below
theorem ze4 (s:bH) (hok:s.st.aD.Ok) (hf:aX s.st) (hsh:ShAt s.st) (j:Nat) (w:World) (hx:cB w s.st):Calls Tryz.prog 187 #[.agg s.cells,.string (Gm j)] w (yV w (mG s j)):=zcl s hok hf hsh (Gm j) w hx
theorem qq6 (s:bH) (hok:s.st.aD.Ok) (hf:aX s.st) (w:World) (hx:cB w s.st):
    Calls Tryz.prog 143 #[.agg s.cells] w (TI w (bJ s) (gU s)):=by
 refine (bZ Tryz.func143 29) ?_
 refine (JP∘JE) fun w1 g1=>(Jp 2∘Jj∘JQ∘JP∘Jy (v:= .agg s.cells) (h:=by exact Yl.qf rfl rfl FC rfl (fun _ h=>qb (h.blk (i:=0) rfl)))∘Jo (.agg s.cells) (by exact rfl)∘JI (h:=by exact fun E=>qmm s hok hf _ (hx.old E))) fun w9 hbw=>(Jp 1∘aT∘Jr∘Jp 2∘aQ∘Jj) (Ju (fun cK=>?_) fun cK=>?_)
 ·
  intro a Z E
  have gI:=bne_iff_ne.1 cK
  exact Jb Z E ((JT∘JP∘Jp 3∘Jj∘JZ∘bW) fun E=>qlv _ rfl (qut om) E.below)
 intro a Z E
 have gI:=bne_eq_false_iff_eq.1 cK
 have hk0:bJ s=0:=by omega
 have hsh:=IC hk0
 refine Jb Z E ((JF∘aG∘JP∘Jp 1∘Jq) fun a Z E=>?_)
 replace E:=E.nil 41 1
 refine Jb Z E ((JG∘JP∘JL (h:=by exact fun E=>qx0 _)) ?_)
 rintro E _ wP ⟨⟨g13,rfl,ho⟩,hbw⟩
 refine ⟨_,rfl,_,E.bq hbw ho,?_⟩
 refine (Jp 1∘aQ∘Jj∘JQ∘JP∘Jp 1∘Jj∘JB) fun a Z E=>?_
 refine qc (fun mS aS wS=>∃(j:Nat) (q:List Nat) (Ao:Option Addr) (co:Nat),(j≤9)∧(q=eG j (mG s))∧(q.length≤co)∧mS=9-j∧Fr aS 29 [] [(7,vI j),(6,vS g13 9 9),(5,.slice Ao q.length co),(11,.bool false),(4,vI (bJ s)),(3,vI 0),(2,vN),(1,vP g1 0)]∧Mem w wS [.row (vS g13 9 9) 9 (nL.map Km) 9 1,.row (.slice Ao q.length co) q.length (q.map aR) 41 1,.blk g1 s.cells 180]) (m:=9-0) ⟨0,[],none,0,Nat.zero_le _,rfl,Nat.le_refl _,rfl,Z.sub kr,E.pk [0,1,2]⟩ ?_
 clear Z E;rintro mS a w_ ⟨j,q,Ao,co,hj,hq,hco,rfl,Z,E⟩
 refine Jb Z E ((JQ∘JP∘Jp 2∘Jl∘Jp 1∘bQ∘Jj) (Ju (fun jh=>?_) fun jh=>?_))
 ·
  intro a Z E
  have iQ:=of_decide_eq_true jh
  have QT:j<9:=by omega
  have kF:q.length≤5400000:=by have:=q38 hsh j om;rw [←hq] at this;omega
  have hsl:=qv8 hsh QT
  refine Jb Z E ((JT∘aG∘JQ∘JB∘Vs (.t (.f .n)) []) fun wd9=>(Vp [0,2,3]∘Vy 1 (v:= .agg s.cells) (h:=by exact Yl.qf rfl rfl FC rfl (fun _ h=>qb (h.blk (i:=1) rfl)))∘Vo (.agg s.cells) (by exact rfl)∘Vy 4 (h:=by exact Yl.uV g13 j 1 rfl rfl rfl)∘Vy 5 (h:=by exact Yl.r1 0 j [] (show j<nL.length from QT) rfl rfl rfl)∘VK 6 (.t (.f .n)) (h:=by exact fun E=>ze4 s hok hf hsh j _ (hx.old E))) fun dh bN vJ bD=>fun a Z E HS=>?_)
  refine s_on Z 7 rfl (qz Z E (i:=2) rfl qt rfl rfl rfl (news:=((mG s j).map aR)) (E.rd (i:=0) rfl) (zm _) om om rfl de ?_)
  clear Z E;intro a LW yA uP Z E hc27
  refine au (E.pk [1,3]) (fun HS=>?_)
  refine Vb Z E HS ((Vp [8]∘Vd∘aF) fun a Z E=>?_)
  have kJ:q.length+((mG s j).length)=(q++(mG s j)).length:=q0 rfl
  replace E:=E.aI (i:=2) (ys:=(q++(mG s j)).map aR) rfl kJ (List.map_append.symm)
  rw [kJ] at hc27
  replace Z:=Z.sp 5 (.slice yA ((q++(mG s j)).length) uP) rfl (by rw [kJ])
  refine Jb Z E ((JG∘JR∘Jp 1∘bn 1∘Jp 1∘aT∘Jq) fun a Z E=>?_)
  exact ⟨_,om,j+1,(q++(mG s j)),yA,uP,by omega,by rw [hq,qr],hc27,rfl,Z.sub kr,E.pk [1,2,3]⟩
 intro a Z E
 have iQ:=of_decide_eq_false jh
 exact Jb Z E ((JF∘JX∘JG∘JP∘Jp 3∘Jj∘JZ∘bW) fun E=>qlu (uJ:=0) hk0.symm (by rw [DW hk0,←ze2,hq,show j=9 by omega]) (E.own (i:=1) rfl) hco E.below)
theorem qx1 (s:bH) (hok:s.st.aD.Ok) (hf:aX s.st) (w:World) (hx:cB w s.st):
    Calls Tryz.prog 93 #[.agg s.cells] w (qx w (bJ s) (bT s)):=by
 refine (bZ Tryz.func93 19) ?_
 refine (JP∘JE) fun w1 g1=>(Jp 2∘Jr∘Jy (v:= .agg s.cells) (h:=by exact Yl.qf rfl rfl FC rfl (fun _ h=>qb (h.blk (i:=0) rfl)))∘Jo (.agg s.cells) (by exact rfl)∘JK (h:=by exact fun E=>qq6 s hok hf _ (hx.old E))) fun A8 c8 w8 hc8=>(Jp 1∘Jx∘Jx∘Jp 2∘Jj∘JQ∘JP∘Jp 2∘aQ∘Jj) (Ju (fun dR=>?_) fun dR=>?_)
 ·
  intro a Z E
  have iR:=bne_iff_ne.1 dR
  exact Jb Z E ((JT∘JP∘Jp 3∘Jj∘JZ∘bW) fun E=>qlw _ rfl (TH om) E.below)
 intro a Z E
 have iR:=bne_eq_false_iff_eq.1 dR
 have hk0:bJ s=0:=by omega
 have hsh:=IC hk0
 have hnl:=TF hsh
 rw [←DW hk0] at hnl
 have hbf:=quu hsh
 have hfl:=q6 (gU s)
 refine Jb Z E ((JF∘aG∘JP∘JU aL #[vB 113,vB 115,vB 1]) fun Fj g14=>(Jp 1∘JK (h:=by exact fun E=>Uv A8 ((gU s).length) c8 (gU s) _ (E.rd (i:=1) rfl) rfl (by rw [DW hk0];exact XP hok hf) (by have:=hnl;omega))) fun jg c16 w16 hc16=>fun a Z E=>?_)
 refine fo Z 3 rfl rfl ?_
 replace E:=E.dJ (i:=1) (n:=3) (size:=1) rfl rfl de
 refine qz Z E (i:=1) rfl aL rfl rfl rfl (news:=(((gU s).flatMap aj).map B8)) (E.rd (i:=0) rfl) (mH _) om om rfl de ?_
 clear Z E;intro a DF LY c17 Z E hc17
 have oO:3+(((gU s).flatMap aj).length)=(dN s).length:=q80 hk0
 replace E:=E.aI (i:=1) (ys:=(dN s).map B8) rfl oO (qlx hk0)
 rw [oO] at hc17
 replace Z:=Z.sp 17 (.slice LY ((dN s).length) c17) rfl (by rw [oO])
 exact Jb Z E ((JK (h:=by exact fun E=>ZG LY ((dN s).length) c17 (dN s) _ (E.rd (i:=1) rfl) rfl om (qur s))) fun PX c18 K5 hc18=>(Jp 2∘Jj∘JZ∘bW) fun E=>qly (uJ:=0) hk0.symm (LB hk0).symm (E.own (i:=0) rfl) hc18 E.below)
theorem qmo (s:bH) (w:World) (hx:cB w s.st) (hf:aX s.st):
    Calls Tryz.prog 96 #[.agg s.cells] w (zdz w s):=by
 refine (bZ Tryz.func96 9) ?_
 refine (JP∘JE) fun w1 g1=>(JA #[vI 0,vI 0,vQ 0,.slice none 0 0,.slice none 0 0,.slice none 0 0,.slice none 0 0,.slice none 0 0]) fun w2 g2=>(Jj) fun a Z E=>?_
 refine wp_seq ?_
 refine Jb Z E ((Vs .n [6]) fun Tc=>(Vf 0 0∘Vf 2 1∘Vc 1 O1∘Vy 3 (v:= .agg #[vI s.st.aB,vQ s.st.ak,.slice s.st.gA s.st.gs.length s.st.gc,.slice s.st.lA s.st.cl.length s.st.lc,.slice s.st.uA s.st.cu.length s.st.uc,.slice s.st.tA s.st.ts.length s.st.tc,.slice s.st.sA s.st.rs.length s.st.sc]) (h:=by exact Yl.qf rfl rfl dD rfl (fun _ h=>h.sub (i:=1) rfl 1 rfl))∘Vo (.agg s.st.cells) (by exact rfl)) fun a Z E HS=>?_)
 refine s_on Z 4 rfl ?_
 refine rz Z [.agg s.st.cells] rfl rfl (qoc s.st _ (hx.old E) hf) ?_
 rintro _ w7 ⟨y,rfl,heq,hcap,hm⟩
 refine ⟨_,rfl,?_⟩
 replace E:=(show Mem w _ (.blk g2 #[vI 0,vI 0,vQ 0,.slice none 0 0,.slice none 0 0,.slice none 0 0,.slice none 0 0,.slice none 0 0] 180:: .blk g1 s.cells 50::kE y) from E.qG hm)
 clear Z;intro a Z
 refine au (E.pk [0,1]) (fun HS=>?_)
 refine Vb Z E HS ((Vy 5 (v:= .agg #[vI s.next,vI y.aB,vQ y.ak,.slice y.gA y.gs.length y.gc,.slice y.lA y.cl.length y.lc,.slice y.uA y.cu.length y.uc,.slice y.tA y.ts.length y.tc,.slice y.sA y.rs.length y.sc]) (h:=by exact Yl.build (vs:=[(0,vI s.next),(1,.agg y.cells)]) rfl kr kr)) fun a Z E HS=>?_)
 refine s_on Z 6 rfl (iX Z E 0 rfl rfl rfl rfl rfl FC rfl rfl (by simp [Value.oneCell']) ?_)
 clear E;intro Q5 E
 refine lG kr ?_
 refine qg kr ?_
 refine Jb Z E ((JZ) fun a Z E=>?_)
 exact nN rfl Z (.cellS (i:=0) Z E rfl rfl FC rfl) (⟨⟨s.next,y⟩,rfl,qH rfl heq,hcap,E.pt 2 []⟩)
theorem qx5 (x:dK) (w:World) (hx:cB w x):
    Calls Tryz.prog 31 #[.agg x.cells] w (Is w (.bool (decide (jK x)))):=by
 refine (bZ Tryz.func31 45) ?_
 refine (JP∘JE) fun w1 g1=>(Jp 1∘Jj∘JQ∘JP∘Jg 5 O0∘Jl∘Jp 2) (Ji (fun vv=>?_) fun vv=>?_)
 ·
  exact (Jv 24 [(33,.bool true)]∘eZ∘Jj∘JT∘JP∘Jp 1∘Jj∘JZ∘aH) fun E=>by exact bX (p:=jK x) (fun e=>by obtain ⟨h1,h2,h3,h4,h5,_⟩:=e;omega) E.below
 refine (Jf 0∘Jg 2 O0∘Jl∘Jp 3) (Ji (fun kL=>?_) fun kL=>?_)
 ·
  exact (Jv 17 [(33,.bool true)]∘aF∘Jj∘JT∘JP∘Jp 1∘Jj∘JZ∘aH) fun E=>by exact bX (p:=jK x) (fun e=>by obtain ⟨h1,h2,h3,h4,h5,_⟩:=e;omega) E.below
 refine (Jg 6 O0∘Jl∘Jp 3) (Ji (fun jf=>?_) fun jf=>?_)
 ·
  exact (Jv 11 [(33,.bool true)]∘aF∘Jj∘JT∘JP∘Jp 1∘Jj∘JZ∘aH) fun E=>by exact bX (p:=jK x) (fun e=>by obtain ⟨h1,h2,h3,h4,h5,_⟩:=e;omega) E.below
 refine (Jg 3 O0∘Jl∘Jp 3) (Ji (fun hd28=>?_) fun hd28=>?_)
 ·
  exact (Jp 5∘aF∘Jj∘JT∘JP∘Jp 1∘Jj∘JZ∘aH) fun E=>by exact bX (p:=jK x) (fun e=>by obtain ⟨h1,h2,h3,h4,h5,_⟩:=e;omega) E.below
 refine (Jg 4 O0∘Jl∘Jp 2∘aF∘Jj) (Ji (fun vG=>?_) fun vG=>?_)
 ·
  exact (JT∘JP∘Jp 1∘Jj∘JZ∘aH) fun E=>by exact bX (p:=jK x) (fun e=>by obtain ⟨h1,h2,h3,h4,h5,_⟩:=e;omega) E.below
 refine (JF∘aG∘JQ∘JP∘Jg 6 O0∘Jl∘Jp 1∘Jj∘JB) fun a Z E=>?_
 refine qc (fun mS aS wS=>∃(k:Nat),(k≤x.rs.length)∧(∀i,i<k→(x.rs.getD i Rw.zero).l.length≤8)∧mS=x.rs.length-k∧Fr aS 45 [] [(37,vI k),(36,vI x.rs.length),(35,.slice x.sA x.rs.length x.sc),(33,.bool false),(2,.bool false),(1,vP g1 0)]∧Mem w wS [.blk g1 x.cells 48]) (m:=x.rs.length-0) ⟨0,Nat.zero_le _,fun i h=>by omega,rfl,Z.sub kr,E.pk [0]⟩ ?_
 clear Z E;rintro mS a w_ ⟨k,hk,hu,rfl,Z,E⟩
 refine Jb Z E ((JP∘Jp 1∘Jj∘JQ) (Ji (fun hd38=>?_) fun hd38=>?_))
 ·
  refine (JT∘aG∘JQ∘JB∘JP) fun a Z E=>?_
  obtain ⟨dU,dV,hq1,_⟩:=Rd.qd hx.s (Nat.lt_of_le_of_lt (Nat.zero_le _) (show k<x.rs.length from by omega)) de
  have aZ:=hx.s;rw [hq1] at aZ
  replace Z:=Z.sp 35 (.slice (some ⟨dU,dV,none⟩) x.rs.length x.sc) rfl (by rw [hq1];try rfl)
  refine Jb Z E ((Jy (h:=by exact Yl.ix dU dV k 1 rfl rfl rfl)∘Jy (h:=by exact Yl.o1 aZ k Rw.zero om rfl rfl)∘Jp 1∘aT∘Jr∘Jp 1∘Jl∘Jp 1∘aT∘Jj) (Ju (fun kN=>?_) fun kN=>?_))
  ·
   intro a Z E
   have uZ:=of_decide_eq_true kN
   exact Jb Z E ((JT∘JP∘Jp 1∘Jj∘JZ∘aH) fun E=>bX (p:=jK x) (fun e=>by have:=e.2.2.2.2.2 k om;omega) E.below)
  intro a Z E
  have uZ:=of_decide_eq_false kN
  refine Jb Z E ((JF∘aG∘JR∘bn 1∘Jp 1∘aQ∘Jq) fun a Z E=>?_)
  replace Z:=Z.sp 35 (.slice x.sA x.rs.length x.sc) rfl (by rw [hq1])
  exact ⟨_,om,k+1,by omega,XI hu om,rfl,Z.sub kr,E.pk [0]⟩
 exact (JF∘JX∘JG∘JP∘Jp 1∘Jj∘JZ∘aH) fun E=>by exact Lr (p:=jK x) ⟨by omega,by omega,by omega,by omega,by omega,fun i hi=>hu i om⟩ E.below
theorem qx6 (a x y:bH) (h:bM a x) (k:bM a y) (hf:aX a.st) (w:World) (hx:cB w x.st) (hy:cB w y.st):Calls Tryz.prog 136 #[.agg x.cells,.agg y.cells] w (Is w (.bool true)):=by
 have h1:=q4d x y w hx hy (Oh (CX h) hf) (Oh (CX k) hf)
 rwa [decide_eq_true (qxb (q1m h) k)] at h1
theorem Uf (s:bH):(bT s).length≤6000007:=by grind [bJ,IC,XQ,TH,LB]
theorem qke (b:Bs) (w:World):Calls Tryz.prog 176 #[.agg b.cells] w (tZ w b.right):=by
 refine (bZ Tryz.func176 21) ?_
 refine (JP∘JE) fun w1 g1=>(Jp 1∘Jr∘Jg 0 O0∘Jp 2) (Ju (fun hb6=>?_) fun hb6=>?_)
 ·
  refine (Jg 0 O0∘Jp 3) (Ju (fun cK=>?_) fun cK=>?_)
  ·
   refine (Jg 1 O0∘Jp 3) (Ju (fun gN=>?_) fun gN=>?_)
   ·
    exact (Jg 1 O0∘Jp 3∘aF∘Jj∘JZ∘aH) fun E=>by exact ⟨congrArg (fun b=>Ending.returned (.bool b)) (by unfold Bs.right;rw [Bool.eq_iff_iff];(try simp at hb6);(try simp at cK);(try simp at gN);(try simp);(try omega)),E.below⟩
   exact (Jp 5∘aF∘Jj∘JZ∘aH) fun E=>by exact ⟨congrArg (fun b=>Ending.returned (.bool b)) (by unfold Bs.right;rw [Bool.eq_iff_iff];(try simp at hb6);(try simp at cK);(try simp at gN);(try simp);(try omega)),E.below⟩
  exact (Jv 10 [(2,.bool false)]∘aF∘Jj∘JZ∘aH) fun E=>by exact ⟨congrArg (fun b=>Ending.returned (.bool b)) (by unfold Bs.right;rw [Bool.eq_iff_iff];(try simp at hb6);(try simp at cK);(try simp);(try omega)),E.below⟩
 exact (Jv 15 [(2,.bool false)]∘bQ∘Jj∘JZ∘aH) fun E=>by exact ⟨congrArg (fun b=>Ending.returned (.bool b)) (by unfold Bs.right;rw [Bool.eq_iff_iff];(try simp at hb6);(try simp);(try omega)),E.below⟩
theorem q3p {x y:Int} (h:y≤x) (h2:x-y<9223372036854775808):IntKind.u64.wrap (IntKind.i64.wrap (x-y))=((x-y).toNat:Int):=by
 rw [IntWalk.i64_in _ om,IntKind.wrap_u64];omega
theorem qkf {b:Bs} {e:Ev} (h:e.check=0) (h2:b.right=true∧b.behind e=true):q9 b e=0:=by unfold q9;rw [if_neg (by simp [h]),if_pos h2]
theorem ZI {b:Bs} {e:Ev} (h:e.check=0) (h2:b.right=true∧b.behind e=true):pI b e=zi b e:=by unfold pI;rw [if_pos (qkf h h2)]
theorem Md {b:Bs} {e:Ev} (h:q9 b e≠0):pI b e=[]:=by unfold pI;rw [if_neg h]
theorem zce {e:Ev} (he:e.Ok):∀x∈e.vals,x<18446744073709551616:=by
 intro x hx
 unfold Ev.vals at hx
 obtain ⟨i,_,rfl⟩:=List.mem_map.1 hx
 have h1:=he.task.2;have h2:=he.group.2;have h3:=he.to.2;have h4:=he.weight.2;have h5:=he.ticks.2;have h6:=he.mask;have h7:=he.got.2
 unfold Ev.iy
 split<;>omega
theorem q3q (b:Bs) (e:Ev) (he:e.Ok) (w:World):Calls Tryz.prog 177 #[.agg b.cells,.agg e.cells] w (qx w (q9 b e) (pI b e)):=by
 refine (jw Tryz.func177 70) ?_
 refine (JP∘JE) fun w2 g2=>(JE) fun w3 g3=>(Jp 2∘Jr∘Jy (v:= .agg e.cells) (h:=by exact Yl.qf rfl rfl ⟨kr,kr⟩ rfl (fun _ h=>qb (h.blk (i:=0) rfl)))∘JL (h:=by exact fun E=>qqp e he _)) ?_
 rintro E _ Ld ⟨⟨v,rfl,ho⟩,hbw⟩
 obtain ⟨Bn,c12,rfl,I7⟩:=EY ho
 refine ⟨_,rfl,_,E.bq hbw ho,?_⟩
 refine (Jp 1∘Jx∘Jx∘Jp 2∘Jj∘JQ∘JP∘Jp 2∘aQ∘Jj) (Ju (fun gN=>?_) fun gN=>?_)
 ·
  intro a Z E
  have hbad:e.check≠0:=by rw [bne_iff_ne] at gN;omega
  exact Jb Z E ((JT∘JP∘Jp 3∘Jj∘JZ∘bW) fun E=>by exact ⟨⟨none,0,by rw [Md (by rw [show q9 b e=e.check from by unfold q9;rw [if_pos hbad]];exact hbad),show q9 b e=e.check from by unfold q9;rw [if_pos hbad]];rfl,by rw [Md (by rw [show q9 b e=e.check from by unfold q9;rw [if_pos hbad]];exact hbad)];exact World.ownsRow_nil _ _ _ _,by rw [Md (by rw [show q9 b e=e.check from by unfold q9;rw [if_pos hbad]];exact hbad)];exact Nat.le_refl _⟩,E.below⟩)
 intro a Z E
 have hgood:e.check=0:=by rw [bne_eq_false_iff_eq] at gN;omega
 have hov:e.zb=e.vals:=by unfold Ev.zb;rw [if_pos hgood]
 obtain ⟨_,_,_,q1,q2,q3,q4⟩:=EP hgood
 have hvl:=Vh e
 rw [←hov] at hvl
 have ZJ:=zce he
 refine Jb Z E ((JF∘aG∘JQ) fun a Z E=>?_)
 refine zn (fun aS wS=>Fr aS 70 [] [(34,.bool (!(b.right&&b.behind e))),(16,.bool false),(7,vI e.check),(6,.slice Bn e.zb.length c12),(5,vI 0),(4,vN),(3,vP g3 0),(2,vP g2 0)]∧Mem w wS [.row (.slice Bn e.zb.length c12) e.zb.length (e.zb.map aR) 41 1,.blk g3 e.cells 242,.blk g2 b.cells 249]) ?_ ?_
 ·
  refine zg ?_
  refine Jb Z E ((Jy (v:= .agg b.cells) (h:=by exact Yl.qf rfl rfl ⟨kr,kr⟩ rfl (fun _ h=>qb (h.blk (i:=2) rfl)))∘JL (h:=by exact fun E=>qke b _)) ?_)
  rintro E _ FJ ⟨rfl,hbw⟩
  refine ⟨_,rfl,_,E.call hbw,?_⟩
  refine (Jp 2) (Ju (fun fT=>?_) fun fT=>?_)
  ·
   refine (Jv 13 [(34,.bool true)]∘eZ∘Jq) fun a Z E=>?_
   have Z:=Z.sp 34 (.bool (!(b.right&&b.behind e))) rfl (congrArg Value.bool (by unfold Bs.behind;(try simp at gN);(try simp at fT);rw [Bool.eq_iff_iff];(try simp [gN,fT]);(try omega)))
   exact ⟨Z.sub kr,E.pk [0,1,2]⟩
  refine (Jg 0 O1∘Jg 0 O2∘Jp 3) (Ju (fun rJ=>?_) fun rJ=>?_)
  ·
   refine (Jp 6∘aF∘Jq) fun a Z E=>?_
   have Z:=Z.sp 34 (.bool (!(b.right&&b.behind e))) rfl (congrArg Value.bool (by unfold Bs.behind;(try simp at gN);(try simp at fT);(try simp at rJ);rw [Bool.eq_iff_iff];(try simp [gN,fT,rJ]);(try omega)))
   exact ⟨Z.sub kr,E.pk [0,1,2]⟩
  refine (Jg 1 O1∘Jg 1 O2∘Jp 2∘aF∘Jq) fun a Z E=>?_
  have Z:=Z.sp 34 (.bool (!(b.right&&b.behind e))) rfl (congrArg Value.bool (by unfold Bs.behind;(try simp at gN);(try simp at fT);(try simp at rJ);rw [Bool.eq_iff_iff];(try simp [gN,fT,rJ]);(try omega)))
  exact ⟨Z.sub kr,E.pk [0,1,2]⟩
 clear Z E;rintro a w4 ⟨Z,E⟩
 refine Jb Z E (Ju (fun mD=>?_) fun mD=>?_)
 ·
  intro a Z E
  have hrb:¬(b.right=true∧b.behind e=true):=by intro h;rw [h.1,h.2] at mD;cases mD
  exact Jb Z E ((JT∘JP∘Jp 2∘Jj∘JZ∘bW) fun E=>by exact ⟨⟨none,0,by rw [Md (by rw [show q9 b e=70 from by unfold q9;rw [if_neg (by simp [hgood]),if_neg hrb]];decide),show q9 b e=70 from by unfold q9;rw [if_neg (by simp [hgood]),if_neg hrb]];rfl,by rw [Md (by rw [show q9 b e=70 from by unfold q9;rw [if_neg (by simp [hgood]),if_neg hrb]];decide)];exact World.ownsRow_nil _ _ _ _,by rw [Md (by rw [show q9 b e=70 from by unfold q9;rw [if_neg (by simp [hgood]),if_neg hrb]];decide)];exact Nat.le_refl _⟩,E.below⟩)
 intro a Z E
 have hrb:b.right=true∧b.behind e=true:=by simpa using mD
 have hbr:=hrb.1
 have hbb:=hrb.2
 unfold Bs.right at hbr
 unfold Bs.behind at hbb
 simp only [decide_eq_true_eq] at hbr hbb
 refine Jb Z E ((JF∘aG∘JP∘Jg 3 O1∘JU aL #[vB e.kind]) fun CS g37=>(Jp 1∘aT∘Jr∘Jp 1∘Jg 0 O2∘Jg 0 O3∘Jp 1∘Jv 1 [(44,vQ (IntKind.u64.wrap (IntKind.i64.wrap (e.seq-b.seq))))]∘Jo (vQ ((e.seq-b.seq).toNat)) (by rw [q3p om om])∘JL (h:=by exact fun E=>Uu ((e.seq-b.seq).toNat) _ om)) ?_)
 rintro E _ Nf ⟨v,rfl,ho,hbw⟩
 obtain ⟨A45,c45,rfl,ZK⟩:=EY ho
 have asB:=qy ((e.seq-b.seq).toNat)
 refine ⟨_,rfl,_,E.bq hbw ho,?_⟩
 intro a Z E
 refine fo Z 8 rfl rfl ?_
 replace E:=E.dJ (i:=1) (n:=1) (size:=1) rfl rfl de
 refine qz Z E (i:=1) rfl aL rfl rfl rfl (news:=((aj ((e.seq-b.seq).toNat)).map B8)) (E.rd (i:=0) rfl) (mH _) om om rfl de ?_
 clear Z E;intro a K7 xV c46 Z E sQ
 refine Jb Z E ((Jp 1∘aF∘Jr∘Jp 1∘Jg 1 O3∘Jg 1 O4∘Jp 1∘Jv 1 [(53,vQ (IntKind.u64.wrap (IntKind.i64.wrap (e.time-b.time))))]∘Jo (vQ ((e.time-b.time).toNat)) (by rw [q3p om om])∘JL (h:=by exact fun E=>Uu ((e.time-b.time).toNat) _ om)) ?_)
 rintro E _ JN ⟨v,rfl,ho,hbw⟩
 obtain ⟨A54,c54,rfl,ZL⟩:=EY ho
 have asE:=qy ((e.time-b.time).toNat)
 refine ⟨_,rfl,_,E.bq hbw ho,?_⟩
 refine (JD ((aj ((e.time-b.time).toNat)).map B8) 2 (fun _ _=>gH) aL (hr:=by exact fun E=>E.rd (i:=0) rfl) (h1:=by exact mH _)) fun FI mM mO iF=>(Jp 1∘aF∘Jq) fun a Z E=>?_
 have Qt:(1+((aj ((e.seq-b.seq).toNat)).length))+((aj ((e.time-b.time).toNat)).length)=(d9 b e 0).length:=by rw [qmc];simp;try omega
 rw [Qt] at E iF
 rw [show (((#[vB e.kind]).toList)++((aj ((e.seq-b.seq).toNat)).map B8))++((aj ((e.time-b.time).toNat)).map B8)=(d9 b e 0).map B8 from by simp [qmc,B8]] at E
 replace Z:=Z.sp 8 (.slice mM ((d9 b e 0).length) mO) rfl (by rw [Qt])
 refine Jb Z E ((JG∘JQ∘JP∘Jp 1∘Jj∘JB∘JM (.f (.f .n))) fun a Z E=>?_)
 refine qc (fun mS aS wS=>∃(k:Nat) (Ak:Option Addr) (ck:Nat),(k≤e.zb.length)∧((d9 b e k).length≤ck)∧mS=e.zb.length-k∧Fr aS 70 [] [(9,vI k),(8,.slice Ak ((d9 b e k).length) ck),(34,.bool false),(16,.bool false),(7,vI e.check),(6,.slice Bn e.zb.length c12),(5,vI 0),(4,vN),(3,vP g3 0),(2,vP g2 0)]∧Mem w wS [.row (.slice Ak ((d9 b e k).length) ck) ((d9 b e k).length) ((d9 b e k).map B8) 5 1,.row (.slice Bn e.zb.length c12) e.zb.length (e.zb.map aR) 41 1,.blk g3 e.cells 242,.blk g2 b.cells 249]) (m:=e.zb.length-0) ⟨0,mM,mO,Nat.zero_le _,iF,rfl,Z.sub kr,E.pk [0,1,2,3]⟩ ?_
 clear Z E;rintro mS a w_ ⟨k,Ak,ck,hk,hck,rfl,Z,E⟩
 refine Jb Z E ((JQ∘JP∘Jp 2∘Jl∘Jp 1∘bQ∘Jj) (Ju (fun uq=>?_) fun uq=>?_))
 ·
  intro a Z E
  have uw:k<e.zb.length:=by simp only [decide_eq_true_eq] at uq;omega
  obtain ⟨x,hx⟩:∃x,e.vals[k]?=some x:=⟨_,List.getElem?_eq_getElem (by rw [←hov];exact uw)⟩
  have hpl:=q21 b e k
  refine Jb Z E ((JT∘aG∘JQ∘JB∘JR∘Jp 3) ?_)
  repeat (first|clear Z|clear E)
  intro a Z E
  obtain ⟨ZM,rfl⟩:=Dq (E.own (i:=1) rfl) (Nat.lt_of_le_of_lt (Nat.zero_le _) (show k<e.zb.length from uw))
  refine Jb Z E ((Jy (h:=by exact Yl.uV ZM k 1 rfl rfl rfl (uw))∘Jy (v:=vQ x) (h:=by exact Yl.qj rfl rfl kr (fun _ h=>h.q9y (i:=1) rfl (k:=k) (E5 (F:=aR) (k:=k) (x:=x) (by rw [hov];exact hx))))∘JL (h:=by exact fun E=>Uu x _ (ZJ _ (List.mem_of_getElem? hx)))) ?_)
  rintro E _ w67 ⟨v,rfl,ho,hbw⟩
  obtain ⟨A67,c67,rfl,asF⟩:=EY ho
  have asG:=qy x
  refine ⟨_,rfl,_,E.bq hbw ho,?_⟩
  refine (JD ((aj x).map B8) 1 (fun _ _=>gQ) aL (hr:=by exact fun E=>E.rd (i:=0) rfl) (h1:=by exact mH _)) fun YG A68 c68 Qu=>(Jp 1∘aF∘Jq) fun a Z E=>?_
  have Qv:((d9 b e k).length)+((aj x).length)=(d9 b e (k+1)).length:=by rw [qmd hx];simp
  rw [Qv] at E Qu
  rw [show ((d9 b e k).map B8)++((aj x).map B8)=(d9 b e (k+1)).map B8 from by rw [qmd hx,List.map_append]] at E
  replace Z:=Z.sp 8 (.slice A68 ((d9 b e (k+1)).length) c68) rfl (by rw [Qv])
  refine Jb Z E ((JG∘JR∘Jp 2∘Jo (vI (k+1:Nat)) (by rw [IntWalk.i64_in _ om];simp)∘Jp 1∘aT∘Jq) fun a Z E=>?_)
  exact ⟨_,om,k+1,A68,c68,uw,Qu,rfl,Z.sub kr,E.pk [1,2,3,4]⟩
 repeat (first|clear Z|clear E)
 intro a Z E
 obtain rfl:k=e.vals.length:=by rw [hov] at uq hk;simp only [decide_eq_false_iff_not] at uq;omega
 exact Jb Z E ((JF∘JX∘JG∘JP∘Jp 3∘Jj∘JZ∘bW) fun E=>by exact ⟨⟨Ak,ck,by rw [ZI hgood hrb,qkf hgood hrb,←Zg];rfl,by rw [ZI hgood hrb,←Zg];exact E.own (i:=0) rfl,by rw [ZI hgood hrb,←Zg];exact hck⟩,E.below⟩)
theorem ZH (A:Option Addr) (n c:Nat) (l:List Ev) (hok:∀e∈l,e.Ok) (w:World) (hr:Rd w w.heap.size 11 A n (l.flatMap eF)) (hn:n≤140737488355328) (hln:l.length=n):
    Calls Tryz.prog 175 #[.slice A n c] w (Et w (eu l)):=by
 refine (bZ Tryz.func175 66) ?_
 refine (JP∘Jp 2∘Jj∘JQ∘JP∘Jp 1∘Jj∘JB) fun a Z E=>?_
 refine qc (fun mS aS wS=>∃(k:Nat),(k≤n)∧(eu l=fI (yF l k) k (l.drop k))∧mS=n-k∧Fr aS 66 [] [(4,vI k),(3,vI 0),(2,vI 0),(0,.slice A n c)]∧Mem w wS []) (m:=n-0) ⟨0,Nat.zero_le _,rfl,rfl,Z.sub kr,E.pk []⟩ ?_
 clear Z E;rintro mS a w_ ⟨k,hk,hj,rfl,Z,E⟩
 refine Jb Z E ((JQ∘JP∘Jp 2∘Jl∘Jp 1∘bQ∘Jj) (Ju (fun lI=>?_) fun lI=>?_))
 ·
  intro a Z E
  have yX:k<n:=by simp at lI;omega
  obtain ⟨e,hke⟩:∃e,l[k]?=some e:=⟨_,List.getElem?_eq_getElem om⟩
  have hgo:=qxo hke
  refine Jb Z E ((JT∘aG∘JQ∘JB∘JQ∘JP∘Jp 2) ?_)
  repeat (first|clear Z|clear E)
  intro a Z E
  obtain ⟨gA,oA,rfl,_⟩:=hr.qd (Nat.lt_of_le_of_lt (Nat.zero_le _) (show k<n from yX)) de
  refine Jb Z E ((Jy (h:=by exact Yl.ix gA oA k 11 rfl rfl rfl (yX))∘Jy (v:= .agg e.cells) (h:=by exact Yl.qf rfl rfl ⟨kr,kr⟩ rfl (fun _ h=>(h.old hr).qm zf (hke)))∘JL (h:=by exact fun E=>qj9 e (hok e (List.mem_of_getElem? hke)) _)) ?_)
  rintro E _ w16 ⟨rfl,hbw⟩
  refine ⟨_,rfl,_,E.call hbw,?_⟩
  refine (Jp 1∘jq∘Jr∘Jp 2∘aQ∘Jj) (Ju (fun fQ=>?_) fun fQ=>?_)
  ·
   intro a Z E
   have hcb:e.check≠0:=by rw [bne_iff_ne] at fQ;omega
   rw [if_pos hcb] at hgo
   exact Jb Z E ((JT∘JP∘Jp 4∘Jj∘JZ∘bW) fun E=>by exact ⟨by rw [hj,hgo];(try rfl),E.below⟩)
  intro a Z E
  have hcg:¬e.check≠0:=by rw [bne_eq_false_iff_eq] at fQ;omega
  rw [if_neg hcg] at hgo
  refine Jb Z E ((JF∘aG) fun a Z E=>?_)
  refine zn (fun aS wS=>Fr aS 66 [] [(64,.bool (!(yF l k).all (fun q=>e.after q))),(18,.bool false),(5,vI e.check),(9,.bool true),(4,vI k),(3,vI 0),(2,vI 0),(0,.slice (some ⟨gA,oA,none⟩) n c)]∧Mem w wS []) ?_ ?_
  ·
   refine Jb Z E ((Vs .n []) fun SS=>(Vp [0,1,2]) fun a Z E HS=>?_)
   rcases Z.tf 23 rfl with ⟨fU,Z⟩|⟨fU,Z⟩
   ·
    have hk0:0<k:=by simp at fU;omega
    obtain ⟨q,hq⟩:∃q,l[k-1]?=some q:=⟨_,List.getElem?_eq_getElem om⟩
    have hpv:yF l k=some q:=by rw [←hq,show k=(k-1)+1 by omega];rfl
    refine Vb Z E HS ((Vp [3,4,8,9]∘Vy 5 (h:=by exact Yl.ix gA oA k 11 rfl rfl rfl (yX))∘Vf 6 2∘Vy 7 (v:=vB e.cpu) (h:=by exact Yl.qj rfl rfl kr (fun _ h=>(h.old hr).partAt zf (k:=k) (j:=2) (x:=e) (hke) rfl))∘Vp [10]∘Vo (vI (k-1:Nat)) (by rw [IntWalk.i64_in _ om];congr 1;omega)∘Vy 11 (h:=by exact Yl.ix gA oA (k-1) 11 rfl rfl rfl)∘Vf 12 2∘Vy 13 (v:=vB q.cpu) (h:=by exact Yl.qj rfl rfl kr (fun _ h=>(h.old hr).partAt zf (k:=(k-1)) (j:=2) (x:=q) (hq) rfl))∘Vp [14,15]) fun a Z E HS=>?_)
    rcases Z.tf 36 rfl with ⟨mR,Z⟩|⟨mR,Z⟩
    ·
     refine Vb Z E HS ((Vq [16,17,18,19,20,21,22,23,24,25,26,27,28,29,30,31,32,33,34,35,36,37,38,39,40,41,42,43] [(64,.bool true)]∘Vd∘aF) fun a Z E=>?_)
     have Z:=Z.sp 64 (.bool (!(yF l k).all (fun q=>e.after q))) rfl (congrArg Value.bool (by rw [hpv];(try simp at lI);(try simp at fQ);(try simp at fU);(try simp at mR);rw [Bool.eq_iff_iff];simp [Ev.after];try omega))
     exact ⟨Z.sub kr,E.pk []⟩
    refine ap Z (fun _=>HS) [16,17,21,22] (bf 44 [0,1,2,3,4,5,6,7,8,9,10,11,12,13,14,15,16,17,21,22]) [(43,vI k),(42,.slice (some ⟨gA,oA,none⟩) n c),(38,vI k),(37,.slice (some ⟨gA,oA,none⟩) n c)] fun a Z=>?_
    refine jd Z HS 18 rfl (v:=vP gA (oA+k*11)) (Yl.ix gA oA k 11 rfl rfl rfl (yX)) fun a Z=>?_
    refine ap Z (fun _=>HS) [19] (bf 44 [0,1,2,3,4,5,6,7,8,9,10,11,12,13,14,15,16,17,18,19,21,22]) [(40,vP gA (oA+k*11))] fun a Z=>?_
    refine jd Z HS 20 rfl (v:=vI e.seq) (Yl.qj rfl rfl kr (fun _ h=>(by have:=(h.old hr).partAt zf (k:=k) (j:=0) (x:=e) (hke) rfl;simpa using this))) fun a Z=>?_
    refine yM Z (fun _=>HS) (i:=23) rfl rfl (d:=44) rfl de kr (fun _ _ _ h=>h) (v:=vI (IntKind.i64.wrap ((k:Int)-1))) (fun _=>Yl.pure kr) fun a Z=>?_
    replace Z:=Z.sp 44 (vI (k-1:Nat)) rfl (by rw [IntWalk.i64_in _ om];congr 1;omega)
    refine jd Z HS 24 rfl (v:=vP gA (oA+(k-1)*11)) (Yl.ix gA oA (k-1) 11 rfl rfl rfl) fun a Z=>?_
    refine ap Z (fun _=>HS) [25] (bt 44 [26,27,28,29,30,31,32,33,34,35,36,37,38,39,40,41,42,43]) [(46,vP gA (oA+(k-1)*11))] fun a Z=>?_
    refine jd Z HS 26 rfl (v:=vI q.seq) (Yl.qj rfl rfl kr (fun _ h=>(by have:=(h.old hr).partAt zf (k:=(k-1)) (j:=0) (x:=q) (hq) rfl;simpa using this))) fun a Z=>?_
    refine ap Z (fun _=>HS) [27,28,29] (bt 44 [30,31,32,33,34,35,36,37,38,39,40,41,42,43]) [(50,.bool (decide ((e.seq:Int)≤(q.seq:Int))))] fun a Z=>?_
    refine Jb Z E (Ju (fun J2=>?_) fun J2=>?_)
    ·
     intro a Z E
     refine ap Z (fun _=>HS) [30,31,32,33,34,35,36,37,38,39,40,41,42,43] (bt 44 []) [(64,.bool true)] fun a Z=>?_
     refine qg kr ?_
     have Z:=Z.sp 64 (.bool (!(yF l k).all (fun q=>e.after q))) rfl (congrArg Value.bool (by rw [hpv];(try simp at lI);(try simp at fQ);(try simp at fU);(try simp at mR);(try simp at J2);rw [Bool.eq_iff_iff];simp [Ev.after];try omega))
     exact ⟨Z.sub kr,E.pk []⟩
    intro a Z E
    refine ap Z (fun _=>HS) [30,31,35,36] (bt 44 [32,33,34,37,38,39,40,41,42,43]) [(57,vI k),(56,.slice (some ⟨gA,oA,none⟩) n c),(52,vI k),(51,.slice (some ⟨gA,oA,none⟩) n c)] fun a Z=>?_
    refine jd Z HS 32 rfl (v:=vP gA (oA+k*11)) (Yl.ix gA oA k 11 rfl rfl rfl (yX)) fun a Z=>?_
    refine ap Z (fun _=>HS) [33] (bt 44 [34,37,38,39,40,41,42,43]) [(54,vP gA (oA+k*11+1))] fun a Z=>?_
    refine jd Z HS 34 rfl (v:=vI e.time) (Yl.qj rfl rfl kr (fun _ h=>(h.old hr).partAt zf (k:=k) (j:=1) (x:=e) (hke) rfl)) fun a Z=>?_
    refine yM Z (fun _=>HS) (i:=37) rfl rfl (d:=58) rfl de kr (fun _ _ _ h=>h) (v:=vI (IntKind.i64.wrap ((k:Int)-1))) (fun _=>Yl.pure kr) fun a Z=>?_
    replace Z:=Z.sp 58 (vI (k-1:Nat)) rfl (by rw [IntWalk.i64_in _ om];congr 1;omega)
    refine jd Z HS 38 rfl (v:=vP gA (oA+(k-1)*11)) (Yl.ix gA oA (k-1) 11 rfl rfl rfl) fun a Z=>?_
    refine ap Z (fun _=>HS) [39] (bt 44 [40,41,42,43]) [(60,vP gA (oA+(k-1)*11+1))] fun a Z=>?_
    refine jd Z HS 40 rfl (v:=vI q.time) (Yl.qj rfl rfl kr (fun _ h=>(h.old hr).partAt zf (k:=(k-1)) (j:=1) (x:=q) (hq) rfl)) fun a Z=>?_
    refine ap Z (fun _=>HS) [41,42,43] (bt 44 []) [(64,.bool (decide ((e.time:Int)<(q.time:Int))))] fun a Z=>?_
    refine qg kr ?_
    replace Z:=Z.to [(64,.bool (decide ((e.time:Int)<(q.time:Int)))),(18,.bool false),(5,vI e.check),(9,.bool true),(4,vI k),(3,vI 0),(2,vI 0),(0,.slice (some ⟨gA,oA,none⟩) n c)]
    have Z:=Z.sp 64 (.bool (!(yF l k).all (fun q=>e.after q))) rfl (congrArg Value.bool (by rw [hpv];(try simp at lI);(try simp at fQ);(try simp at fU);(try simp at mR);(try simp at J2);rw [Bool.eq_iff_iff];simp [Ev.after];try omega))
    exact ⟨Z.sub kr,E.pk []⟩
   have hpv:yF l k=none:=by rw [show k=0 by simp at fU;omega];rfl
   refine ap Z (fun _=>HS) [3,4,5,6,7,8,9,10,11,12,13,14,15,16,17,18,19,20,21,22,23,24,25,26,27,28,29,30,31,32,33,34,35,36,37,38,39,40,41,42,43] (bt 44 []) [(64,.bool false)] fun a Z=>?_
   refine qg kr ?_
   have Z:=Z.sp 64 (.bool (!(yF l k).all (fun q=>e.after q))) rfl (congrArg Value.bool (by rw [hpv];(try simp at lI);(try simp at fQ);(try simp at fU);rw [Bool.eq_iff_iff];simp [Ev.after];try omega))
   exact ⟨Z.sub kr,E.pk []⟩
  clear Z E;rintro a w7 ⟨Z,E⟩
  refine Jb Z E (Ju (fun wB=>?_) fun wB=>?_)
  ·
   intro a Z E
   rw [if_pos (by simpa using wB)] at hgo
   exact Jb Z E ((JT∘JP∘Jp 3∘Jj∘JZ∘bW) fun E=>by exact ⟨by rw [hj,hgo];(try rfl),E.below⟩)
  intro a Z E
  rw [if_neg (by simpa using wB)] at hgo
  refine Jb Z E ((JF∘aG∘JR∘Jp 2∘Jo (vI (k+1:Nat)) (by rw [IntWalk.i64_in _ om];simp)∘Jp 1∘aT∘Jq) fun a Z E=>?_)
  exact ⟨_,om,k+1,by omega,hj.trans hgo,rfl,Z.sub kr,E.pk []⟩
 intro a Z E
 have yX:k=n:=by simp at lI;omega
 exact Jb Z E ((JF∘JX∘JG∘JP∘Jp 2∘Jj∘JZ∘bW) fun E=>by exact ⟨by rw [hj,yX,List.drop_eq_nil_of_le om];cases yF l n<;>rfl,E.below⟩)
structure It where
 e:Ev
 before:Int
structure It.Ok (x:It):Prop where
 e:x.e.Ok
 before:bP x.before
def It.cells (x:It):Array Value:= #[.int .i64 x.e.seq,.int .i64 x.e.time,.int .u8 (x.e.cpu:Int),.int .u8 (x.e.kind:Int),.int .i64 x.e.task,.int .i64 x.e.group,.int .i64 x.e.to,.int .i64 x.e.weight,.int .i64 x.e.ticks,.int .u64 (x.e.mask:Int),.int .i64 x.e.got,.int .i64 x.before]
def itL (x:It):List Value:=x.cells.toList
def rM (l:List It):List Ev:=l.map It.e
def pU (l:List It):List Int:=l.map It.before
def Ii:Int→List Int→Bool
 |_,[]=>true
 |r,n::t=>decide (0≤n∧n≤r)&&Ii (r-n) t
def W9:Int:=281474976710656
def Fy (cpu:Nat):List It→Bool
 |[]=>true
 |x::_=>decide (x.e.cpu=cpu)
def q0h (cpu:Nat) (l:List It) (opn:Int):Bool:=decide ((eu (rM l)).2=0)&& (Ii W9 (opn::pU l)&&Fy cpu l)
def jr:List Int→Int
 |[]=>0
 |n::t=>n+jr t
theorem qlf:∀{l:List Int} {r:Int},Ii r l=true→∀n∈l,0≤n∧n≤r
 |[],_,_,n,hn=>by cases hn
 | x :: t, r, h, n, hn => by
  simp only [Ii,Bool.and_eq_true,decide_eq_true_eq] at h
  rcases List.mem_cons.1 hn with rfl|hn
  ·exact h.1
  ·have:=qlf h.2 n hn
   omega
theorem qlg:∀{l:List Int} {r:Int},0≤r→Ii r l=true→0≤jr l∧jr l≤r
 |[],r,hr,_=>⟨Int.le_refl _,hr⟩
 |x::t,r,hr,h=>by
  simp only [Ii,Bool.and_eq_true,decide_eq_true_eq] at h
  have:=qlg om h.2
  simp only [jr]
  omega
theorem qub:∀(a b:List Int),jr (a++b)=jr a+jr b
 |[],b=>by simp [jr]
 |x::a,b=>by simp only [List.cons_append,jr,qub a b];omega
theorem qpg {cpu:Nat}:∀(l:List Ev) (p:Option Ev) (b:Bs) (k:Nat),Chain cpu p b l→∃b',Chain cpu none b' (l.drop k)
 |[],_,b,k,_=>⟨b,by rw [List.drop_nil];trivial⟩
 |e::r,p,b,0,h=>⟨b,h.1,h.2.1,(fun q hq=>by cases hq),h.2.2.2⟩
 |e::r,_,_,k+1,h=>qpg r (some e) e.at k h.2.2.2
theorem q0i (l:List It) (n:Nat):rM (l.drop n)=(rM l).drop n:=by unfold rM;rw [List.map_drop]
theorem qlh (l:List It) (n:Nat):jr (pU l)=jr (pU (l.take n))+jr (pU (l.drop n)):=by grind [pU,qub,List.map_drop,List.map_take,List.take_append_drop]
theorem qr3:∀{l:List Int},(∀n∈l,0≤n)→0≤jr l:=by intro x;induction x<;>grind [jr,List.mem_cons_of_mem,List.mem_cons_self]
structure ow (cpu:Nat) (l:List It) (opn:Int):Prop where
 c64:cpu<64
 chain:∃b,Chain cpu none b (rM l)
 ok:∀x∈l,x.Ok
 o0:0≤opn
 Ti:∀x∈l,0≤x.before
 sum:opn+jr (pU l)≤281474976710656
theorem Xa {l:List It} (h:∀x∈l,0≤x.before):0≤jr (pU l):=by simp_all [pU,qr3]
theorem ow.drop {cpu:Nat} {l:List It} {opn:Int} (h:ow cpu l opn) (k:Nat):ow cpu (l.drop k) opn:=by
 obtain ⟨b,hb⟩:=h.chain
 have h1:=qlh l k
 have h2:=Xa (l:=l.take k) (fun x hx=>h.Ti x (List.mem_of_mem_take hx))
 have h3:=h.sum
 exact ⟨h.c64,by rw [q0i];exact qpg _ _ _ k hb,fun x hx=>h.ok x (List.mem_of_mem_drop hx),h.o0,fun x hx=>h.Ti x (List.mem_of_mem_drop hx),by omega⟩
theorem ow.of {cpu:Nat} {l:List It} {opn:Int} (hc:cpu<64) (hok:∀x∈l,x.Ok) (h:q0h cpu l opn=true):ow cpu l opn:=by
 unfold q0h at h
 simp only [Bool.and_eq_true,decide_eq_true_eq] at h
 obtain ⟨h1,h2,h3⟩:=h
 have hr:=h2
 simp only [Ii,Bool.and_eq_true,decide_eq_true_eq] at hr
 have hs:=qlg (r:=W9-opn) om hr.2
 have hm:W9=281474976710656:=rfl
 refine ⟨hc,?_,hok,hr.1.1,?_,by omega⟩
 ·cases l with
  |nil=>exact ⟨⟨0,0⟩,trivial⟩
  | cons x r =>
   have hev:∀e∈rM (x::r),e.Ok:=fun e he=>by
    unfold rM at he
    obtain ⟨y,hy,rfl⟩:=List.mem_map.1 he
    exact (hok y hy).e
   have hx:x.e.check=0:=qt4 h1 rfl
   have hcp:x.e.cpu=cpu:=by simpa [Fy] using h3
   refine ⟨x.e.at,Wu (rM (x::r)) none x.e.at 0 hev (SY hx) ?_ (fun q hq=>by cases hq) h1⟩
   intro y hy
   have:y=x.e:=by simpa [rM] using hy.symm
   subst this
   exact ⟨qjm _,hcp⟩
 ·intro x hx
  exact (qlf hr.2 x.before (List.mem_map_of_mem hx)).1
section
variable {cpu:Nat} {l:List It} {opn limit:Int}
end
def It.zero:It:=⟨Ev.zero,0⟩
theorem Xb:EI Tryz.prog 51 85 (.agg #[.int .u8 0,.int .u8 0,.int .i64 0,.int .i64 0,.slice none 0 0]) 5 48:=⟨by kernel_rfl,by kernel_rfl,rfl,by omega⟩
theorem q8r:EI Tryz.prog 136 80 (.agg #[.int .u8 0,.int .u8 0,.int .i64 0,.int .i64 0,.slice none 0 0]) 5 48:=⟨by kernel_rfl,by kernel_rfl,rfl,by omega⟩
theorem qkt {α:Type} {l:List α} {k:Nat} (d:α) (h:k<l.length):l.drop k=l.getD k d::l.drop (k+1):=by
 rw [List.drop_eq_getElem_cons h,List.getD_eq_getElem?_getD,List.getElem?_eq_getElem h]
 rfl
theorem ow.part {cpu:Nat} {l:List It} {opn:Int} (h:ow cpu l opn) (j:Nat):0≤jr (pU (l.take j))∧jr (pU (l.take j))+opn≤281474976710656:=by
 have h1:=qlh l j
 have h2:=Xa (l:=l.take j) (fun x hx=>h.Ti x (List.mem_of_mem_take hx))
 have h3:=Xa (l:=l.drop j) (fun x hx=>h.Ti x (List.mem_of_mem_drop hx))
 have h4:=h.sum
 omega
end Go.Proofs.YtekiimhdnigmcaaGreatDoor
namespace Go.Proofs.YtekiimhdnigmcaaGreatDoor
open Go.RowKit Go.ChangeShapes Go.WideShapes Go.ChangeAt
section
variable {H:Type} {enc:TypeId×Value→H} {P:Program} {W:World} {sp:Nat→Bool} {held:Bool}
theorem flat_get {sz:Nat}:∀(css:List (List Value)),(∀l∈css,l.length=sz)→∀p u,(css.flatMap id)[p]?=some u→∃i j,∃hi:i<css.length,j<sz∧p=i*sz+j∧css[i][j]?=some u:=by
 intro css
 induction css with
 |nil=>intro _ p u h;simp at h
 | cons l r ih =>
  intro h p u hu
  have hll:=h l (by simp)
  rw [List.flatMap_cons] at hu
  by_cases hp:p<sz
  ·rw [List.getElem?_append_left (by simp only [id];omega)] at hu
   exact ⟨0,p,by simp,hp,by omega,hu⟩
  ·rw [List.getElem?_append_right (by simp only [id];omega)] at hu
   simp only [id] at hu
   rw [hll] at hu
   obtain ⟨i,j,hi,hj,hpj,hu'⟩:=ih (fun y hy=>h y (by simp [hy])) _ u hu
   exact ⟨i+1,j,by simp;omega,hj,by rw [Nat.succ_mul];omega,by simpa using hu'⟩
theorem q0k {sz:Nat}:∀(css:List (List Value)),(∀l∈css,l.length=sz)→(css.flatMap id).length=css.length*sz:=by
 intro css
 induction css with
 |nil=>simp
 |cons l r ih=>intro h;rw [List.flatMap_cons,List.length_append,ih (fun y hy=>h y (by simp [hy])),List.length_cons,Nat.succ_mul];have:=h l (by simp);simp only [id];omega
theorem Fz {α:Type} (f:α→List Value) (Ok:α→Prop) {t e:TypeId} {sz:Nat} (ht:P.underlying t=some (.slice e)) (hsz:P.cellsOf e=sz) (h0:0<sz) (hf:∀x,(f x).length=sz)
  (hE:∀m l y,DataW.trod enc P W 0 sp held m e l=some y→∃x,f x=l∧Ok x) {fuel:Nat} {cs:List Value} {x:DataW H×List MemPlace} (h:DataW.trod enc P W 0 sp held fuel t cs=some x):
  ∃(A:Option Addr) (c:Nat) (l:List α),cs=[.slice A l.length c]∧l.length≤c∧c≤maxLen∧(∀x∈l,Ok x)∧Rd W W.heap.size sz A l.length (l.flatMap f):=by
 rcases DataW.trod_slice ht h with ⟨hc,_⟩|⟨a,len,cap,elems,rest,m,_,hc,_,_,hl,hm,hlen,hel,_⟩
 ·exact ⟨none,0,[],hc,Nat.le_refl _,by unfold maxLen;omega,by simp,Rd.nil⟩
 ·have hall:∀i,i<len→∃x:α,W.cells? 0 (a.add (i*sz)) sz=some (f x)∧Ok x:=by
   intro i hi
   have h1:=hel i hi
   rw [hsz,List.getElem?_eq_getElem (by omega:i<elems.length)] at h1
   obtain ⟨l,h2,h3⟩:=Option.bind_eq_some_iff.1 h1
   obtain ⟨x,rfl,hx⟩:=hE _ _ _ h3
   exact ⟨x,h2,hx⟩
  have key:∀k,k≤len→∃xs:List α,xs.length=k∧∀i (hi:i<xs.length),W.cells? 0 (a.add (i*sz)) sz=some (f xs[i])∧Ok xs[i]:=by
   intro k
   induction k with
   |zero=>intro _;exact ⟨[],rfl,fun i hi=>by simp at hi⟩
   | succ k ih =>
    intro hk
    obtain ⟨xs,h1,h2⟩:=ih om
    obtain ⟨x,h3,h4⟩:=hall k om
    refine ⟨xs++[x],by simp [h1],fun i hi=>?_⟩
    by_cases hik:i<xs.length
    ·rw [List.getElem_append_left hik];exact h2 i hik
    ·obtain rfl:i=xs.length:=by simp at hi;omega
     rw [List.getElem_append_right (Nat.le_refl _)]
     simp only [Nat.sub_self,List.getElem_cons_zero,h1]
     exact ⟨h3,h4⟩
  obtain ⟨xs,h1,h2⟩:=key len (Nat.le_refl _)
  have hfm:xs.flatMap f=(xs.map f).flatMap id:=by rw [List.flatMap_map];rfl
  have hll:∀l∈xs.map f,l.length=sz:=fun l hl'=>by obtain ⟨x,_,rfl⟩:=List.mem_map.1 hl';exact hf x
  have hat:∀i (hi:i<xs.length) j,j<sz→W.cell? (a.add (i*sz+j))=(f xs[i])[j]?:=by
   intro i hi j hj
   have:=(World.cells?_some (h2 i hi).1).2.2 j hj
   rwa [UQ] at this
  refine ⟨some a,cap,xs,by rw [hc,h1],by omega,hm,fun x hx=>by obtain ⟨i,hi,rfl⟩:=List.getElem_of_mem hx;exact (h2 i hi).2,⟨by rw [hfm,q0k _ hll,List.length_map],fun hn=>⟨a,rfl,?_,?_⟩⟩⟩
  ·have h3:=hat 0 hn 0 h0
   have h4:=hf xs[0]
   rw [List.getElem?_eq_getElem om] at h3
   have:=World.block_lt_of_cell? W _ h3
   simpa [Addr.add] using this
  ·intro p u hu
   rw [hfm] at hu
   obtain ⟨i,j,hi,hj,rfl,hu'⟩:=flat_get _ hll p u hu
   rw [List.length_map] at hi
   rw [hat i hi j hj,←hu',List.getElem_map]
end
section
variable {H:Type} {enc:TypeId×Value→H} {W:World} {b0:Nat} {v:Value} {d:DataW H} {p:List MemPlace}
end
end Go.Proofs.YtekiimhdnigmcaaGreatDoor
namespace Go.Proofs.YtekiimhdnigmcaaGreatDoor
open Go.RowKit Go.ChangeShapes Go.WideShapes Go.ChangeAt
theorem DZ {cs l:List Value} {o n:Nat} (h:(cs.drop o).take n=l) (i:Nat) (hi:i<n):cs[o+i]?=l[i]?:=by
 rw [←h,List.getElem?_take,if_pos hi,List.getElem?_drop]
section
variable {H:Type} {enc:TypeId×Value→H} {W:World} {b0:Nat} {v:Value} {d:DataW H} {p:List MemPlace}
theorem q1n:ES Tryz.prog 198 [.i64,.i64]=true:=by kernel_rfl
theorem q1o:ES Tryz.prog 200 [.u64,.u32,.u64]=true:=by kernel_rfl
theorem q6n:Tryz.prog.underlying 4=some .bool:=by kernel_rfl
theorem XZ:Tryz.prog.underlying 41=some (.int .u64):=by kernel_rfl
theorem qxc:Tryz.prog.cellsOf 4=1:=by kernel_rfl
theorem q1p:Tryz.prog.cellsOf 61=1:=by kernel_rfl
theorem qpz:Tryz.prog.cellsOf 41=1:=by kernel_rfl
theorem za2:Tryz.prog.underlying 42=some (.slice 198):=by kernel_rfl
theorem za3:Tryz.prog.underlying 45=some (.slice 232):=by kernel_rfl
theorem za4:Tryz.prog.underlying 176=some (.slice 200):=by kernel_rfl
theorem za5:Tryz.prog.underlying 46=some (.slice 176):=by kernel_rfl
theorem qux:Tryz.prog.underlying 38=some (.slice 3):=by kernel_rfl
theorem q6o:Tryz.prog.cellsOf 198=2:=by kernel_rfl
theorem quy:Tryz.prog.cellsOf 232=8:=by kernel_rfl
theorem q6p:Tryz.prog.cellsOf 200=3:=by kernel_rfl
theorem q1q:Tryz.prog.cellsOf 176=1:=by kernel_rfl
theorem q1r:Tryz.prog.cellsOf 42=1:=by kernel_rfl
theorem q1s:Tryz.prog.cellsOf 45=1:=by kernel_rfl
theorem qxd:Tryz.prog.cellsOf 38=1:=by kernel_rfl
theorem q1t:Tryz.prog.cellsOf 46=1:=by kernel_rfl
theorem q1u:Tryz.prog.cellsOf 44=3:=by kernel_rfl
theorem quz:Tryz.prog.cellsOf 48=7:=by kernel_rfl
theorem qp0:Tryz.prog.cellsOf 50=8:=by kernel_rfl
theorem za6 {fuel:Nat} {cs:List Value} {x:DataW H×List MemPlace} (hf:DataW.trod enc Tryz.prog W 0 (fun _=>true) true fuel 198 cs=some x):∃y:Gr,gZ y=cs∧y.Ok:=by
 obtain ⟨hl,h⟩:=Vm q1n hf
 obtain ⟨z0,h0,w0⟩:=h 0 .i64 rfl
 obtain ⟨z1,h1,w1⟩:=h 1 .i64 rfl
 refine ⟨⟨z0,z1⟩,(ET (m:=gZ ⟨z0,z1⟩) hl fun i hi=>?_).symm,qZ w0,qZ w1⟩
 have hi2:i<2:=hi
 have hc:i=0∨i=1:=by omega
 rcases hc with rfl|rfl
 ·exact h0
 ·exact h1
theorem za7 {fuel:Nat} {cs:List Value} {x:DataW H×List MemPlace} (hf:DataW.trod enc Tryz.prog W 0 (fun _=>true) true fuel 200 cs=some x):∃y:Sp,jy y=cs∧y.Ok:=by
 obtain ⟨hl,h⟩:=Vm q1o hf
 obtain ⟨z0,h0,w0⟩:=h 0 .u64 rfl
 obtain ⟨z1,h1,w1⟩:=h 1 .u32 rfl
 obtain ⟨z2,h2,w2⟩:=h 2 .u64 rfl
 have w0:=KR w0
 have w1:=q8g w1
 have w2:=KR w2
 obtain ⟨n0,rfl⟩:∃n:Nat,z0=n:=⟨z0.toNat,by omega⟩
 obtain ⟨n1,rfl⟩:∃n:Nat,z1=n:=⟨z1.toNat,by omega⟩
 obtain ⟨n2,rfl⟩:∃n:Nat,z2=n:=⟨z2.toNat,by omega⟩
 refine ⟨⟨n0,n1,n2⟩,(ET (m:=jy ⟨n0,n1,n2⟩) hl fun i hi=>?_).symm,⟨by show n0<_;omega,by show n1<_;omega,by show n2<_;omega⟩⟩
 have hi2:i<3:=hi
 have hc:i=0∨i=1∨i=2:=by omega
 rcases hc with rfl|rfl|rfl
 ·exact h0
 ·exact h1
 ·exact h2
theorem Oi:fieldAt Tryz.prog 232 0 0 3=true:=by kernel_rfl
theorem Oj:fieldAt Tryz.prog 232 1 1 3=true:=by kernel_rfl
theorem Ol:fieldAt Tryz.prog 232 2 2 3=true:=by kernel_rfl
theorem Om:fieldAt Tryz.prog 232 3 3 3=true:=by kernel_rfl
theorem Oo:fieldAt Tryz.prog 232 4 4 41=true:=by kernel_rfl
theorem Oq:fieldAt Tryz.prog 232 5 5 4=true:=by kernel_rfl
theorem Ot:fieldAt Tryz.prog 232 6 6 41=true:=by kernel_rfl
theorem Ou:fieldAt Tryz.prog 232 7 7 61=true:=by kernel_rfl
theorem za8 {fuel:Nat} {cs:List Value} {x:DataW H×List MemPlace} (hf:DataW.trod enc Tryz.prog W 0 (fun _=>true) true fuel 232 cs=some x):∃y:Tk,lW y=cs∧y.Ok:=by
 obtain ⟨hl,_,y0,g0⟩:=qo Oi hf
 obtain ⟨_,_,y1,g1⟩:=qo Oj hf
 obtain ⟨_,_,y2,g2⟩:=qo Ol hf
 obtain ⟨_,_,y3,g3⟩:=qo Om hf
 obtain ⟨_,_,y4,g4⟩:=qo Oo hf
 obtain ⟨_,_,y5,g5⟩:=qo Oq hf
 obtain ⟨_,_,y6,g6⟩:=qo Ot hf
 obtain ⟨_,_,y7,g7⟩:=qo Ou hf
 obtain ⟨z0,e0,_,w0⟩:=DataW.trod_int Dg g0
 obtain ⟨z1,e1,_,w1⟩:=DataW.trod_int Dg g1
 obtain ⟨z2,e2,_,w2⟩:=DataW.trod_int Dg g2
 obtain ⟨z3,e3,_,w3⟩:=DataW.trod_int Dg g3
 obtain ⟨z4,e4,_,w4⟩:=DataW.trod_int XZ g4
 obtain ⟨b5,e5,_⟩:=DataW.trod_bool q6n g5
 obtain ⟨z6,e6,_,w6⟩:=DataW.trod_int XZ g6
 obtain ⟨z7,e7,_,w7⟩:=DataW.trod_int qz2 g7
 rw [quy] at hl
 rw [KS] at e0 e1 e2 e3
 rw [qpz] at e4 e6
 rw [qxc] at e5
 rw [q1p] at e7
 have w4:=KR w4
 have w6:=KR w6
 have w7:=q8g w7
 obtain ⟨n4,rfl⟩:∃n:Nat,z4=n:=⟨z4.toNat,by omega⟩
 obtain ⟨n6,rfl⟩:∃n:Nat,z6=n:=⟨z6.toNat,by omega⟩
 obtain ⟨n7,rfl⟩:∃n:Nat,z7=n:=⟨z7.toNat,by omega⟩
 refine ⟨⟨z0,z1,z2,z3,n4,b5,n6,n7⟩,(ET (m:=lW ⟨z0,z1,z2,z3,n4,b5,n6,n7⟩) hl fun i hi=>?_).symm,⟨qZ w0,qZ w1,qZ w2,qZ w3,by show n4<_;omega,by show n6<_;omega,by show n7<_;omega⟩⟩
 have hi2:i<8:=hi
 have hc:i=0∨i=1∨i=2∨i=3∨i=4∨i=5∨i=6∨i=7:=by omega
 rcases hc with rfl|rfl|rfl|rfl|rfl|rfl|rfl|rfl
 ·exact qv e0
 ·exact qv e1
 ·exact qv e2
 ·exact qv e3
 ·exact qv e4
 ·exact qv e5
 ·exact qv e6
 ·exact qv e7
theorem qu0 {fuel:Nat} {cs:List Value} {x:DataW H×List MemPlace} (hf:DataW.trod enc Tryz.prog W 0 (fun _=>true) true fuel 3 cs=some x):∃y:Int,[bC y]=cs∧bP y:=by
 obtain ⟨z,e,_,w⟩:=DataW.trod_int Dg hf
 exact ⟨z,e.symm,qZ w⟩
structure Ov (W:World) (x:Rw):Prop where
 ok:∀z∈x.l,z.Ok
 hc:x.l.length≤x.c
 rd:Rd W W.heap.size 3 x.A x.l.length (x.l.flatMap jy)
theorem za9 {fuel:Nat} {cs:List Value} {x:DataW H×List MemPlace} (hf:DataW.trod enc Tryz.prog W 0 (fun _=>true) true fuel 176 cs=some x):∃y:Rw,[y.val]=cs∧Ov W y:=by
 obtain ⟨A,c,l,e,h1,_,h3,h4⟩:=Fz (sp:=fun _=>true) jy Sp.Ok za4 q6p de vF (fun _ _ _ h=>za7 h) hf
 exact ⟨⟨A,c,l⟩,e.symm,h3,h1,h4⟩
theorem qu1 {α:Type} (f:α→Value):∀l:List α,(l.flatMap fun x=>[f x])=l.map f
 |[]=>rfl
 |x::r=>by rw [List.flatMap_cons,qu1 f r];rfl
theorem zd2:fieldAt Tryz.prog 44 0 0 3=true:=by kernel_rfl
theorem zd3:fieldAt Tryz.prog 44 1 1 41=true:=by kernel_rfl
theorem zd4:fieldAt Tryz.prog 44 2 2 42=true:=by kernel_rfl
theorem Ow:fieldAt Tryz.prog 48 0 0 44=true:=by kernel_rfl
theorem Ox:fieldAt Tryz.prog 48 1 3 38=true:=by kernel_rfl
theorem Oy:fieldAt Tryz.prog 48 2 4 38=true:=by kernel_rfl
theorem Oz:fieldAt Tryz.prog 48 3 5 45=true:=by kernel_rfl
theorem OA:fieldAt Tryz.prog 48 4 6 46=true:=by kernel_rfl
theorem zd5:fieldAt Tryz.prog 50 0 0 3=true:=by kernel_rfl
theorem zd6:fieldAt Tryz.prog 50 1 1 48=true:=by kernel_rfl
structure IE (W:World) (x:dK):Prop where
 ok:x.aD.Ok
 cap:fK x
 rd:cB W x
theorem zba {fuel:Nat} {cs:List Value} {x:DataW H×List MemPlace} (hf:DataW.trod enc Tryz.prog W 0 (fun _=>true) true fuel 48 cs=some x):∃y:dK,y.cells.toList=cs∧IE W y:=by
 obtain ⟨hl,_,y0,g0⟩:=qo Ow hf
 obtain ⟨_,_,y1,g1⟩:=qo Ox hf
 obtain ⟨_,_,y2,g2⟩:=qo Oy hf
 obtain ⟨_,_,y3,g3⟩:=qo Oz hf
 obtain ⟨_,_,y4,g4⟩:=qo OA hf
 obtain ⟨_,_,k0,c0⟩:=qo zd2 g0
 obtain ⟨_,_,k1,c1⟩:=qo zd3 g0
 obtain ⟨_,_,k2,c2⟩:=qo zd4 g0
 obtain ⟨z0,e0,_,w0⟩:=DataW.trod_int Dg c0
 obtain ⟨z1,e1,_,w1⟩:=DataW.trod_int XZ c1
 obtain ⟨gA,gc,gs,e2,g21,_,g23,g24⟩:=Fz (sp:=fun _=>true) gZ Gr.Ok za2 q6o de zx (fun _ _ _ h=>za6 h) c2
 obtain ⟨lA,lc,ls,e3,l1,_,l3,l4⟩:=Fz (sp:=fun _=>true) (fun y=>[bC y]) bP qux KS de (fun _=>rfl) (fun _ _ _ h=>qu0 h) g1
 obtain ⟨uA,uc,us,e4,u1,_,u3,u4⟩:=Fz (sp:=fun _=>true) (fun y=>[bC y]) bP qux KS de (fun _=>rfl) (fun _ _ _ h=>qu0 h) g2
 obtain ⟨tA,tc,ts,e5,t1,_,t3,t4⟩:=Fz (sp:=fun _=>true) lW Tk.Ok za3 quy de sw (fun _ _ _ h=>za8 h) g3
 obtain ⟨sA,sc,rs,e6,s1,_,s3,s4⟩:=Fz (sp:=fun _=>true) (fun y=>[Rw.val y]) (Ov W) za5 q1q de (fun _=>rfl) (fun _ _ _ h=>za9 h) g4
 rw [qu1] at l4 u4 s4
 rw [quz] at hl
 rw [q1u] at e0 e1 e2
 rw [KS] at e0
 rw [qpz] at e1
 rw [q1r] at e2
 rw [qxd] at e3 e4
 rw [q1s] at e5
 rw [q1t] at e6
 have w1:=KR w1
 obtain ⟨n1,rfl⟩:∃n:Nat,z1=n:=⟨z1.toNat,by omega⟩
 refine ⟨⟨z0,n1,gA,gc,gs,lA,lc,ls,uA,uc,us,tA,tc,ts,sA,sc,rs⟩,(ET (m:=(dK.cells ⟨z0,n1,gA,gc,gs,lA,lc,ls,uA,uc,us,tA,tc,ts,sA,sc,rs⟩).toList) hl fun i hi=>?_).symm,
  ⟨⟨qZ w0,by show n1<_;omega,g23,l3,u3,t3,fun l hl=>?_⟩,⟨g21,l1,u1,t1,s1,fun y hy=>(s3 y hy).hc⟩,⟨g24,l4,u4,t4,s4,fun y hy=>(s3 y hy).rd⟩⟩⟩
 ·have hi2:i<7:=hi
  have q:∀{o:Nat} {u:Value},o<3→(((cs.drop 0).take 3).drop o).take 1=[u]→cs[o]?=some u:=fun {o u} ho h=>by
   have:=qv h
   rwa [List.getElem?_take,if_pos ho,List.drop_zero] at this
  have hc:i=0∨i=1∨i=2∨i=3∨i=4∨i=5∨i=6:=by omega
  rcases hc with rfl|rfl|rfl|rfl|rfl|rfl|rfl
  ·exact q de e0
  ·exact q de e1
  ·exact q de e2
  ·exact qv e3
  ·exact qv e4
  ·exact qv e5
  ·exact qv e6
 ·obtain ⟨y,hy,rfl⟩:=List.mem_map.1 hl
  exact (s3 y hy).ok
end
end Go.Proofs.YtekiimhdnigmcaaGreatDoor
namespace Go.Proofs.YtekiimhdnigmcaaGreatDoor
open Go.RowKit
def q7:Nat→List Nat→List Bk×Nat×Nat
 |0,_=>([],0,0)
 | f + 1, l => if l.length = 0 then ([], 0, 0) else
  if (dA l).2.2≠0 then ([],0,(dA l).2.2) else
   ((dA l).1::(q7 f (l.drop (dA l).2.1)).1,(dA l).2.1+(q7 f (l.drop (dA l).2.1)).2.1,(q7 f (l.drop (dA l).2.1)).2.2)
def IG (l:List Nat):List Bk×Nat×Nat:=if 524288<l.length then ([],0,3) else q7 l.length l
theorem qsh {f:Nat} {l:List Nat} (h:l.length=0):q7 f l=([],0,0):=by
 cases f with
 |zero=>rfl
 |succ f=>rw [q7,if_pos h]
theorem qsi {f:Nat} {l:List Nat} {b:Bk} {m er:Nat} (hf:0<f) (h:0<l.length) (hq:dA l=(b,m,er)) (he:er≠0):q7 f l=([],0,er):=by
 cases f with
 |zero=>omega
 |succ f=>rw [q7,if_neg om,if_pos (by rw [hq];exact he),hq]
theorem qp1 {f:Nat} {l:List Nat} {b:Bk} {m:Nat} (hf:0<f) (h:0<l.length) (hq:dA l=(b,m,0)):q7 f l=(b::(q7 (f-1) (l.drop m)).1,m+(q7 (f-1) (l.drop m)).2.1,(q7 (f-1) (l.drop m)).2.2):=by
 cases f with
 |zero=>omega
 |succ f=>rw [q7,if_neg om,if_neg (by rw [hq];exact fun h=>h rfl),hq];rfl
def qlz (W:World) (lp:Nat) (Inv:List Nat→List Fact→Prop) (Stop:List Fact→Prop):Prop:=
 ∀(rest:List Nat) (F fr:List Fact) (w:World) (A:Option Addr) (c:Nat) (b:Bk) (m er:Nat),Inv rest F→dA rest=(b,m,er)→0<rest.length→(∀x∈rest,x<256)→b.evs.length≤c→Mem W w (.row (.slice A b.evs.length c) b.evs.length (b.evs.flatMap eF) 73 11::(F++fr))→
  YieldAt Fence.wide 0 Tryz.prog lp #[.agg #[.int .u8 (b.kind:Int),.int .u8 (b.cpu:Int),.int .i64 b.lost,.int .i64 b.next,.slice A b.evs.length c,.int .i64 (m:Int)],.int .i64 (er:Int)] w fun e w'=>∃F',Mem W w' (F'++fr)∧((er=0∧e= .returned (.bool true)∧Inv (rest.drop m) F')∨(er≠0∧e= .returned (.bool false)∧Stop F'))
def q1w (W:World) (Inv:List Nat→List Fact→Prop) (Stop:List Fact→Prop) (r:Ending) (w':World):Prop:=∃v,r= .returned v∧∃F',Mem W w' F'∧(Inv [] F'∨Stop F')
theorem qkv {W:World} {fr:List Fact} {er:Nat} {I S:List Fact→Prop}:∀(e:Ending) (w':World),(∃F',Mem W w' (F'++fr)∧((er=0∧e= .returned (.bool true)∧I F')∨(er≠0∧e= .returned (.bool false)∧S F')))→∃v,e= .returned v:=by intros;grind
theorem Rd.zfk {w:World} {B k c:Nat} {A:Option Addr} {l:List Nat} (h:Rd w B 1 A l.length (l.map B8)) (hk:k≤l.length) (hc:l.length≤c):Rd w B 1 (if c=k then A else A.map (·.add (k*1))) (l.drop k).length ((l.drop k).map B8):=by
 rw [List.length_drop]
 exact h.VQ hk hc
theorem q76:SI Tryz.prog 255 6:=⟨by kernel_rfl,by kernel_rfl⟩
theorem qtn (W w:World) (gb lp B:Nat) (A:Option Addr) (c:Nat) (l:List Nat) (Inv:List Nat→List Fact→Prop) (Stop:List Fact→Prop) (F0:List Fact) (hL:aO B W) (hB:B≤W.heap.size) (hr:Rd W W.heap.size 1 A l.length (l.map B8)) (hc:l.length≤c) (hl:∀b∈l,b<256) (hk1:iT l) (hn:l.length≤100000000)
    (hy:qlz W lp Inv Stop) (hI0:Inv l F0) (E:Mem W w (.blk gb #[.slice A l.length c] 30::F0)):
    Calls Tryz.prog 178 (.func (.yield lp) #[] #[]:: [vP gb 0]).toArray w (q1w W Inv Stop):=by
 refine xO Tryz.func178 [.func (.yield lp) #[] #[],vP gb 0] [(0,.func (.yield lp) #[] #[]),(1,vP gb 0)] fun a Z=>?_
 refine Jb Z E ((JB) fun a Z E=>?_)
 refine qc (fun mS aS wS=>∃(rest:List Nat) (X:Option Addr) (cc:Nat) (F:List Fact),(Inv rest F)∧(Rd W W.heap.size 1 X rest.length (rest.map B8))∧(rest.length≤cc)∧(∀b∈rest,b<256)∧(rest.length≤l.length)∧(iT rest)∧mS=rest.length∧Fr aS 29 [] [(0,.func (.yield lp) #[] #[]),(1,vP gb 0)]∧Mem W wS (.blk gb #[.slice X rest.length cc] 30::F)) (m:=l.length) ⟨l,A,c,F0,hI0,hr,hc,hl,Nat.le_refl _,hk1,rfl,Z.sub kr,E.pt 1 [0]⟩ ?_
 clear Z E;rintro mS a w_ ⟨rest,X,cc,F,hI,hX,hcc,hrl,hrn,hrk,rfl,Z,E⟩
 refine Jb Z E ((JQ∘JP∘Jc O0∘Jl∘Jp 1∘aT∘Jj) (Ju (fun kP=>?_) fun kP=>?_))
 ·
  intro a Z E
  have pQ:=of_decide_eq_true kP
  have hne:0<rest.length:=by omega
  obtain ⟨b,m,er,hq⟩:∃b m er,dA rest=(b,m,er):=⟨_,_,_,rfl⟩
  refine Jb Z E ((JT∘aG∘JB∘JP∘Jc O0∘JK (h:=by exact fun E=>q59 X rest.length cc rest B _ (hL.mem E hB) (E.le hB) (E.old hX) hcc rfl om hrl hrk hq)) fun vC c11 wN Ig=>(Jp 1∘Jx∘Jx∘Jx∘JA #[vB 0,vB 0,vI 0,vI 0,vN]) fun w3 g3=>(JV aP bg (h1:=by exact vg _ _ _)) fun Q6=>(Jp 2∘Jj∘JQ) fun a Z E=>?_)
  refine wp_seq ?_
  refine qic (i:=5) ?_
  refine Jb Z E ((Jp 1∘Jy (v:= .agg (b.cells vC c11)) (h:=by exact Yl.qf rfl rfl aP rfl (fun _ h=>qb (h.blk (i:=0) rfl)))∘Jp 1∘Jy (v:= .agg #[vB b.kind,vB b.cpu,vI b.lost,vI b.next,.slice vC b.evs.length c11,vI m]) (h:=by exact Yl.build (vs:=[(0,.agg (b.cells vC c11)),(1,vI m)]) rfl kr kr)∘Jp 1∘Jq) fun a Z E=>?_)
  refine Dv Z (i:=5) (vs:=[.agg #[vB b.kind,vB b.cpu,vI b.lost,vI b.next,.slice vC b.evs.length c11,vI m],vI er]) rfl rfl rfl rfl rfl rfl de (hy rest F _ _ vC c11 b m er hI hq hne hrl Ig (Mem.Fb (es:=[.blk g3 (b.cells vC c11) 85,.blk gb #[.slice X rest.length cc] 30]) (E.pt (fs':=(.row (.slice vC b.evs.length c11) b.evs.length (b.evs.flatMap eF) 73 11:: .blk g3 (b.cells vC c11) 85:: .blk gb #[.slice X rest.length cc] 30::F)) 3 [1,0,2]))) qkv ?_
  clear Z E;rintro v nZ a ⟨F2,E,(⟨he,hv,hI2⟩|⟨he,hv,hS2⟩)⟩ Z<;>injection hv with hv<;>subst hv
  ·
   replace E:Mem W nZ (.blk g3 (b.cells vC c11) 85:: .blk gb #[.slice X rest.length cc] 30::F2):=Mem.zI (es:=[.blk g3 (b.cells vC c11) 85,.blk gb #[.slice X rest.length cc] 30]) E
   have hq0:=hq;rw [he] at hq0;obtain ⟨aaC,hml,_⟩:=Tf hq0;have hst:(rest.drop m).length<rest.length:=by rw [List.length_drop];omega
   refine Jb Z E ((Jp 4∘Jo (.bool false) (by rw [he];simp)∘Jp 1∘aF∘Jq∘JF∘aG∘JR∘Jc O1∘Jp 1∘Jy (v:= .slice (if cc=m then X else X.map (·.add (m*1))) (rest.length-m) (cc-m)) (h:=by exact Yl.sliceFrom aL (j:=m) rfl rfl rfl om)∘Jo (.slice (if cc=m then X else X.map (·.add (m*1))) ((rest.drop m).length) (cc-m)) (by rw [List.length_drop])∘JW gQ bg) fun vD=>(Dr∘Jq) fun a Z E=>?_)
   exact ⟨_,hst,(rest.drop m),if cc=m then X else X.map (·.add (m*1)),cc-m,F2,hI2,Rd.zfk hX hml hcc,by rw [List.length_drop];omega,qc4 hrl m,by omega,hrk.drop m,rfl,Z.sub kr,E.pt 2 [1]⟩
  ·
   replace E:Mem W nZ (.blk g3 (b.cells vC c11) 85:: .blk gb #[.slice X rest.length cc] 30::F2):=Mem.zI (es:=[.blk g3 (b.cells vC c11) 85,.blk gb #[.slice X rest.length cc] 30]) E
   refine Jb Z E ((Jp 5∘aF∘Jq∘JT∘JZ) fun a Z E=>?_)
   exact M5 rfl Z (⟨_,rfl,F2,Mem.SG [.blk g3 (b.cells vC c11) 85,.blk gb #[.slice X rest.length cc] 30] E,.inr hS2⟩)
 intro a Z E
 have pQ:=of_decide_eq_false kP
 have hr0:rest=[]:=List.length_eq_zero_iff.1 om
 refine Jb Z E ((JF∘JX) ?_)
 repeat (first|clear Z|clear E)
 intro a Z E
 subst hr0
 exact nA rfl Z (⟨_,rfl,F,Mem.SG [.blk gb #[.slice X ([]:List Nat).length cc] 30] E,.inl hI⟩)
theorem qx9 (A:Option Addr) (n c:Nat) (w:World):
    Calls Tryz.prog 132 #[.slice A n c] w fun r w'=>∃g,r= .returned (.func (.func 178) #[] #[vP g 0])∧Mem w w' [.blk g #[.slice A n c] 30]:=by
 refine (bZ Tryz.func132 4) ?_
 exact (JP∘M4) fun w1 g1=>(Jp 1∘Jr∘Jy (h:=by exact Yl.makeFunc (fst:=[]) (caps:=[vP g1 0]) rfl rfl rfl)∘Jp 1∘aQ∘Jj∘JZ∘aH) fun E=>by exact ⟨_,rfl,E⟩
def eD (bs:List Bk):List Nat:=bs.flatMap Bk.out
def dO:List Bk→Nat
 |[]=>0
 |b::t=>if b.err=0 then dO t else b.err
def zh (bs:List Bk):List Nat×Nat:=if dO bs≠0 then ([],dO bs) else if 524288<(eD bs).length then ([],3) else (eD bs,0)
theorem ql0 {bs:List Bk} (h:dO bs≠0):zh bs=([],dO bs):=by unfold zh;rw [if_pos h]
theorem qj0 {bs:List Bk} (h:dO bs=0) (h2:524288<(eD bs).length):zh bs=([],3):=by unfold zh;rw [if_neg om,if_pos h2]
theorem qp2 {bs:List Bk} (h:dO bs=0) (h2:¬524288<(eD bs).length):zh bs=(eD bs,0):=by unfold zh;rw [if_neg om,if_neg h2]
theorem X0 (bs:List Bk):(zh bs).1.length≤524288:=by grind [zh]
theorem OH {q:List Hb} {k:Nat} (h:k<q.length):dO ((q.drop k).map Hb.b)=if (q.getD k Hb.zero).b.err=0 then dO ((q.drop (k+1)).map Hb.b) else (q.getD k Hb.zero).b.err:=by
 rw [qkt Hb.zero h,List.map_cons,dO]
theorem X3 {q:List Hb} {k:Nat} (h:k<q.length):eD ((q.take (k+1)).map Hb.b)=eD ((q.take k).map Hb.b)++(q.getD k Hb.zero).b.out:=by grind [Hb.zero,eD,Lj]
theorem q6r (bs:List Bk):(eD bs).length≤4096*bs.length:=by induction bs<;>grind [WO,eD]
theorem q1y {q:List Hb} (k:Nat):(eD ((q.take k).map Hb.b)).length≤4096*q.length:=by grind [q6r]
def l6 (next:Int):Bk:=⟨2,0,0,next,[]⟩
theorem zbb {next:Int} (h:bP next):(l6 next).Ok:=⟨by show 2<256;decide,by show 0<256;decide,by show bP 0;unfold bP;decide,h,by intro e he;cases he⟩
def readAll (l:List Nat):List Bk×Nat:=if (IG l).2.2≠0 then ([],(IG l).2.2) else ((IG l).1,0)
theorem qih {l:List Nat} (h:524288<l.length):readAll l=([],3):=by unfold readAll IG;rw [if_pos h];rfl
theorem qj1 {l:List Nat} {e:Nat} (h:¬524288<l.length) (he:(q7 l.length l).2.2=e) (hen:e≠0):readAll l=([],e):=by unfold readAll IG;rw [if_neg h,if_pos om,he]
theorem ql1 {l:List Nat} (h:¬524288<l.length) (he:(q7 l.length l).2.2=0):readAll l=((q7 l.length l).1,0):=by unfold readAll IG;rw [if_neg h,if_neg om]
section
variable {W w:World} {fs:List Fact} {t bt:TypeId}
theorem CY {w w':World} {p:List Nat×Nat} {er:Nat} {n:Int} (hb:Below w.heap.size w w') (he:p=([],er)) (hn:n=er):qx w p.2 p.1 (.returned (.tuple #[vN,vI n])) w':=by
 subst he;subst hn
 exact ⟨⟨none,0,rfl,World.ownsRow_nil _ _ _ _,Nat.le_refl _⟩,hb⟩
theorem qp4 {p:List Bk×Nat} {er:Nat} {n:Int} (h:Mem W w fs) (he:p=([],er)) (hn:n=er):Ie t bt W p.2 p.1 (.returned (.tuple #[vN,vI n])) w:=by
 subst he;exact q56 h hn
end
section
variable {W w w':World} {fs gs:List Fact} {f g1 g2:Fact}
end
def II (W:World) (tw:TypeId) (g:Nat) (lim:Int) (out:List Nat) (fs:List Fact) (v:Value) (r:Ending) (w':World):Prop:=
 r= .returned v∧∃A c,out.length≤c∧Mem W w' (.blk g #[vI lim,.slice A out.length c] tw:: .row (.slice A out.length c) out.length (out.map B8) 5 1::fs)
theorem II.as {W w':World} {tw:TypeId} {g:Nat} {lim:Int} {out out':List Nat} {fs:List Fact} {v v':Value} {r:Ending} (h:II W tw g lim out fs v r w') (h1:out=out') (h2:v=v'):II W tw g lim out' fs v' r w':=by subst h1;subst h2;exact h
section
variable {W w w':World} {fs gs:List Fact} {f1 f2:Fact}
end
section
variable {W w:World} {a b c:List Fact} {t:TypeId} {q:List Hb}
end
instance ahM:DecidableEq It:=fun ⟨a,b⟩ ⟨c,d⟩=>decidable_of_iff (a=c∧b=d) (by rw [It.mk.injEq])
structure QV where
 fin:Bool
 cpu:Nat
 A:Option Addr
 c:Nat
 l:List It
 opn:Int
 next:Int
def QV.zero:QV:=⟨false,0,none,0,[],0,0⟩
def QV.cells (x:QV):Array Value:= #[.bool x.fin,.int .u8 (x.cpu:Int),.slice x.A x.l.length x.c,.int .i64 x.opn,.int .i64 x.next]
structure atS (W:World) (x:QV):Prop where
 cpu:x.cpu<256
 ok:∀y∈x.l,y.Ok
 opn:bP x.opn
 next:bP x.next
 hc:x.l.length≤x.c
 hm:x.c≤maxLen
 rd:Rd W W.heap.size 12 x.A x.l.length (x.l.flatMap itL)
section
variable {W w w':World} {c k er:Nat} {lim n m:Int} {A:Option Addr} {out:List Nat} {fs:List Fact} {f g:Fact}
theorem hbx {a b:Nat} (h:a=b):((a:Int)==(b:Int))=true:=by subst h;simp
end
theorem zcm {q:List Hb} {k:Nat} (h:k<q.length) (h0:dO (q.map Hb.b)=dO ((q.drop k).map Hb.b)) (hz:(q.getD k Hb.zero).b.err≠0):dO (q.map Hb.b)=(q.getD k Hb.zero).b.err:=by rw [h0,OH h,if_neg hz]
theorem zcn {q:List Hb} {k:Nat} (h:k<q.length) (h0:dO (q.map Hb.b)=dO ((q.drop k).map Hb.b)) (hz:(q.getD k Hb.zero).b.err=0):dO (q.map Hb.b)=dO ((q.drop (k+1)).map Hb.b):=by rw [h0,OH h,if_pos hz]
end Go.Proofs.YtekiimhdnigmcaaGreatDoor
